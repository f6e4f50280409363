/- sliceMirror.proved: for every input the law returns true. No condition. Part 6 of 7. -/
import Derived.Ground.Names2Prog
import Derived.Ground.NamesProg
import Derived.Lib.SlicesCompact
import Derived.Shelf.Slices.CompactI
import Derived.Shelf.Slices.In.SortNone
import Derived.Shelf.Sort.Plain
import Derived.Test.YtfadjbljajfkfaaGreatProg
import Derived.Test.YtfadjbljajfkfaaGreatZ5
set_option maxRecDepth 1000000
set_option maxHeartbeats 8000000
set_option linter.unusedVariables false
set_option linter.unusedSimpArgs false
set_option linter.unnecessarySimpa false
set_option linter.defProp false
namespace Go.Proofs.YtfadjbljajfkfaaGreat
open Go Tryz
section
variable {w1 w:World} {g r:Nat} {ab:Addr} {vP:Value} {x:WX} {c:WC}
def WS.pushE(s:WS w1 w g r ab vP x c)(y:Eg)(F:c.E.length<=999999999999){e:TypeId}:
  (Instr.buildSlice 55 1 #[(0,.agg (A0.cells y).toArray)]).run prog w = .ok (.slice (some ⟨w.heap.size,0,none⟩) 1 1) (w.alloc (.cells (A0.cells y).toArray 67)) /\
  (∀d,o9 (A3 x.vE) w d->(Instr.loadAt 55 (.pointer (some ⟨g,3,none⟩))).run prog d = .ok x.vE d) /\
  ∃f d a,(Builtin.append_ #[55,55] e #[x.vE,.slice (some ⟨w.heap.size,0,none⟩) 1 1]).run prog (w.alloc (.cells (A0.cells y).toArray 67)) = .ok f d/\(Instr.storeAt 55 (.pointer (some ⟨g,3,none⟩)) f).run prog d = .ok () a /\
   WS w1 a g r ab vP {x with vE:=f} {c with E:=c.E++[y]}/\o9 (A3 x.vE) w d/\o9 (λb=>R3 g r x 0 b\/R3 g r x 3 b) w a/\∀j b,R3 g r {x with vE:=f} j b->R3 g r x j b\/w.heap.size<=b:=by
 obtain⟨u,k,n⟩:=bV3;obtain⟨v,f,d,z,A,o,q⟩:=push (P:=prog) (t:=55) (e:=e) ct3 rfl s.oE (x:=.agg (A0.cells y).toArray) (y:=y) ((A0.iff_ _ _ _).2 rfl) (by omega) (by omega) (X7 _);have m:=λ(p:World) (l:o9 (A3 x.vE) w p)=>(l.block g (s.lt (i:=0) rfl) (s.off (i:=0) (j:=3) (by decide) rfl)).trans s.cb;obtain⟨a,B,C,D⟩:=s.putE o A q k n;refine⟨v,λp l=>E2 (m p l) rfl bk9,f,d,a,z,B,C,o,(o.weaken λ_ _ h=>.inr h).trans (D.weaken λ_ _ h=>.inl h),λj b h=>?_⟩
 match j,h with
 | 0,h=>exact .inl h
 | 1,h=>exact .inl h
 | 2,h=>exact .inl h
 | 3,h=>exact q b h
 | 4,h=>exact .inl h
 | 5,h=>exact .inl h
 | 6,h=>exact .inl h
 | _+7,h=>exact h.elim
def WS.pushS(s:WS w1 w g r ab vP x c)(y:Eg)(E:c.S.length<=999999999999){e:TypeId}:
  (Instr.buildSlice 55 1 #[(0,.agg (A0.cells y).toArray)]).run prog w = .ok (.slice (some ⟨w.heap.size,0,none⟩) 1 1) (w.alloc (.cells (A0.cells y).toArray 67)) /\
  (∀d,o9 (A3 x.vS) w d->(Instr.loadAt 55 (.pointer (some ⟨g,4,none⟩))).run prog d = .ok x.vS d) /\
  ∃f d a,(Builtin.append_ #[55,55] e #[x.vS,.slice (some ⟨w.heap.size,0,none⟩) 1 1]).run prog (w.alloc (.cells (A0.cells y).toArray 67)) = .ok f d/\(Instr.storeAt 55 (.pointer (some ⟨g,4,none⟩)) f).run prog d = .ok () a /\
   WS w1 a g r ab vP {x with vS:=f} {c with S:=c.S++[y]}/\o9 (A3 x.vS) w d/\o9 (λb=>R3 g r x 0 b\/R3 g r x 4 b) w a/\∀j b,R3 g r {x with vS:=f} j b->R3 g r x j b\/w.heap.size<=b:=by
 obtain⟨u,k,n⟩:=bV3;obtain⟨v,f,d,z,A,o,q⟩:=push (P:=prog) (t:=55) (e:=e) ct3 rfl s.oS (x:=.agg (A0.cells y).toArray) (y:=y) ((A0.iff_ _ _ _).2 rfl) (by omega) (by omega) (X7 _);have m:=λ(p:World) (l:o9 (A3 x.vS) w p)=>(l.block g (s.lt (i:=0) rfl) (s.off (i:=0) (j:=4) (by decide) rfl)).trans s.cb;obtain⟨a,B,C,D⟩:=s.putS o A q k n;refine⟨v,λp l=>E2 (m p l) rfl bk9,f,d,a,z,B,C,o,(o.weaken λ_ _ h=>.inr h).trans (D.weaken λ_ _ h=>.inl h),λj b h=>?_⟩
 match j,h with
 | 0,h=>exact .inl h
 | 1,h=>exact .inl h
 | 2,h=>exact .inl h
 | 3,h=>exact .inl h
 | 4,h=>exact q b h
 | 5,h=>exact .inl h
 | 6,h=>exact .inl h
 | _+7,h=>exact h.elim
theorem cx3(q:A6)(k:Int):B8 prog 26 [(0,p6 q),(1,.int .i64 k)]=some (.agg (A0.cells (⟨q,k,0,e0⟩:Vx)).toArray):=by
 have h:A0.cells (⟨q,k,0,e0⟩:Vx)=[p6 q,.int .i64 k,.int .i64 0,p6 e0]:=rfl;rw[h];simp[B8,bH4,K8,Instr.fill,Value.cells,p6,e0];rfl
def cx4(q:A6)(k:Int)(n:A6):B8 prog 26 [(0,p6 q),(1,.int .i64 k),(3,p6 n)]=some (.agg (A0.cells (⟨q,k,0,n⟩:Vx)).toArray):=by
 have h:A0.cells (⟨q,k,0,n⟩:Vx)=[p6 q,.int .i64 k,.int .i64 0,p6 n]:=rfl;rw[h];simp[B8,bH4,K8,Instr.fill,Value.cells,p6]
def bP6(g r:Nat)(x:WX)(b:Nat):Prop:=∃i,R3 g r x i b
def cF1{p:Pg}(s:WS w1 w g r ab vP x c)(hb:At (i4 w1) ab (d9 p))(hr:D4 p)(hw:C5 p<=1000000)(aF:∀v∈c.V,v.id=0\/(1<=v.id/\v.id<=(b9 p).l.length))(hn:c.V.length<=1000000)(hE:c.E.length<=1000000000):
  p7 prog 79 #[.pointer (some ⟨g,0,none⟩)] w λ_ a=>(∃Y,WS w1 a g r ab vP {x with vE:=Y} {c with E:=c.E++c.V.flatMap (d9 p).joinOf}):=by
 refine p9 [.pointer (some ⟨g,0,none⟩)] func79 rfl ?_;obtain⟨sh,_,_,_,_,_,has,_,_,_,_,_,ba,aU⟩:=hb.book rfl;obtain⟨vl,_,_,al,_,_,_,bb,aV⟩:=has.sh;have lV:=s.ld (i:=2) (u:=x.vV) rfl af9;have aB:=s.oV.isS;have aI:=s.oV.vlen;have aY:=J1 hr.may;simp only[m8,o6,simprocAttr,lV,aB,aI];refine n9 [0,8,9] (σ:=Nat×Value) (λt f a=>f 10 = .int .i64 t.1/\t.1<=c.V.length/\WS w1 a g r ab vP {x with vE:=t.2} {c with E:=c.E++(c.V.take t.1).flatMap (d9 p).joinOf}) (λt=>c.V.length-t.1) (0,x.vE) ?_ ?_
 ·simp only[p8,simprocAttr];exact⟨by trivial,dN6 _,by simpa using s⟩
 rintro⟨k,n⟩ f w2 hk ⟨o,aH,X⟩;simp only at o aH X;simp only[dM6,p8,simprocAttr]at hk;obtain⟨Z,k8,k9,_⟩:=hk;simp only[m8,o6,simprocAttr,o,k9];refine n7 (λhc=>?_) (λhc=>?_);rotate_left
 ·have aE:k=c.V.length:=by simp at hc;omega
  subst aE;rw[dN8]at X;simp only[m8,simprocAttr];refine bG3 results79 ?_;exact⟨n,X⟩
 have F:k<c.V.length:=by simpa using hc
 have hV:=X.rV;simp only at hV;have T:=hV.inS F;obtain⟨sv,ah,D⟩:=F9 (P:=prog) (t:=26) hV (i5 _) (dM4 F) at6 at9 an8 O9;rw[O9]at D;have aj:=H4 (d9 p).joinOf c.V F;have J:=aF _ (dN5 F);generalize c.V[k]=y at ah aj J;obtain rfl:=ah.N;obtain⟨a3,wz,w3,O,W,aL,ad⟩:=aw0 (w:=w2) (bP6 g r {x with vE:=n}) (SV.ofN (i4 w2) y) λb ⟨i,hb⟩=>X.lt hb;obtain⟨ap,au⟩:=K7.vx (SV.ofN (i4 w2) y) ad;obtain⟨bc,aW⟩:=K7.vx_v (SV.ofN (i4 w2) y) ad;have s3:=X.more aL;have ly:=ap w3 (B2 _ _);generalize an:c.E++(c.V.take k).flatMap (d9 p).joinOf=xs at X s3;have a7:xs.length<=1001000000:=by
  have h1:=N5 (d9 p).joinOf 1 (c.V.take k) λz _=>bV8 z;rw[dN9]at h1;rw[<-an,dM7];have H:min k c.V.length<=1000000:=by omega
  omega
 have B:c.E++(c.V.take (k+1)).flatMap (d9 p).joinOf=xs++(d9 p).joinOf y:=by rw[aj,<-an,dP5]
 have V:(d9 p).joinOf y=[]->∀a,WS w1 a g r ab vP {x with vE:=n} {c with E:=xs}->WS w1 a g r ab vP {x with vE:=n} {c with E:=c.E++(c.V.take (k+1)).flatMap (d9 p).joinOf}:=λh a s=>by rw[B,h,dP8];exact s
 rcases dM5 (decide (y.id=0))with h0|h0
 ·have hj:(d9 p).joinOf y=[]:=by unfold Bk.joinOf;rw[if_pos (.inl (dM8 h0))]
  simp only[m8,o6,y0,simprocAttr,o,k8,T,D,O,W,ly,h0];exact⟨(k+1,n),by simp only[];omega,by simp only[];rw[B0 k (by omega)],by simp only[];omega,V hj _ s3⟩
 have ac:=dN2 h0;obtain⟨aM,aN⟩:=J.resolve_left ac;obtain⟨j,aG⟩:∃j:Nat,y.id=(j:Int)+1:=⟨(y.id-1).toNat,by omega⟩;have U:j<(b9 p).l.length:=by omega
 have aK:IntKind.i64.wrap (y.id-1)=(j:Int):=by rw[M3 _ (by omega)];omega
 have af:=al.inS (k:=j) U;have C:=al.at_ (i:=j) (x:=(b9 p).l[j]) (dM4 U);have ao:A4.sz It=17:=rfl;rw[ao]at C;have ag:(d9 p).s.it y.id=(b9 p).l[j]:=by
  have hs:(d9 p).s=b9 p:=rfl;rw[hs,aG];unfold Sh.it;rw[show((j:Int)+1-1).toNat=j by omega,List.getD,dM4 U];rfl
 have q:(d9 p).joinOf y=if y.id=0\/(d9 p).isCall y.id=false then[]else if y.kind=2 then[⟨y,⟨(b9 p).l[j].s.proc,1,0,e0⟩,4⟩]else if y.kind=5 then[⟨y,⟨(b9 p).l[j].s.proc,3,0,y.slot⟩,5⟩]else if y.kind=6 then[⟨⟨(b9 p).l[j].s.proc,4,0,y.slot⟩,y,6⟩]else[]:=by
  unfold Bk.joinOf;rw[ag]
 generalize(b9 p).l[j]=it at C q;obtain⟨ae,_,_⟩:=C.it;obtain⟨_,_,_,_,_,_,_,_,_,aP,_⟩:=ae.st;have A:=λa (s':WS w1 a g r ab vP {x with vE:=n} {c with E:=xs})=>cv7 s' hb hr hw aM aN;generalize(d9 p).isCall y.id=ic at q A;rcases dM5 ic with h1|h1<;>subst h1;rotate_left
 ·rw[if_pos (.inr rfl)]at q;simp only[m8,o6,y0,simprocAttr,o,Z,k8,T,D,O,W,ly,h0];refine B9 (A w3 s3) (λl G=>?_);simp only[m8,o6,simprocAttr,o];exact⟨(k+1,n),by simp only[];omega,by simp only[];rw[B0 k (by omega)],by simp only[];omega,V q _ (s3.more G)⟩
 rw[if_neg (by simpa using ac)]at q;simp only[m8,o6,y0,simprocAttr,o,Z,k8,T,D,O,W,ly,h0];refine B9 (A w3 s3) (λl G=>?_);have s4:=(s3.more G).more (o7.drew l);have am:=G.trans (o7.drew l);have Q:B5 (i4 w1) (i4 l.drew):=s4.base;have R:B5 (B6 w3 (bP6 g r {x with vE:=n})) (i4 l.drew):=t8 (B2 _ _) (b7 am);have t0:∀K f d m,F3 prog (λa=>a=l.drew) (Instr.loadAt 87 (.pointer (some ⟨g,0,none⟩))) K f d m=K (C4 f d (.pointer (some ab))) m:=λK f d m=>B7 (w0:=l.drew) rfl λa h=>by subst h;exact s4.ld rfl aA1
 have t1:=aU (λa=>a=l.drew) l.drew rfl λa h=>by subst h;exact Q
 have t2:=aV (λa=>a=l.drew) l.drew rfl λa h=>by subst h;exact Q
 have t3:=au (λa=>a=l.drew) l.drew rfl λa h=>by subst h;exact R
 have aQ:=aP l.drew Q;have aS:=ap l.drew R;simp only[m8,o6,simprocAttr];refine C0 (λa=>a=l.drew) 13 (A5 [0,1,2,3,4,5,6,7,8,9,10,11,12]) ?_;simp only[D6,A5,m8,o6,y0,simprocAttr,Z,t0,t1,t2,t3,aK,af,aQ,aS];have hm:∀a,o9 (A3 n) l.drew.drew a->B5 (B6 w3 (bP6 g r {x with vE:=n})) (i4 a):=λa h=>H5 (t8 R (b7 (o7.drew l.drew))) h λb hb=>F2 ⟨3,hb⟩;have s5:=s4.more (o7.drew l.drew);have u1:=aW (λa=>o9 (A3 n) l.drew.drew a) l.drew.drew (o9.refl _) hm;have u2:=au (λa=>o9 (A3 n) l.drew.drew a) l.drew.drew (o9.refl _) hm;have aJ:=cx3 it.s.proc 1;have ak:=cx4 it.s.proc;have S:=bp3;rcases dM5 (decide (y.kind=2))with H|H
 ·rw[if_pos (dM8 H)]at q;obtain⟨p1,I,Y,w6,w7,L,p3,N,M,_⟩:=s5.pushE ⟨y,⟨it.s.proc,1,0,e0⟩,4⟩ (by simp only[];omega) (e:=55);simp only at L I M N;have u0:∀K f d m,F3 prog (λa=>o9 (A3 n) l.drew.drew a) (Instr.loadAt 55 (.pointer (some ⟨g,3,none⟩))) K f d m=K (C4 f d n) m:=λK f d m=>B7 (w0:=l.drew.drew) (o9.refl _) I;simp only[m8,simprocAttr,H];refine C0 (λa=>o9 (A3 n) l.drew.drew a) 11 (A5 [0,1,2,3,4,5,6,7,8,9,10]) ?_;simp only[D6,A5,m8,o6,simprocAttr,Z,u0,u1,aJ,S,p1,L,E8];refine⟨o9.up (o7.alloc _ _),M,?_⟩;simp only[m8,o6,simprocAttr,p3,o];exact⟨(k+1,Y),by simp only[];omega,by simp only[];rw[B0 k (by omega)],by simp only[];omega,by simp only[];rw[B,q];exact N⟩
 rw[if_neg (dN2 H)]at q;rcases dM5 (decide (y.kind=5))with h5|h5
 ·rw[if_pos (dM8 h5)]at q;obtain⟨p1,I,Y,w6,w7,L,p3,N,M,_⟩:=s5.pushE ⟨y,⟨it.s.proc,3,0,y.slot⟩,5⟩ (by simp only[];omega) (e:=55);simp only at L I M N;have u0:∀K f d m,F3 prog (λa=>o9 (A3 n) l.drew.drew a) (Instr.loadAt 55 (.pointer (some ⟨g,3,none⟩))) K f d m=K (C4 f d n) m:=λK f d m=>B7 (w0:=l.drew.drew) (o9.refl _) I;simp only[m8,o6,simprocAttr,H,h5];refine C0 (λa=>o9 (A3 n) l.drew.drew a) 13 (A5 [0,1,2,3,4,5,6,7,8,9,10,11,12]) ?_;simp only[D6,A5,m8,o6,simprocAttr,Z,u0,u1,u2,ak,S,p1,L,E8];refine⟨o9.up (o7.alloc _ _),M,?_⟩;simp only[m8,o6,simprocAttr,p3,o];exact⟨(k+1,Y),by simp only[];omega,by simp only[];rw[B0 k (by omega)],by simp only[];omega,by simp only[];rw[B,q];exact N⟩
 rw[if_neg (dN2 h5)]at q;rcases dM5 (decide (y.kind=6))with h6|h6
 ·rw[if_pos (dM8 h6)]at q;obtain⟨p1,I,Y,w6,w7,L,p3,N,M,_⟩:=s5.pushE ⟨⟨it.s.proc,4,0,y.slot⟩,y,6⟩ (by simp only[];omega) (e:=55);simp only at L I M N;have u0:∀K f d m,F3 prog (λa=>o9 (A3 n) l.drew.drew a) (Instr.loadAt 55 (.pointer (some ⟨g,3,none⟩))) K f d m=K (C4 f d n) m:=λK f d m=>B7 (w0:=l.drew.drew) (o9.refl _) I;simp only[m8,o6,simprocAttr,H,h5,h6];refine C0 (λa=>o9 (A3 n) l.drew.drew a) 13 (A5 [0,1,2,3,4,5,6,7,9,8,10,11,12]) ?_;simp only[D6,A5,m8,o6,simprocAttr,Z,u0,u1,u2,ak,S,p1,L,E8];refine⟨o9.up (o7.alloc _ _),M,?_⟩;simp only[m8,o6,simprocAttr,p3,o];exact⟨(k+1,Y),by simp only[];omega,by simp only[];rw[B0 k (by omega)],by simp only[];omega,by simp only[];rw[B,q];exact N⟩
 rw[if_neg (dN2 h6)]at q;simp only[m8,o6,simprocAttr,H,h5,h6,o];exact⟨(k+1,n),by simp only[];omega,by simp only[];rw[B0 k (by omega)],by simp only[];omega,V q _ s4⟩
end
def bZ0(a:Addr)(p:Pg)(w:World)(ha:At (i4 w) a (d9 p))(hr:D4 p)(hw:C5 p<=1000000):
  p7 prog 75 #[.pointer (some a)] w λu j=>(A8 (i4 w) j 9 u (d9 p).reached/\o7 w j):=by
 refine p9 [.pointer (some a)] func75 rfl ?_;have K:=hr.toKnown;have bz:=bN5 hr.may;obtain⟨sh,vw,_,_,_,_,has,aP,_,_,_,_,be,aV⟩:=ha.book rfl;have hF:(d9 p).reached=T4 (P4 (d9 p).calledBy 1000 0 [J8]):=rfl;have aC:=λm hm=>aB0 K (n:=m) hm;have hG:∀m,(d9 p).calledBy m=(((b9 p).of ((b9 p).pr m)).filter λit=>decide (it.s.kind=4)&&((d9 p).way ((b9 p).pr m)).lives it.s.id).map (·.s.proc):=λm=>rfl;have am:=aR1 K;generalize(d9 p).calledBy=gg at hF aC hG;have aK:(p.procs.map (·.name)).length=p.procs.length:=dN4 _;obtain⟨u1,wl,aI,a9,bb,_⟩:=lit (P:=prog) (w:=w) (h:=i4 w) (α:=A6) (xs:=[p6 J8]) (ys:=[J8]) (parts:=#[(0,p6 J8)]) (n:=1) at4 rfl (ay0.2 rfl) (by simp[p6,Value.cells]) rfl rfl (by simp) (by simp) (i5 _);have ba:Value.string {data:=#[109,97,105,110]}=p6 J8:=rfl;simp only[m8,o6,simprocAttr,ba,aI];refine n9 [0] (σ:=Nat×Value×List A6) (λs f j=>f 4 = .int .i64 s.1/\f 3=s.2.1/\s.1<=s.2.2.length/\A8 (i4 w) j 9 s.2.1 s.2.2/\s.2.2.Nodup/\(∀x∈s.2.2,x∈p.procs.map (·.name))/\P4 gg 1000 0 [J8]=P4 gg (1000-s.1) s.1 s.2.2/\o7 w j) (λs=>1000-s.1) (0,u1,[J8]) ?_ ?_
 ·simp only[p8,simprocAttr];exact⟨by trivial,by trivial,dN6 _,a9,by simp,by simpa using am,by simp,bb⟩
 rintro⟨i,u,A⟩ f w2 hk ⟨h4,h3,a4,ho,ao,I,C,aR⟩;simp only at h4 h3 a4 ho ao I C;simp only[dM6,p8,simprocAttr]at hk;obtain⟨aj,_⟩:=hk;have bx:A.length<=p.procs.length:=by rw[<-aK];exact I2 ao I
 have a1:=ho.isS;have a8:=ho.vlen;simp only[m8,o6,simprocAttr,h4,h3,a1,a8];refine n7 (λhc=>?_) (λhc=>?_);rotate_left
 ·have al:i=A.length:=by simp at hc;omega
  subst al;rw[bp5 gg _ _ _ (dO0 _)]at C;simp only[m8,simprocAttr,h3];refine y5 (aj5 ho (by omega)) ?_;rintro _ w4 ⟨aq,a6⟩;simp only[m8,simprocAttr,h3];exact o8 results75 ⟨by rw[hF,C];exact aq,ho.ext2 aR a6⟩
 have Y:i<A.length:=by simpa using hc
 have W:=ho.inS Y;have an:=I _ (dN5 Y);have L:=aR.trans (o7.drew w2);have aM:=ho.ext (o7.drew w2);have N:=ldS (aM.rw_ (b7 L)) (i5 _) Y;rw[show 1000-i=(999-i)+1 by omega,bC1 gg _ _ _ Y]at C;generalize A[i]=m at N an C;obtain⟨c,V,aN,bw⟩:=Q9 an;obtain⟨xx,pt⟩:=J5 hr.may hw c V;have Q:=pt.ids;have au:=P2 pt;generalize xx+A9 p.procs[c].body=y at pt au Q;have bm:=J1 hr.may;obtain⟨aw,a3,aB⟩:=am9 (hv:=aP) (k:=c) (p:=⟨D5 (b9 p) c⟩) (by show((I0 p).map λw=>(⟨w⟩:Ptr Wy))[c]?=_;rw[dP9,S7 V];rfl);simp only at aB;have aF:=aP.inS (k:=c) (by show c<((I0 p).map λw=>(⟨w⟩:Ptr Wy)).length;unfold I0;simpa using V);have U:=hG m;rw[aN,L8 V]at U;have ad:=aC m an;have t1:∀K f d av,F3 prog (λj=>j=w2.drew) (Instr.loadAt 9 (.pointer (some (G4 u i)))) K f d av=K (C4 f d (p6 m)) av:=λK f d av=>B7 (w0:=w2.drew) rfl λj h=>by subst h;exact N
 have t2:=aV (λj=>j=w2.drew) w2.drew rfl λj h=>by subst h;exact b7 L
 simp only[m8,simprocAttr];refine C0 (λj=>j=w2.drew) 8 (A5 [0,1,2,3,4,5,6,7]) ?_;simp only[D6,A5,m8,o6,y0,simprocAttr,aj,h3,h4,W,t1,t2];refine B9 (at0 sh (b9 p) m w2.drew (has.mono (b7 L)) (by rw[K9];omega)) (λw3 aS=>?_);have T:=L.trans aS;have bd:=be w3 (b7 T);rw[aN];simp only[m8,o6,simprocAttr,aj,bd];refine y5 (az3 (i4 w) sh (b9 p) c xx y w3 has (b7 T) pt.ok) ?_;rintro ui w4 ⟨S,aT⟩;have aQ:=T.trans aT;have aq:=aM.ext (aS.trans aT);have aH:((b9 p).of (c:Int)).length<=1000000:=by
  rw[pt.ok.of_,dU8,dN9];omega
 generalize(b9 p).of (c:Int)=l at S U Q aH;have a0:=S.isS;have a7:=S.vlen;generalize gg m=G at U C ad;subst U;simp only[m8,o6,simprocAttr,a0,a7];refine n9 [0,4,5,29,30] (σ:=Nat×Value×List A6) (λs f j=>f 31 = .int .i64 s.1/\f 3=s.2.1/\s.1<=l.length/\A8 (i4 w) j 9 s.2.1 s.2.2/\s.2.2.Nodup/\(∀x∈s.2.2,x∈p.procs.map (·.name))/\A.length<=s.2.2.length/\R6 A ((l.filter λit=>decide (it.s.kind=4)&&(D5 (b9 p) c).lives it.s.id).map (·.s.proc))=R6 s.2.2 (((l.drop s.1).filter λit=>decide (it.s.kind=4)&&(D5 (b9 p) c).lives it.s.id).map (·.s.proc))/\o7 w j) (λs=>l.length-s.1) (0,u,A) ?_ ?_
 ·simp only[p8,simprocAttr];exact⟨by trivial,by trivial,dN6 _,aq,ao,I,dO0 _,by rw[dV7],aQ⟩
 rintro⟨k,u5,o⟩ f5 w5 hk ⟨B,E,a5,ar,r,g,X,q,aa⟩;simp only at B E a5 ar r g X q;simp only[dM6,p8,simprocAttr]at hk;obtain⟨g0,g4,g5,ax,aZ,_⟩:=hk;rw[aj]at g0;have bq:o.length<=p.procs.length:=by rw[<-aK];exact I2 r g
 simp only[m8,o6,simprocAttr,B,aZ];refine n7 (λhc=>?_) (λhc=>?_);rotate_left
 ·have al:k=l.length:=by simp at hc;omega
  subst al;rw[dV9,List.filter_nil,List.map_nil,R6]at q;rw[q]at C;rw[h4]at g4;simp only[m8,o6,simprocAttr,g4];refine⟨(i+1,u5,o),by simp only[];omega,by simp only[];rw[B0 i (by omega)],E,by simp only[];omega,ar,r,g,?_,aa⟩;simp only[];rw[C]
  congr 1
  omega
 have H:k<l.length:=by simpa using hc
 have W:=S.inS H;obtain⟨sv,aO,N⟩:=F9 (P:=prog) (t:=150) S (b7 aa) (dM4 H) X0 X2 V5 H9;rw[H9]at N;have ae:=dN5 H;have aE:=Q _ ae;rw[dR1 H]at q;have M:(decide (l[k].s.kind=4)&&(D5 (b9 p) c).lives l[k].s.id)=true->l[k].s.proc∈p.procs.map (·.name):=λh=>ad _ (dO7.2 ⟨_,dP2.2 ⟨ae,h⟩,rfl⟩);generalize l[k]=it at aO q aE M;obtain⟨d,bM,O,ac,af,bc,az⟩:=ak8 (aO.mono (b7 aa)) (i5 _);obtain⟨aA,_,_⟩:=az.it;obtain⟨_,_,_,_,_,_,_,_,_,bf,bi⟩:=aA.st;have ag:=bc.trans (o7.drew O);have J:=aa.trans ag;have aL:=ar.ext ag;have aD:∀j,o7 O.drew j->B5 (i4 w) (i4 j):=λj h=>b7 (J.trans h);have r1:=bi (λj=>o7 O.drew j) O.drew (o9.refl _) λj h=>b7 ((o7.drew O).trans h);have r2:=aV (λj=>o7 O.drew j) O.drew (o9.refl _) aD;have r3:=bw2 (P:=prog) (t:=114) a3 an1 (λj=>o7 O.drew j) O.drew (o9.refl _) aD;have v:(decide (it.s.kind=4)&&(D5 (b9 p) c).lives it.s.id)=false->R6 A ((l.filter λit=>decide (it.s.kind=4)&&(D5 (b9 p) c).lives it.s.id).map (·.s.proc))=R6 o (((l.drop (k+1)).filter λit=>decide (it.s.kind=4)&&(D5 (b9 p) c).lives it.s.id).map (·.s.proc)):=λh=>by
  rw[q,List.filter_cons,h];rfl
 have F:(decide (it.s.kind=4)&&(D5 (b9 p) c).lives it.s.id)=true->R6 A ((l.filter λit=>decide (it.s.kind=4)&&(D5 (b9 p) c).lives it.s.id).map (·.s.proc))=R6 (if o.contains it.s.proc then o else o++[it.s.proc]) (((l.drop (k+1)).filter λit=>decide (it.s.kind=4)&&(D5 (b9 p) c).lives it.s.id).map (·.s.proc)):=λh=>by
  rw[q,List.filter_cons,h];rfl
 clear q;rcases dM5 (decide (it.s.kind=4))with hq|hq;rotate_left
 ·rw[hq,Bool.false_and]at v;simp only[m8,o6,y0,simprocAttr,B,ax,W,N,ac,af];refine C0 (λj=>o7 O.drew j) 22 (A5 [0,1,2,3,4,5,6,7,8,9,10,11,12,13,14,15,16,17,18,19,20,21]) ?_;simp only[D6,A5,m8,o6,simprocAttr,r1,hq,B];exact⟨(k+1,u5,o),by simp only[];omega,by simp only[];rw[B0 k (by omega)],E,by simp only[];omega,aL,r,g,X,v rfl,J⟩
 rw[hq,dT7]at v F M;simp only[m8,o6,y0,simprocAttr,B,ax,W,N,ac,af];refine C0 (λj=>o7 O.drew j) 22 (A5 [0,1,2,3,4,5,6,7,8,9,10,11,12,13,14,15,16,17,18,19,20,21]) ?_;simp only[D6,A5,m8,o6,y0,simprocAttr,g0,g5,r1,r2,r3,hq,aF];refine B9 (aK8 aw (D5 (b9 p) c) p c xx y it.s.id O.drew (aB.mono (b7 J)) au.toWyOk aE au.live) (λw7 ab=>⟨ab,?_⟩);have D:=J.trans ab;have R:=aL.ext ab;generalize(D5 (b9 p) c).lives it.s.id=lv at v F M;rcases dM5 lv with aJ|aJ<;>subst aJ;rotate_left
 ·simp only[D6,m8,o6,simprocAttr,B];exact⟨(k+1,u5,o),by simp only[];omega,by simp only[];rw[B0 k (by omega)],E,by simp only[];omega,R,r,g,X,v rfl,D⟩
 have bg:=bf w7 (b7 ((o7.drew O).trans ab));have Z:=F rfl;have M:=M rfl;simp only[D6,m8,o6,simprocAttr,E,r1];refine E0 (P6 u5 o it.s.proc w7 (R.rw_ (b7 D)) (by omega)) ?_;rcases dM5 (o.contains it.s.proc)with hq2|hq2
 ·rw[if_pos hq2]at Z;simp only[m8,o6,simprocAttr,hq2,B];exact⟨(k+1,u5,o),by simp only[];omega,by simp only[];rw[B0 k (by omega)],E,by simp only[];omega,R,r,g,X,Z,D⟩
 rw[if_neg (by rw[hq2];simp)]at Z;obtain⟨p1,u8,w8,p2,p3,p4,p5⟩:=push (P:=prog) (t:=31) (e:=31) at4 rfl R (x:=p6 it.s.proc) (y:=it.s.proc) rfl (by omega) (by omega) (b7 D);simp only[m8,o6,simprocAttr,hq2,B,E,bg,p1,p2];refine⟨(k+1,u8,o++[it.s.proc]),by simp only[];omega,by simp only[];rw[B0 k (by omega)],by trivial,by simp only[];omega,p3,?_,λz hz=>?_,by simp only[dM7];omega,Z,R.ext2 D p4⟩
 ·simp only[];rw[dR0];refine⟨r,by simp,λa ha b hb=>?_⟩;simp only[dP1]at hb;subst hb;rintro rfl;rw[dO5.2 ha]at hq2;cases hq2
 ·rcases dN7.1 hz with h|h
  ·exact g z h
  ·simp only[dP1]at h;subst h;exact M
section
variable {w1 w:World} {g r:Nat} {ab:Addr} {vP:Value} {x:WX} {c:WC}
def cM8:∃a,prog.info? 89=some a/\a.size=1:=az9 dB0 dA7
def WS.putN(s:WS w1 w g r ab vP x c){f:Value}{n:Nat}(A:A8 hZ w TAs f (List.replicate n C8))(a:∀b,A3 f b->w1.heap.size<=b/\∀i,¬R3 g r x i b):
  ∃p,(Instr.storeAt 89 (.pointer (some ⟨g,6,none⟩)) f).run prog w = .ok () p/\WS w1 p g r ab vP {x with vn:=f,un:=List.replicate n C8} {c with N:=List.replicate n []}/\o9 (λb=>b=g) w p:=by
 obtain⟨G,t,y⟩:=cM8;obtain⟨p,D,E,l⟩:=cc3 (k:=6) s.cb (by decide +kernel:6<8) A.isS t y;have F:=o9.ext_of s.ext l λb d=>by subst d;exact s.new 0 _ rfl
 have z:∀j b,R3 g r {x with vn:=f,un:=List.replicate n C8} j b->(j≠5/\R3 g r x j b)\/(j=5/\A3 f b):=λj b h=>by
  match j,h with
  | 0,h=>exact .inl ⟨by decide,h⟩
  | 1,h=>exact .inl ⟨by decide,h⟩
  | 2,h=>exact .inl ⟨by decide,h⟩
  | 3,h=>exact .inl ⟨by decide,h⟩
  | 4,h=>exact .inl ⟨by decide,h⟩
  | 5,h=>first|exact .inl ⟨by decide,h⟩|exact .inr ⟨rfl,ac8 h⟩
  | 6,h=>first|exact .inl ⟨by decide,h⟩|exact .inr ⟨rfl,ac8 h⟩
  | _+7,h=>exact h.elim
 have q:∀{i b:Nat},i≠0->R3 g r x i b->¬b=g:=λC h=>s.off (j:=0) C h;have m:I6 hZ p TAs TAr f (List.replicate n C8) (List.replicate n ([]:List (Int×Int))):=af5 (A.mod l λb d v=>(a b d).2 0 v);have o:∀j b,R3 g r {x with vn:=f,un:=List.replicate n C8} j b->w1.heap.size<=b:=λj b h=>by
  rcases z j b h with⟨_,h⟩|⟨_,h⟩
  ·exact s.new j b h
  ·exact(a b h).1
 have u:∀i j b,R3 g r {x with vn:=f,un:=List.replicate n C8} i b->R3 g r {x with vn:=f,un:=List.replicate n C8} j b->i=j:=λi j b h k=>by
  rcases z i b h with⟨_,h⟩|⟨e,h⟩<;>rcases z j b k with⟨_,k⟩|⟨B,k⟩
  ·exact s.apart i j b h k
  ·exact absurd h ((a b k).2 i)
  ·exact absurd k ((a b h).2 j)
  ·rw[e,B]
 have oV:=s.oV.mod l λb d=>q (i:=2) (by decide) d;have oE:=s.oE.mod l λb d=>q (i:=3) (by decide) d;have oS:=s.oS.mod l λb d=>q (i:=4) (by decide) d;have rp:=s.rp.mod l λb d=>q (i:=6) (by decide) d;have H:=s.map.mod l (q (i:=1) (by decide) rfl);exact⟨p,D,{ext:=F,cb:=E,map:=H,oV:=oV,oE:=oE,oS:=oS,rn:=by first|exact m|exact rn,rp:=by first|exact m|exact rp,new:=o,apart:=u},l⟩
def WS.putP(s:WS w1 w g r ab vP x c){f:Value}{n:Nat}(A:A8 hZ w TAs f (List.replicate n C8))(a:∀b,A3 f b->w1.heap.size<=b/\∀i,¬R3 g r x i b):
  ∃p,(Instr.storeAt 89 (.pointer (some ⟨g,7,none⟩)) f).run prog w = .ok () p/\WS w1 p g r ab vP {x with vp:=f,up:=List.replicate n C8} {c with P:=List.replicate n []}/\o9 (λb=>b=g) w p:=by
 obtain⟨G,t,y⟩:=cM8;obtain⟨p,D,E,l⟩:=cc3 (k:=7) s.cb (by decide +kernel:7<8) A.isS t y;have F:=o9.ext_of s.ext l λb d=>by subst d;exact s.new 0 _ rfl
 have z:∀j b,R3 g r {x with vp:=f,up:=List.replicate n C8} j b->(j≠6/\R3 g r x j b)\/(j=6/\A3 f b):=λj b h=>by
  match j,h with
  | 0,h=>exact .inl ⟨by decide,h⟩
  | 1,h=>exact .inl ⟨by decide,h⟩
  | 2,h=>exact .inl ⟨by decide,h⟩
  | 3,h=>exact .inl ⟨by decide,h⟩
  | 4,h=>exact .inl ⟨by decide,h⟩
  | 5,h=>first|exact .inl ⟨by decide,h⟩|exact .inr ⟨rfl,ac8 h⟩
  | 6,h=>first|exact .inl ⟨by decide,h⟩|exact .inr ⟨rfl,ac8 h⟩
  | _+7,h=>exact h.elim
 have q:∀{i b:Nat},i≠0->R3 g r x i b->¬b=g:=λC h=>s.off (j:=0) C h;have m:I6 hZ p TAs TAr f (List.replicate n C8) (List.replicate n ([]:List (Int×Int))):=af5 (A.mod l λb d v=>(a b d).2 0 v);have o:∀j b,R3 g r {x with vp:=f,up:=List.replicate n C8} j b->w1.heap.size<=b:=λj b h=>by
  rcases z j b h with⟨_,h⟩|⟨_,h⟩
  ·exact s.new j b h
  ·exact(a b h).1
 have u:∀i j b,R3 g r {x with vp:=f,up:=List.replicate n C8} i b->R3 g r {x with vp:=f,up:=List.replicate n C8} j b->i=j:=λi j b h k=>by
  rcases z i b h with⟨_,h⟩|⟨e,h⟩<;>rcases z j b k with⟨_,k⟩|⟨B,k⟩
  ·exact s.apart i j b h k
  ·exact absurd h ((a b k).2 i)
  ·exact absurd k ((a b h).2 j)
  ·rw[e,B]
 have oV:=s.oV.mod l λb d=>q (i:=2) (by decide) d;have oE:=s.oE.mod l λb d=>q (i:=3) (by decide) d;have oS:=s.oS.mod l λb d=>q (i:=4) (by decide) d;have rn:=s.rn.mod l λb d=>q (i:=5) (by decide) d;have H:=s.map.mod l (q (i:=1) (by decide) rfl);exact⟨p,D,{ext:=F,cb:=E,map:=H,oV:=oV,oE:=oE,oS:=oS,rn:=by first|exact m|exact rn,rp:=by first|exact m|exact rp,new:=o,apart:=u},l⟩
def WS.moreV(s:WS w1 w g r ab vP x c){w0:World}{u:Value}{ys:List Vx}(m:A8 (i4 w0) w 26 u ys)(o:∀b,A3 x.vV b->b<w0.heap.size)(p:c.V.length+ys.length<=1000000000000){e:TypeId}:
  ∃f i a,(Builtin.append_ #[22,22] e #[x.vV,u]).run prog w = .ok f i/\(Instr.storeAt 22 (.pointer (some ⟨g,2,none⟩)) f).run prog i = .ok () a/\WS w1 a g r ab vP {x with vV:=f} {c with V:=c.V++ys}/\o9 (A3 x.vV) w i:=by
 obtain⟨v,d,k⟩:=az9 (P:=prog) dk2 dj8;have q:A8 (B6 w (A3 x.vV)) w 26 x.vV c.V:=s.oV.up (X7 _) λb j=>F2 j;have l:R (B6 w (A3 x.vV)) u ys:=m.flatRN λb j=>D8 λh=>by
  have:=o b h;have:=D0 (m.free j);omega
 obtain⟨f,i,y,z,n,A⟩:=ae4 (P:=prog) (t:=22) (e:=e) bk1 rfl q l p (by omega) (B2 _ _);obtain⟨a,B,C,_⟩:=s.putV n (z.downN (X7 _)) A d k;exact⟨f,i,a,y,B,C,n⟩
def WS.moreE(s:WS w1 w g r ab vP x c){w0:World}{u:Value}{ys:List Eg}(m:A8 (i4 w0) w 67 u ys)(o:∀b,A3 x.vE b->b<w0.heap.size)(p:c.E.length+ys.length<=1000000000000){e:TypeId}:
  ∃f i a,(Builtin.append_ #[55,55] e #[x.vE,u]).run prog w = .ok f i/\(Instr.storeAt 55 (.pointer (some ⟨g,3,none⟩)) f).run prog i = .ok () a/\WS w1 a g r ab vP {x with vE:=f} {c with E:=c.E++ys}/\o9 (A3 x.vE) w i:=by
 obtain⟨v,d,k⟩:=az9 (P:=prog) dk4 dj9;have q:A8 (B6 w (A3 x.vE)) w 67 x.vE c.E:=s.oE.up (X7 _) λb j=>F2 j;have l:R (B6 w (A3 x.vE)) u ys:=m.flatRN λb j=>D8 λh=>by
  have:=o b h;have:=D0 (m.free j);omega
 obtain⟨f,i,y,z,n,A⟩:=ae4 (P:=prog) (t:=55) (e:=e) ct3 rfl q l p (by omega) (B2 _ _);obtain⟨a,B,C,_⟩:=s.putE n (z.downN (X7 _)) A d k;exact⟨f,i,a,y,B,C,n⟩
end
def Wh(w0 w:World)(p:Pg)(u:Value)(C S:List Eg):Prop:=∃(a:World) (g r:Nat) (b:Addr) (c:Value) (x:WX),u = .pointer (some ⟨g,0,none⟩)/\o7 w0 a/\At (i4 a) b (d9 p)/\R (i4 a) c (d9 p).reached /\
 WS a w g r b c x ⟨(d9 p).wv,(d9 p).we,S,au5 (d9 p).wv,V7 (d9 p).wv ((d9 p).we++C),T9 (d9 p).wv ((d9 p).we++C)⟩
def cI5(a:Addr)(b:Value)(r:Nat)(hS:isS b=true):B8 prog 91 [(0,.pointer (some a)),(1,b),(5,.map (some r))]=some (.agg (wcs a b r ⟨.slice none 0 0,.slice none 0 0,.slice none 0 0,.slice none 0 0,[],.slice none 0 0,[]⟩)):=by
 have c:(Value.pointer (some a)).cells=#[.pointer (some a)]:=rfl;have d:(Value.map (some r)).cells=#[.map (some r)]:=rfl;simp[B8,dA4,K8,Instr.fill,E3 hS,c,d,wcs]
def wc0:WC:=⟨[],[],[],[],[],[]⟩
def wx0:WX:=⟨.slice none 0 0,.slice none 0 0,.slice none 0 0,.slice none 0 0,[],.slice none 0 0,[]⟩
def WS.start(a:World)(c:Addr)(d:Value)(t:TypeId):(Instr.makeMap t none).run prog a = .ok (.map (some a.heap.size)) (a.alloc (.map #[] 0)) /\
  (Instr.box 91 (.agg (wcs c d a.heap.size wx0))).run prog (a.alloc (.map #[] 0)) = .ok (.pointer (some ⟨a.heap.size+1,0,none⟩)) ((a.alloc (.map #[] 0)).alloc (.cells (wcs c d a.heap.size wx0) TWh)) /\
  WS a ((a.alloc (.map #[] 0)).alloc (.cells (wcs c d a.heap.size wx0) TWh)) (a.heap.size+1) a.heap.size c d wx0 wc0:=by
 obtain⟨q,r,s⟩:=aq9.new (P:=prog) (enc:=Vx.enc) a t;have g:(a.alloc (.map #[] 0)).heap.size=a.heap.size+1:=by simp
 have f:(Instr.box 91 (.agg (wcs c d a.heap.size wx0))).run prog (a.alloc (.map #[] 0)) = .ok (.pointer (some ⟨(a.alloc (.map #[] 0)).heap.size,0,none⟩)) ((a.alloc (.map #[] 0)).alloc (.cells (wcs c d a.heap.size wx0) TWh)):=rfl;rw[g]at f;have l:=o7.alloc (a.alloc (.map #[] 0)) (.cells (wcs c d a.heap.size wx0) TWh);have o:=dQ5 (a.alloc (.map #[] 0)) (.cells (wcs c d a.heap.size wx0) TWh);rw[g]at o;have m:∀j b,R3 (a.heap.size+1) a.heap.size wx0 j b->(j=0/\b=a.heap.size+1)\/(j=1/\b=a.heap.size):=λj b h=>by
  match j,h with
  | 0,h=>exact .inl ⟨rfl,h⟩
  | 1,h=>exact .inr ⟨rfl,h⟩
  | 2,h=>exact absurd h D1
  | 3,h=>exact absurd h D1
  | 4,h=>exact absurd h D1
  | 5,h=>
   rcases h with h|⟨u,n,_⟩
   ·exact absurd h D1
   ·cases n
  | 6,h=>
   rcases h with h|⟨u,n,_⟩
   ·exact absurd h D1
   ·cases n
  | _+7,h=>exact h.elim
 refine⟨q,f,s.trans l,o,r.mod l id,A8.nil _ _ _,A8.nil _ _ _,A8.nil _ _ _,I6.nil _ _ _ _,I6.nil _ _ _ _,λj b h=>?_,λi j b h k=>?_⟩
 ·rcases m j b h with⟨_,rfl⟩|⟨_,rfl⟩<;>omega
 ·rcases m i b h with⟨e,h⟩|⟨e,h⟩<;>rcases m j b k with⟨p,k⟩|⟨p,k⟩<;>omega
def WS.keyN{f w:World}{g r:Nat}{b:Addr}{d:Value}{x:WX}{c:WC}(s:WS f w g r b d x c){a:Vx}(h:ai3 c.kv a=none)(v:Value):
  ∃e,(Instr.mapUpdate 88 (.map (some r)) (.agg (A0.cells a).toArray) v).run prog w = .ok () e/\WS f e g r b d x {c with kv:=c.kv++[(a,v)]}:=s.key h v
def db8{V:List Vx}{k:Nat}(a:k<V.length):au5 (V.take (k+1))=au5 (V.take k)++[(V[k],.int .i64 (k:Int))]:=by
 rw[dN3 a,db7,dN9,dT1 (Nat.le_of_lt a)]
def dB4{p:Pg}(b:D4 p)(hw:C5 p<=1000000):∀v∈(d9 p).wv,v.id=0\/(1<=v.id/\v.id<=(b9 p).l.length):=λv j=>by
 obtain⟨i,g,_,_,d⟩:=cu9 b.toKnown j;obtain⟨y,k⟩:=J5 b.may hw i g;have c:∀it∈(b9 p).of (i:Int),1<=it.s.id/\it.s.id<=(b9 p).l.length:=λit a=>by
  obtain⟨e,_,l⟩:=bs9 b.may (aR4 k a);have:=(dM9.1 e).1;omega
 have h:(d9 p).s=b9 p:=rfl;rcases O8.1 d with rfl|⟨_,_,rfl⟩|⟨_,_,rfl⟩|⟨it,a,f⟩
 ·exact .inl rfl
 ·exact .inl rfl
 ·exact .inl rfl
 ·rw[h]at a;rcases f with rfl|⟨_,⟨n,_,rfl⟩|⟨n,_,rfl⟩⟩<;>exact .inr (c it a)
def cC5{g r:Nat}{x:WX}{a:Value}{n i b:Nat}(h:R3 g r {x with vn:=a,un:=List.replicate n C8} i b):R3 g r x i b\/A3 a b:=by
 match i,h with
 | 0,h=>exact .inl h
 | 1,h=>exact .inl h
 | 2,h=>exact .inl h
 | 3,h=>exact .inl h
 | 4,h=>exact .inl h
 | 5,h=>exact .inr (ac8 h)
 | 6,h=>exact .inl h
 | _+7,h=>exact h.elim
def mkA{w:World}{n:Nat}(hn:n<=1000000):∃v a,(Instr.makeSlice 89 (.int .i64 n) (.int .i64 n)).run prog w = .ok v a/\A8 hZ a TAs v (List.replicate n C8)/\o7 w a/\(∀b,A3 v b->w.heap.size<=b):=by
 have g:A4.enc hZ (Value.slice none 0 0).cells.toList C8:=⟨rfl,rfl⟩;obtain⟨v,a,c,d,e,f,_⟩:=mk (P:=prog) (w:=w) (h:=hZ) dy5 cU4 (α:=U1) (y:=C8) g (n:=n) (by omega) (by omega) (X7 _);exact⟨v,a,c,d,e,f⟩
def aG7(v:Value)(p:Pg)(w:World)(hv:SV (i4 w) v p)(hw:C5 p<=1000000):
  p7 prog 47 #[v] w λu a=>((I5 p=false->u = .pointer none)/\(I5 p=true->Wh w a p u [] [])/\o7 w a):=by
 refine p9 [v] func47 rfl ?_;obtain⟨cb,wa,ca,cr,bx⟩:=X5 hv (i5 _);obtain⟨sp,cl,bN,_⟩:=bx.pg_v;have l1:=bN wa (i5 _);simp only[m8,o6,simprocAttr,ca,l1];refine y5 (cX2 sp p wa cl hw) ?_;rintro u w2 ⟨hf,ht,cn⟩;have aQ:=cr.trans cn;cases hR:I5 p
 ·obtain rfl:=hf hR;simp only[m8,o6,simprocAttr,cO9];exact o8 results47 ⟨λ_=>rfl,λh=>(by cases h),aQ⟩
 obtain⟨O,rfl,bu⟩:=ht hR;have L:=N3 hR;have K:=L.toKnown;have bA:=aK1 L;have ab:=bq3 L hw;have cV:=aK7 L hw;have ch:=au3 L hw;have bG:=aw9 K;have bM:=dB4 L hw;have cF:=cu7 L hw;have cU:=bP8 L hw;have aj:=λn hn=>Z4 K (n:=n) hn;have aG:(d9 p).wv=(d9 p).reached.flatMap λn=>(d9 p).verts ((d9 p).s.pr n):=rfl;have af:(d9 p).we0=((d9 p).reached.flatMap λn=>(d9 p).edges ((d9 p).s.pr n))++(d9 p).wv.flatMap (d9 p).joinOf:=rfl;have b3:(d9 p).we=aw4 (d9 p).we0:=rfl;have hs:(d9 p).s=b9 p:=rfl;have ce:(b9 p).p.procs.length<=1000000000:=by
  rw[K9];have:=bN5 L.may;omega
 simp only[m8,o6,simprocAttr,cO9];refine y5 (bZ0 O p w2 bu L hw) ?_;rintro W F ⟨cj,bb⟩;have aR:=aQ.trans bb;have G:=bu.mono (b7 bb);have U:R (i4 F) W (d9 p).reached:=cj.rw_ (b7 bb);have bq:=U.isS;have cf:=U.vlen;obtain⟨m1,m2,s0⟩:=WS.start F O W 88;have a2:=cI5 O W F.heap.size bq;have cm:(⟨.slice none 0 0,.slice none 0 0,.slice none 0 0,.slice none 0 0,[],.slice none 0 0,[]⟩:WX)=wx0:=rfl;rw[cm]at a2;have l4:=s0.ld (i:=1) (u:=W) rfl O0;generalize(F.alloc (.map #[] 0)).alloc (.cells (wcs O W F.heap.size wx0) TWh)=w4 at m2 s0 l4;generalize hg:F.heap.size+1=g at m2 s0 l4;generalize cS:F.heap.size=r at m1 m2 s0 a2;obtain⟨sh,_,_,_,_,_,has,_,_,_,_,_,cv,_⟩:=G.book rfl;simp only[m8,o6,simprocAttr,aC8,m1,a2,m2,l4,bq,cf];generalize bs:(λn=>(d9 p).verts ((d9 p).s.pr n))=Vn at aG;generalize bn:(λn=>(d9 p).edges ((d9 p).s.pr n))=En at af ab;have ag:∀n,Vn n=(d9 p).verts ((b9 p).pr n):=λn=>by rw[<-bs];rfl
 have ac:∀n,En n=(d9 p).edges ((b9 p).pr n):=λn=>by rw[<-bn];rfl
 have aH:∀n∈(d9 p).reached,(Vn n).length<=30000:=λn hn=>by
  obtain⟨i,Z,e,_⟩:=aj n hn;rw[ag,<-hs,e];exact aN9 L hw Z
 have aF:∀n∈(d9 p).reached,(En n).length<=60000000:=λn hn=>by
  obtain⟨i,Z,e,_⟩:=aj n hn;rw[ac,<-hs,e];exact bC8 L hw Z
 generalize b6:(d9 p).reached=C at U aG af ab bA aH aF aj;refine n9 [3,4,25,26] (σ:=Nat×Value×Value) (λt f a=>f 27 = .int .i64 t.1/\t.1<=C.length/\WS F a g r O W {wx0 with vV:=t.2.1,vE:=t.2.2} {wc0 with V:=(C.take t.1).flatMap Vn,E:=(C.take t.1).flatMap En}) (λt=>C.length-t.1) (0,.slice none 0 0,.slice none 0 0) ?_ ?_
 ·simp only[p8,simprocAttr];exact⟨by trivial,dN6 _,s0⟩
 clear s0;rintro⟨k,vv,ve⟩ f w5 hk ⟨aE,a5,S⟩;simp only at aE a5 S;simp only[dM6,p8,simprocAttr]at hk;obtain⟨e3,e4,bY,bZ,_⟩:=hk;simp only[m8,o6,simprocAttr,aE,bZ];refine n7 (λhc=>?_) (λhc=>?_)
 ·have l:k<C.length:=by simpa using hc
  have an:=U.inS l;have H:=ldS U S.base l;have ap:=dN5 l;have a0:=H4 Vn C l;have aW:=H4 En C l;have br:((C.take k).flatMap Vn).length<=480000:=by
   have h1:=N5 Vn 30000 (C.take k) λz hz=>aH z (dU2 hz);rw[dN9]at h1;have h2:min k C.length<=16:=by omega
   omega
  have bm:((C.take k).flatMap En).length<=960000000:=by
   have h1:=N5 En 60000000 (C.take k) λz hz=>aF z (dU2 hz);rw[dN9]at h1;have h2:min k C.length<=16:=by omega
   omega
  have bt:=aH _ ap;have bo:=aF _ ap;obtain⟨i,Z,aJ,_⟩:=aj _ ap;rw[hs]at aJ;have ah:=ag C[k];have ae:=ac C[k];rw[aJ]at ah ae;generalize C[k]=n at H a0 aW bt bo aJ ah ae;generalize cP:(C.take k).flatMap Vn=VV at S a0 br;generalize b1:(C.take k).flatMap En=EE at S aW bm;have cu:=cv w5 S.base;simp only[m8,o6,y0,simprocAttr,aE,e3,bY,an,H,cu];refine B9 (at0 sh (b9 p) n w5 (has.mono S.base) ce) (λw6 co=>?_);have s6:=(S.more co).more (o7.drew w6);rw[aJ];have t1:∀K f d c,F3 prog (λa=>o9 (A3 vv) w6.drew a) (Instr.loadAt 22 (.pointer (some ⟨g,2,none⟩))) K f d c=K (C4 f d vv) c:=λK f d c=>B7 (w0:=w6.drew) (o9.refl _) λa h=>E2 ((h.block g (s6.lt (i:=0) rfl) (s6.off (i:=0) (j:=2) (by decide) rfl)).trans s6.cb) rfl af9;simp only[m8,simprocAttr];refine C0 (λa=>o9 (A3 vv) w6.drew a) 9 (A5 [0,1,2,3,4,5,6,7,8]) ?_;simp only[D6,A5,m8,o6,simprocAttr,e3,e4,t1];refine y5 (aT8 O p i w6.drew (G.mono s6.base) L hw Z) ?_;rintro uv w7 ⟨bJ,aw⟩;refine⟨o9.up aw,?_⟩;rw[<-ah]at bJ;have s7:=s6.more aw;obtain⟨v8,w8,B,p1,p2,s9,p3⟩:=s7.moreV bJ (λb o=>s6.lt (i:=2) o) (by simp only[];omega) (e:=22);simp only at p1 s9 p3;rw[<-a0]at s9;simp only[D6,m8,o6,simprocAttr,p1,E8];refine⟨(o9.up aw).trans p3,?_⟩;have M:=s9.more (o7.drew B);have t2:∀K f d c,F3 prog (λa=>o9 (A3 ve) B.drew a) (Instr.loadAt 55 (.pointer (some ⟨g,3,none⟩))) K f d c=K (C4 f d ve) c:=λK f d c=>B7 (w0:=B.drew) (o9.refl _) λa h=>E2 ((h.block g (M.lt (i:=0) rfl) (M.off (i:=0) (j:=3) (by decide) rfl)).trans M.cb) rfl bk9;simp only[m8,simprocAttr,p2];refine C0 (λa=>o9 (A3 ve) B.drew a) 9 (A5 [0,1,2,3,4,5,6,7,8]) ?_;simp only[D6,A5,m8,o6,simprocAttr,e3,e4,t2];refine y5 (cv9 O p i B.drew (G.mono M.base) L hw Z) ?_;rintro ue c9 ⟨bI,av⟩;refine⟨o9.up av,?_⟩;rw[<-ae]at bI;have I:=M.more av;obtain⟨cz,da,db,q1,q2,J,q3⟩:=I.moreE bI (λb o=>M.lt (i:=3) o) (by simp only[];omega) (e:=55);simp only at q1 J q3;rw[<-aW]at J;simp only[D6,m8,o6,simprocAttr,q1,E8];refine⟨(o9.up av).trans q3,?_⟩;simp only[m8,o6,simprocAttr,q2,aE];exact⟨(k+1,v8,cz),by simp only[];omega,by simp only[];rw[B0 k (by omega)],by simp only[];omega,J⟩
 have am:k=C.length:=by simp at hc;omega
 subst am;rw[dN8,<-aG]at S;generalize b1:C.flatMap En=EE at S af ab;clear aG aH aF aj bs bn ag ac;generalize b5:(d9 p).wv.flatMap (d9 p).joinOf=Jn at af;have l5:=S.ld (i:=2) (u:=vv) rfl af9;have aZ:=S.oV.isS;have a7:=S.oV.vlen;simp only at aZ a7;generalize hV:(d9 p).wv=V at *;simp only[m8,o6,simprocAttr,e4,l5,aZ,a7];refine n9 [3,4,63,64] (σ:=Nat) (λk f a=>f 65 = .int .i64 k/\k<=V.length/\WS F a g r O W {wx0 with vV:=vv,vE:=ve} {wc0 with V:=V,E:=EE,kv:=au5 (V.take k)}) (λk=>V.length-k) 0 ?_ ?_
 ·simp only[p8,simprocAttr];exact⟨by trivial,dN6 _,S⟩
 clear S l5;rintro k f6 w6 hk ⟨aV,cE,s6⟩;simp only[dM6,p8,simprocAttr]at hk;obtain⟨a3,a4,bV,bW,_⟩:=hk;rw[e3]at a3;rw[e4]at a4;simp only[m8,o6,simprocAttr,aV,bW];refine n7 (λhc=>?_) (λhc=>?_)
 ·have l:k<V.length:=by simpa using hc
  have aY:=s6.rV;simp only at aY;have an:=aY.inS l;obtain⟨sv,au,H⟩:=F9 (P:=prog) (t:=26) aY (i5 _) (dM4 l) at6 at9 an8 O9;rw[O9]at H;have bC:=db8 l;have ci:V[k]∉V.take k:=λh=>by
   have h2:=dN3 l;have h3:(V.take (k+1)).Nodup:=ch.sublist (List.take_sublist _ _);rw[h2,dR0]at h3;exact h3.2.2 _ h _ (by simp) rfl
  have bF:=dm5 ci;generalize V[k]=y at au bC bF;obtain rfl:=au.N;obtain⟨d7,de,w7,a1,a9,aw,bv⟩:=aw0 (w:=w6) (λ_=>False) (SV.ofN (i4 w6) y) λb o=>o.elim;have s7:=s6.more (aw.trans (o7.drew w7));have t1:=(K7.vx_v (SV.ofN (i4 w6) y) bv).2 (λa=>a=w7.drew) w7.drew rfl λa h=>by subst h;exact B2 w7 _
  have t2:∀K f d c,F3 prog (λa=>a=w7.drew) (Instr.loadAt 88 (.pointer (some ⟨g,5,none⟩))) K f d c=K (C4 f d (.map (some r))) c:=λK f d c=>B7 (w0:=w7.drew) rfl λa h=>by subst h;exact s7.ld rfl cb8
  obtain⟨w8,q1,s8⟩:=s7.keyN bF (.int .i64 (k:Int));simp only at s8;rw[<-bC]at s8;simp only[m8,o6,y0,simprocAttr,aV,bV,an,H,a1,a9];refine C0 (λa=>a=w7.drew) 6 (A5 [0,1,2,3,4,5]) ?_;simp only[D6,A5,m8,o6,simprocAttr,a4,aV,t1,t2,aC9,q1];exact⟨k+1,by omega,by rw[B0 k (by omega)],by omega,s8⟩
 have am:k=V.length:=by simp at hc;omega
 subst am;rw[dN8]at s6;simp only[m8,simprocAttr,a4];refine y5 (cF1 s6 G L hw bM (by simp only[];omega) (by simp only[];omega)) ?_;rintro _ w7 ⟨v7,s7⟩;simp only at s7;rw[b5,<-af]at s7;have l7:=s7.ld (i:=3) (u:=v7) rfl bk9;simp only[m8,o6,simprocAttr,a4,l7];refine y5 (aQ2 s7.oE (by simp only[];omega) (X7 _)) ?_;rintro u8 w8 ⟨a8,bD,bz⟩;simp only at a8 bD bz;rw[<-b3]at a8;obtain⟨cW,bB,cd⟩:=bV3;obtain⟨B,q1,s9,_⟩:=s7.putE bD a8 (λb o=>.inl (bz b o)) bB cd;simp only at s9;have M:=s9.more (o7.drew B);have aq:V.length<=1000000:=by omega
 generalize aK:({wx0 with vV:=vv,vE:=u8}:WX)=xA at M;have lA:(Instr.loadAt 22 (.pointer (some ⟨g,2,none⟩))).run prog B.drew = .ok vv B.drew:=M.ld (by rw[<-aK];rfl) af9;have t2:∀K f d c,F3 prog (λa=>o9 (λb=>b=g) B.drew a/\(Instr.loadAt 22 (.pointer (some ⟨g,2,none⟩))).run prog a = .ok vv a) (Instr.loadAt 22 (.pointer (some ⟨g,2,none⟩))) K f d c=K (C4 f d vv) c:=λK f d c=>B7 (w0:=B.drew) ⟨o9.refl _,lA⟩ λa h=>h.2;simp only[m8,o6,simprocAttr,q1];refine bS7 [4] (λa=>o9 (λb=>b=g) B.drew a/\(Instr.loadAt 22 (.pointer (some ⟨g,2,none⟩))).run prog a = .ok vv a) 17 (.op 0 (.op 1 (.op 2 (.op 3 (.op 4 (.op 5 (.op 6 (.op 8 (.op 9 (.op 10 (.op 11 (.op 12 (.fork [7,13] (λi=>if i=7 then(.op 14 (.op 15 (.fork [13,16] (λi=>if i=13 then(A5 [16])else(A5 [13])))))else(A5 [7,14,15,16])))))))))))))))
  (λf' a=>∃m x,f' 100=x/\f' 88 = .pointer (some ⟨g,0,none⟩)/\WS F a g r O W {xA with vn:=m,un:=List.replicate V.length C8} {wc0 with V:=V,E:=(d9 p).we,kv:=au5 V,N:=List.replicate V.length []}/\A8 hZ a TAs x (List.replicate V.length C8)/\(∀b,A3 x b->F.heap.size<=b/\∀i,¬R3 g r {xA with vn:=m,un:=List.replicate V.length C8} i b))
  (by decide +kernel) (by decide +kernel) ⟨o9.refl _,lA⟩ ?_ ?_
 ·have D:∀a,WS F a g r O W xA {wc0 with V:=V,E:=(d9 p).we,kv:=au5 V}->(Instr.loadAt 22 (.pointer (some ⟨g,2,none⟩))).run prog a = .ok vv a:=λa s=>s.ld (by rw[<-aK];rfl) af9;have q:∀a m,WS F a g r O W {xA with vn:=m,un:=List.replicate V.length C8} {wc0 with V:=V,E:=(d9 p).we,kv:=au5 V,N:=List.replicate V.length []}->(Instr.loadAt 22 (.pointer (some ⟨g,2,none⟩))).run prog a = .ok vv a:=λa m s=>s.ld (by rw[<-aK];rfl) af9;have hE:∀a,o7 B.drew a->o9 (λb=>b=g) B.drew a:=λa h=>h.weaken λ_ _ h=>h.elim;have ar:∀(m:Value),(∀b,A3 m b->B.drew.heap.size<=b)->∀b,A3 m b->F.heap.size<=b/\∀i,¬R3 g r xA i b:=λm bK b o=>⟨dN1 M.ext.size (bK b o),λi h=>by have:=M.lt h;have:=bK b o;omega⟩;have al:∀(m x:Value),(∀b,A3 x b->B.drew.heap.size<=b)->(∀b,A3 m b->¬A3 x b)->∀b,A3 x b->F.heap.size<=b/\∀i,¬R3 g r {xA with vn:=m,un:=List.replicate V.length C8} i b:=λm x bL hd b o=>⟨(ar x bL b o).1,λi h=>by
   rcases cC5 h with h|h
   ·exact(ar x bL b o).2 i h
   ·exact hd b h o⟩
  simp only[D6,A5,m8,o6,simprocAttr,a4,t2,aZ,a7];refine ah3 (by decide +kernel) (λi Z=>?_);simp only[dO6,dR2,dX1]at Z;rcases Z with rfl|rfl
  ·obtain⟨m,wA,m1,oa,X,fa⟩:=mkA (w:=B.drew) aq;have I:=M.more X;simp only[D6,m8,o6,simprocAttr,m1,E8];refine⟨⟨hE _ X,D _ I⟩,?_⟩;refine ah3 (by decide +kernel) (λi Z=>?_);simp only[dO6,dR2,dX1]at Z;rcases Z with rfl|rfl
   ·obtain⟨x,wB,m2,ob,T,fb⟩:=mkA (w:=wA) aq;have J:=I.more T;obtain⟨wC,q3,sD,A⟩:=J.putN (oa.ext T) (ar m fa);have aI:∀b,A3 x b->B.drew.heap.size<=b:=λb o=>dN1 X.size (fb b o);simp only[D6,m8,simprocAttr,m2,q3,E8];refine⟨⟨hE _ (X.trans T),D _ J⟩,⟨(hE _ (X.trans T)).trans A,q _ _ sD⟩,m,x,by trivial,by trivial,sD,ob.mod A λb o b8=>?_,al m x aI λb h1 h2=>?_⟩
    ·have:=M.lt (i:=0) rfl;have:=aI b o;omega
    ·have:=oa.lt h1;have:=fb b h2;omega
   ·obtain⟨wB,q3,sD,A⟩:=I.putN oa (ar m fa);obtain⟨x,wC,m2,ob,T,fb⟩:=mkA (w:=wB) aq;have aI:∀b,A3 x b->B.drew.heap.size<=b:=λb o=>dN1 X.size (dN1 A.size (fb b o));simp only[D6,m8,simprocAttr,m2,q3,E8];refine⟨⟨(hE _ X).trans A,q _ _ sD⟩,⟨((hE _ X).trans A).trans (T.weaken λ_ _ h=>h.elim),q _ _ (sD.more T)⟩,m,x,by trivial,by trivial,sD.more T,ob,al m x aI λb h1 h2=>?_⟩;have:=oa.lt h1;have:=fb b h2;have:=A.size;omega
  ·obtain⟨x,wA,m2,ob,T,fb⟩:=mkA (w:=B.drew) aq;obtain⟨m,wB,m1,oa,X,fa⟩:=mkA (w:=wA) aq;have I:=M.more T;have J:=I.more X;have cc:∀b,A3 m b->B.drew.heap.size<=b:=λb o=>dN1 T.size (fa b o);obtain⟨wC,q3,sD,A⟩:=J.putN oa (ar m cc);simp only[D6,m8,o6,simprocAttr,m1,m2,q3,E8];refine⟨⟨hE _ T,D _ I⟩,⟨hE _ (T.trans X),D _ J⟩,⟨(hE _ (T.trans X)).trans A,q _ _ sD⟩,m,x,by trivial,by trivial,sD,(ob.ext X).mod A λb o b8=>?_,al m x fb λb h1 h2=>?_⟩
   ·have:=M.lt (i:=0) rfl;have:=fb b o;omega
   ·have:=ob.lt h2;have:=fa b h1;omega
 rintro fA wA hk ⟨m,x,bl,b0,I,ob,cg⟩;simp only[dM6,p8,simprocAttr]at hk;obtain⟨b4,_⟩:=hk;obtain⟨wC,q3,J,_⟩:=I.putP ob cg;simp only at J;generalize cp:({xA with vn:=m,un:=List.replicate V.length C8,vp:=x,up:=List.replicate V.length C8}:WX)=xC at J;have ba:xC.vE=u8:=by rw[<-cp,<-aK]
 have lC:=J.ld (i:=3) (u:=u8) (by rw[<-ba];rfl) bk9;have bp:=J.oE.isS;have a6:=J.oE.vlen;rw[ba]at bp a6;simp only at a6;generalize b2:(d9 p).we=Y at *;have bO:WS F wC g r O W xC {wc0 with V:=V,E:=Y,kv:=au5 V,N:=V7 V (Y.take 0),P:=T9 V (Y.take 0)}:=by
  rw[dX3,cC4,cD0];exact J
 simp only[D6,m8,o6,simprocAttr,b4,a4,bl,b0,q3,lC,bp,a6];refine n9 [4,108,109] (σ:=Nat×List U1×List U1) (λt f a=>f 110 = .int .i64 t.1/\t.1<=Y.length/\WS F a g r O W {xC with un:=t.2.1,up:=t.2.2} {wc0 with V:=V,E:=Y,kv:=au5 V,N:=V7 V (Y.take t.1),P:=T9 V (Y.take t.1)}) (λt=>Y.length-t.1) (0,xC.un,xC.up) ?_ ?_
 ·simp only[p8,simprocAttr];exact⟨by trivial,dN6 _,bO⟩
 clear J bO;rintro⟨k,un,up⟩ fB wB hk ⟨Q,a5,I⟩;simp only at Q a5 I;simp only[dM6,p8,simprocAttr]at hk;obtain⟨c4,bi,bj,_⟩:=hk;rw[b4,a4]at c4;simp only[m8,o6,simprocAttr,Q,bj];refine n7 (λhc=>?_) (λhc=>?_);rotate_left
 ·have am:k=Y.length:=by simp at hc;omega
  subst am;rw[dN8]at I;simp only[m8,simprocAttr,c4];refine o8 results47 ?_;simp only[p8,simprocAttr];refine⟨λh=>(by cases h),λ_=>⟨F,g,r,O,W,{xC with un:=un,up:=up},rfl,aR,G,(by rw[b6];exact U),?_⟩,aR.trans I.ext⟩;rw[hV,b2,dP8];exact I
 have l:k<Y.length:=by simpa using hc
 have aX:=I.rE;simp only[ba]at aX;have an:=aX.inS l;obtain⟨sv,au,H⟩:=F9 (P:=prog) (t:=67) aX (i5 _) (dM4 l) ct9 cu2 bH3 aZ8;rw[aZ8]at H;have bH:=dN3 l;generalize Y[k]=e at au bH;obtain rfl:=au.N;obtain⟨d,wz,wD,a1,a9,cq,bw⟩:=df3 (w:=wB) (λ_=>False) (SV.ofN (i4 wB) e) λb o=>o.elim;have sD:=I.more cq;have lD:=(K7.eg_v (SV.ofN (i4 wB) e) bw).1 wD (B2 _ _);simp only[m8,o6,y0,simprocAttr,Q,c4,bi,an,H,a1,a9,lD];refine y5 (cr0 sD rfl (Y.take k) rfl rfl bG (by simp only[];omega) (by rw[dN9];omega) e) ?_;rintro _ wE ⟨u1,u2,sE,_,_⟩;simp only at sE;rw[<-bH]at sE;simp only[m8,o6,simprocAttr,Q];exact⟨(k+1,_,_),by simp only[];omega,by simp only[];rw[B0 k (by omega)],by simp only[];omega,sE⟩
def dB3{P:Program}{α:Type}[A4 α]{h:Hp}{w:World}{N:Nat->Prop}{T:TypeId}{v:Value}{x:α}(hv:SV h v x)(hN:∀b,N b->b<w.heap.size){z:Value}(k:G8 P T=some z)(c:z.cells.size=L9 P T)(j:L9 P T=A4.sz α):
  ∃a e d,(Instr.alloc T true (.tuple #[])).run P w = .ok (.pointer (some a)) e/\(Instr.storeAt T (.pointer (some a)) v).run P e = .ok () d/\o7 w e/\o7 w d/\K7 (B6 d N) a v:=by
 obtain⟨cs,rfl,f⟩:=hv;obtain⟨g,i⟩:=aJ0 (P:=P) (w:=w) (T:=T) k c (cs:=List.toArray cs) (by simpa[j]using A4.len f) (by simpa using A4.one f);exact⟨_,_,_,g,i,o7.alloc w _,o7.alloc w _,bJ3 hN⟩
def cN7{h:Hp}{w:World}{v:Value}{V:List Vx}(c:R h v V)(hw:B5 h (i4 w)){k:Nat}{y:Vx}(d:V[k]?=some y):(Instr.loadAt 26 (.pointer (some (G4 v (k*4))))).run prog w = .ok (.agg (A0.cells y).toArray) w:=by
 obtain⟨e,b,a⟩:=F9 (P:=prog) (t:=26) c hw d at6 at9 an8 O9;rw[O9]at a;obtain rfl:=b.N;exact a
def wcC(p:Pg)(C S:List Eg):WC:=⟨(d9 p).wv,(d9 p).we,S,au5 (d9 p).wv,V7 (d9 p).wv ((d9 p).we++C),T9 (d9 p).wv ((d9 p).we++C)⟩
structure HS (p:Pg) (w1 w:World) (g r:Nat) (ab:Addr) (vP:Value) (rh:Nat) (x:WX) (C:List Eg):Prop where
 ws:WS w1 w g r ab vP x (wcC p C C)
 has:aq9 cf2 w rh (aV4 (d9 p).wv C)
 ge:w1.heap.size<=rh
 off:∀i,¬R3 g r x i rh
 sum:bl7 p C
def hN(g r a:Nat)(x:WX)(b:Nat):Prop:=b=a\/bP6 g r x b
section
variable {p:Pg} {w1 w:World} {g r:Nat} {ab:Addr} {vP:Value} {rh:Nat} {x:WX} {C:List Eg}
def HS.lt(s:HS p w1 w g r ab vP rh x C){b:Nat}(h:hN g r rh x b):b<w.heap.size:=by
 rcases h with rfl|⟨i,h⟩
 ·exact s.has.lt
 ·exact s.ws.lt h
def HS.more(s:HS p w1 w g r ab vP rh x C){b:World}(a:o7 w b):HS p w1 b g r ab vP rh x C:=⟨s.ws.more a,s.has.mod a id,s.ge,s.off,s.sum⟩
def HS.kinds(s:HS p w1 w g r ab vP rh x C):∀e∈C,e.kind=3/\e.src∈(d9 p).wv/\e.dst∈(d9 p).wv:=λe a=>⟨(s.sum.kind a).1,(s.sum.kind a).2.1,(s.sum.kind a).2.2.1⟩
end
def bi3(V:List Vx)(a:A6)(t:Int×Int)(e:Eg):Prop:=t.2=6/\∃v,V[t.1.toNat]?=some v/\(⟨v.proc,5,v.id,a⟩:Vx)∈V/\e=⟨⟨v.proc,5,v.id,a⟩,v,3⟩
def cL8{V:List Vx}{L:List Eg}{b:Nat}{a:A6}{c e:Eg}(k:c∈L)(j:e∈as0 V b a c):∃t∈(L.filter λe=>decide (E9 V e.src=b)).map (λe=>(((E9 V e.dst:Nat):Int),e.kind)),bi3 V a t e:=by
 obtain⟨⟨d,f⟩,v,g,h,i⟩:=aJ2.1 j;exact⟨_,dO7.2 ⟨c,dP2.2 ⟨k,by simpa using f⟩,rfl⟩,d,v,by simpa using g,h,i⟩
def cL9{V:List Vx}{L:List Eg}{b:Nat}{a:A6}{e:Eg}{t:Int×Int}(l:t∈(L.filter λe=>decide (E9 V e.src=b)).map (λe=>(((E9 V e.dst:Nat):Int),e.kind)))(h:bi3 V a t e):∃d∈L,e∈as0 V b a d:=by
 obtain⟨d,c,rfl⟩:=dO7.1 l;obtain⟨c,g⟩:=dP2.1 c;obtain⟨f,v,i,j,k⟩:=h;exact⟨d,c,aJ2.2 ⟨⟨f,dM8 g⟩,v,by simpa using i,j,k⟩⟩
def cM0{p:Pg}{w1 w:World}{g r:Nat}{ab:Addr}{vP:Value}{D:Nat}{x:WX}{C:List Eg}(s:HS p w1 w g r ab vP D x C)(hR:I5 p=true)(hw:C5 p<=1000000)(al m:Nat){vi vo:Vx}(ba:(d9 p).wv[al]?=some vi)(ch:vi.kind=3)(aK:(d9 p).wv[m]?=some vo)(ck:vo.kind=4)
  (bK:Y5 (S4 (d9 p).wv ((d9 p).we++C) [1,2,3]) (al:Int) (m:Int)) :
  p7 prog 83 #[.pointer (some ⟨g,0,none⟩),.int .i64 al,.int .i64 m,.map (some D)] w λu j=>(∃(y:Bool) (x':WX) (X:List Eg),u = .bool y/\HS p w1 j g r ab vP D x' X/\(∀e∈C,e∈X)/\(y=false->X=C)/\(y=true->C.length<X.length) /\
   (∀xe∈(d9 p).we++C,∀e∈as0 (d9 p).wv m vi.slot xe,e∈X)/\o9 (hN g r D x) w j/\(∀i b,R3 g r x' i b->R3 g r x i b\/w.heap.size<=b)/\x'.vV=x.vV):=by
 refine p9 [.pointer (some ⟨g,0,none⟩),.int .i64 al,.int .i64 m,.map (some D)] func83 rfl ?_;have hr:=N3 hR;have h0:=aw9 hr.toKnown;have hn:=aK7 hr hw;have cw:=bP8 hr hw;have cr:m<(d9 p).wv.length:=(dM9.1 aK).1;have cb:al<(d9 p).wv.length:=(dM9.1 ba).1;have aU:∀{a:Nat} {v:Vx},(d9 p).wv[a]?=some v->E9 (d9 p).wv v=a:=λh=>cs5 (au3 hr hw) h;have cz:A4.sz Vx=4:=rfl;have ax:∀X,bl7 p X->(V7 (d9 p).wv ((d9 p).we++X))[m]?=some (((d9 p).we.filter λe=>decide (E9 (d9 p).wv e.src=m)).map λe=>(((E9 (d9 p).wv e.dst:Nat):Int),e.kind)):=λX h=>by
  rw[bF4 cr,dS4];have:X.filter (λe=>decide (E9 (d9 p).wv e.src=m))=[]:=List.filter_eq_nil_iff.2 λe A=>by
   obtain⟨_,h2,_,h4⟩:=h.kind A;simp only[dQ3];intro hh;have h5:=aJ4 h2;rw[hh,aK]at h5;rw[<-dO3 h5]at h4;omega
  rw[this,dP8]
 have bI:∀t e,t∈((d9 p).we.filter λe=>decide (E9 (d9 p).wv e.src=m)).map (λe=>(((E9 (d9 p).wv e.dst:Nat):Int),e.kind))->bi3 (d9 p).wv vi.slot t e->∃xe∈(d9 p).we,e∈as0 (d9 p).wv m vi.slot xe:=λt e ht h=>cL9 ht h;have bz:∀xe e,xe∈(d9 p).we++C->e∈as0 (d9 p).wv m vi.slot xe->∃t∈((d9 p).we.filter λe=>decide (E9 (d9 p).wv e.src=m)).map (λe=>(((E9 (d9 p).wv e.dst:Nat):Int),e.kind)),bi3 (d9 p).wv vi.slot t e:=λxe e hx A=>by
  rcases dN7.1 hx with h|h
  ·exact cL8 h A
  ·have:=(s.sum.kind h).1;have:=(aJ2.1 A).1.1;omega
 have bD:∀t∈((d9 p).we.filter λe=>decide (E9 (d9 p).wv e.src=m)).map (λe=>(((E9 (d9 p).wv e.dst:Nat):Int),e.kind)),∃T:Nat,t.1=(T:Int)/\T<(d9 p).wv.length:=λt ht=>by
  obtain⟨e,_,rfl⟩:=dO7.1 ht;exact⟨_,rfl,bn1 h0 _⟩
 have ct:(((d9 p).we.filter λe=>decide (E9 (d9 p).wv e.src=m)).map (λe=>(((E9 (d9 p).wv e.dst:Nat):Int),e.kind))).length<=960480000:=by
  rw[dN4];exact dN1 (dP3 _ _) cw
 generalize((d9 p).we.filter λe=>decide (E9 (d9 p).wv e.src=m)).map (λe=>(((E9 (d9 p).wv e.dst:Nat):Int),e.kind))=row at ax bI bz bD ct;obtain⟨u0,aJ⟩:∃u,x.un[m]?=some u:=by
  have h1:=s.ws.rn.len;have h2:(wcC p C C).N.length=(d9 p).wv.length:=bd0;exact⟨_,dM4 (by omega)⟩
 have l6:=s.ws.ld (i:=6) (u:=x.vn) rfl bl0;have br:=s.ws.rn.outer.inS (dM9.1 aJ).1;have cm:=aD3 (P:=prog) (t:=216) s.ws.rn aJ bP0;have bA:=s.ws.rn.row m u0 row aJ (ax C s.sum);have b5:=bA.isS;have cq:=bA.vlen;simp only[m8,o6,y0,simprocAttr,l6,br,cm,b5,cq];refine n9 [0,1,2,3,21,22] (σ:=(Nat×Bool)×(WX×List Eg)) (λt f j=>f 23 = .int .i64 t.1.1/\f 8 = .bool t.1.2/\t.1.1<=row.length/\HS p w1 j g r ab vP D t.2.1 t.2.2/\t.2.1.un[m]?=some u0/\(∀e∈C,e∈t.2.2)/\(t.1.2=false->t.2.2=C)/\(t.1.2=true->C.length<t.2.2.length) /\
  (∀q∈row.take t.1.1,∀e,bi3 (d9 p).wv vi.slot q e->e∈t.2.2)/\o9 (hN g r D x) w j/\(∀i b,R3 g r t.2.1 i b->R3 g r x i b\/w.heap.size<=b)/\t.2.1.vV=x.vV) (λt=>row.length-t.1.1) ((0,false),(x,C)) ?_ ?_
 ·simp only[p8,simprocAttr];exact⟨by trivial,by trivial,dN6 _,s,aJ,λ_ h=>h,λ_=>by trivial,λh=>(by cases h),λq hq=>(by simp at hq),o9.refl _,λi b h=>.inl h,by trivial⟩
 rintro⟨⟨k,y⟩,o,B⟩ f w2 hk ⟨Y,h8,cj,s2,ak,E,ah,aj,J,bt,W,I⟩;simp only at Y h8 cj s2 ak E ah aj J W I;simp only[dM6,p8,simprocAttr]at hk;obtain⟨e0,e1,e2,e3,bh,b0,_⟩:=hk;simp only[m8,o6,simprocAttr,Y,b0];refine n7 (λhc=>?_) (λhc=>?_);rotate_left
 ·have b8:k=row.length:=by simp at hc;omega
  subst b8;rw[dN8]at J;simp only[m8,simprocAttr,h8];refine o8 results83 ?_;simp only[p8,simprocAttr];refine⟨y,o,B,by trivial,s2,E,ah,aj,λxe hx e A=>?_,bt,W,I⟩;obtain⟨t,ht,h⟩:=bz xe e hx A;exact J t ht e h
 have ar:k<row.length:=by simpa using hc
 have bB:=s2.ws.rn.row m u0 row ak (ax B s2.sum);have bJ:R (i4 w2) u0.v row:=bB.flatRN λ_ _=>rfl;have aS:=bJ.inS ar;have ae:=dh7 bJ (i5 _) (dM4 ar);obtain⟨T,a2,a3⟩:=bD _ (dN5 ar);have bG:=dN3 ar;have bH:=dN5 ar;generalize row[k]=t at ae a2 bG bH;obtain⟨t1,q⟩:=t;simp only at a2;subst a2;simp only at ae;have L:∀X:List Eg,(∀e∈B,e∈X)->(∀e,bi3 (d9 p).wv vi.slot ((T:Int),q) e->e∈X)->∀q'∈row.take (k+1),∀e,bi3 (d9 p).wv vi.slot q' e->e∈X:=λX h1 h2 q' hq e A=>by
  rw[bG]at hq;rcases dN7.1 hq with h|h
  ·exact h1 e (J q' h e A)
  ·simp only[dP1]at h;subst h;exact h2 e A
 obtain⟨ca,dp,S,aO,aW,bL,a5,cR⟩:=cV2 (w:=w2) (T:Int) q;obtain⟨dc,bP⟩:=aA2 a5 (o9.refl (M:=λ_=>False) S) id;have s3:=s2.more bL;have bu:o9 (hN g r D x) w S:=bt.trans (o9.up bL);rcases dM5 (!decide (q=6))with hq|hq
 ·have aI:¬q=6:=by simpa using hq
  have cs:decide (q=6)=false:=by simpa using aI
  simp only[m8,o6,y0,simprocAttr,Y,h8,bh,aS,ae,aO,aW,bP,cs];exact⟨((k+1,y),(o,B)),by simp only[];omega,by simp only[];rw[B0 k (by omega)],by trivial,by simp only[];omega,s3,ak,E,ah,aj,L B (λ_ h=>h) λe A=>absurd A.1 aI,bu,W,I⟩
 have aI:q=6:=by simpa using hq
 subst aI;have aL:=s3.more (o7.drew S);have a1:R (i4 S.drew) o.vV (d9 p).wv:=aL.ws.rV;have ao:(d9 p).wv[T]?=some (d9 p).wv[T]:=dM4 a3;have aH:=aU ao;have bb:=dN5 a3;have bq:=a1.inS a3;have aq:=a1.inS cb;generalize cv:(d9 p).wv[T]=v at ao aH bb;clear cv;obtain⟨d,dq,z,bl,aX,bN,bM,aP⟩:=dB3 (P:=prog) (w:=S.drew) (N:=hN g r D o) (T:=26) (SV.ofN (i4 S.drew) v) (λb G=>aL.lt G) bl3 rfl O9;have k1:∀K f d c,F3 prog (λj=>o7 S.drew j) (Instr.loadAt 22 (.pointer (some ⟨g,2,none⟩))) K f d c=K (C4 f d o.vV) c:=λK f d c=>B7 (w0:=S.drew) (o9.refl _) λj h=>(aL.more h).ws.ld (u:=o.vV) rfl af9;have k2:∀K f d c,F3 prog (λj=>o7 S.drew j) (Instr.loadAt 3 (.pointer (some ⟨ca,0,none⟩))) K f d c=K (C4 f d (.int .i64 (T:Int))) c:=λK f d c=>B7 (w0:=S.drew) (o9.refl _) λj h=>(aA2 a5 ((o7.drew S).trans h) id).1;have k3:∀K f d c,F3 prog (λj=>o7 S.drew j) (Instr.loadAt 26 (.pointer (some (G4 o.vV (T*4))))) K f d c=K (C4 f d (.agg (A0.cells v).toArray)) c:=λK f d c=>B7 (w0:=S.drew) (o9.refl _) λj h=>cN7 a1 (b7 h) ao;have cS:decide ((6:Int)=6)=true:=rfl;simp only[m8,o6,y0,simprocAttr,Y,bh,aS,ae,aO,aW,bP];refine C0 (λj=>o7 S.drew j) 9 (A5 [0,1,2,3,4,5,6,7,8]) ?_;simp only[D6,A5,m8,o6,y0,simprocAttr,e0,k1,k2,k3,bq,bl,E8];refine⟨bN,?_⟩;have s5:=(aL.more bM).more (o7.drew z);have aY:o7 S z.drew:=((o7.drew S).trans bM).trans (o7.drew z);have aE:o9 (hN g r D x) w z.drew:=bu.trans (o9.up aY);have bk:R (i4 z.drew) o.vV (d9 p).wv:=s5.ws.rV;have aQ:=bk.at_ ba;rw[cz]at aQ;obtain⟨_,cI⟩:=aQ.vx;have m1:∀K f d c,F3 prog (λj=>j=z.drew) (Instr.loadAt 88 (.pointer (some ⟨g,5,none⟩))) K f d c=K (C4 f d (.map (some r))) c:=λK f d c=>B7 (w0:=z.drew) rfl λj h=>by subst h;exact s5.ws.ld rfl cb8
 have m2:=(K7.vx (SV.ofN (i4 S.drew) v) aP).2 (λj=>j=z.drew) z.drew rfl λj h=>by subst h;exact B2 z _
 have m3:∀K f d c,F3 prog (λj=>j=z.drew) (Instr.loadAt 22 (.pointer (some ⟨g,2,none⟩))) K f d c=K (C4 f d o.vV) c:=λK f d c=>B7 (w0:=z.drew) rfl λj h=>by subst h;exact s5.ws.ld (u:=o.vV) rfl af9
 have m4:=cI (λj=>j=z.drew) z.drew rfl λj h=>by subst h;exact i5 _
 have V:=s5.ws.lookOk ⟨v.proc,5,v.id,vi.slot⟩;have cl:(wcC p B B).kv=au5 (d9 p).wv:=rfl;rw[cl,aV0]at V;have aD:=bR8 v.proc 5 v.id vi.slot;generalize ad:(⟨v.proc,5,v.id,vi.slot⟩:Vx)=l at V aD;have a6:∀e,bi3 (d9 p).wv vi.slot ((T:Int),6) e->l∈(d9 p).wv/\e=⟨l,v,3⟩:=λe A=>by
  obtain⟨_,v',h1,h2,h3⟩:=A;rw[dP0,ao]at h1;obtain rfl:=dO3 h1;rw[ad]at h2 h3;exact⟨h2,h3⟩
 cases hak:atV (d9 p).wv l with
 | none=>
  rw[hak]at V;simp only[Option.map_none,Option.getD_none,Option.isSome_none]at V;have m5:∀K f d c,F3 prog (λj=>j=z.drew) (Instr.lookup 88 (.map (some r)) (.agg (A0.cells l).toArray) true) K f d c=K (C4 f d (.tuple #[.int .i64 0,.bool false])) c:=λK f d c=>B7 (w0:=z.drew) rfl λj h=>by subst h;exact V
  simp only[m8,simprocAttr,aX];refine C0 (λj=>j=z.drew) 22 (A5 [0,1,2,3,4,5,6,7,8,9,10,11,12,13,14,15,16,17,18,19,20,21]) ?_;simp only[D6,A5,m8,o6,y0,simprocAttr,e0,e1,m1,m2,m3,m4,m5,aq,aD,Y,h8];exact⟨((k+1,y),(o,B)),by simp only[];omega,by simp only[];rw[B0 k (by omega)],by trivial,by simp only[];omega,s5,ak,E,ah,aj,L B (λ_ h=>h) λe A=>(by
   have:=ag3.2 (a6 e A).1;rw[hak]at this;cases this),aE,W,I⟩
 | some F=>
  rw[hak]at V;simp only[dS5,dR9,Option.isSome_some]at V;have an:=aU0 hak;have b2:=cH3 hak;have aG:=aU an;have a7:l∈(d9 p).wv:=dO4 an;have m5:∀K f d c,F3 prog (λj=>j=z.drew) (Instr.lookup 88 (.map (some r)) (.agg (A0.cells l).toArray) true) K f d c=K (C4 f d (.tuple #[.int .i64 (F:Int),.bool true])) c:=λK f d c=>B7 (w0:=z.drew) rfl λj h=>by subst h;exact V
  have aR:=cq6 s5.kinds a7 bb;rw[aG,aH]at aR;have Z:=s5.has.lookup (P:=prog) dv3 Tryz.underlying143 T5 ((F:Int),(T:Int));rw[aR]at Z;have Z:(Instr.lookup 143 (.map (some D)) (.agg #[.int .i64 (F:Int),.int .i64 (T:Int)]) false).run prog z.drew = .ok (.bool (decide ((⟨l,v,3⟩:Eg)∈B))) z.drew:=Z;have bn:=bJ9 (F:Int) (T:Int);obtain⟨bQ,_⟩:=aA2 a5 aY id;simp only[m8,simprocAttr,aX];refine C0 (λj=>j=z.drew) 22 (A5 [0,1,2,3,4,5,6,7,8,9,10,11,12,13,14,15,16,17,18,19,20,21]) ?_;rcases dM5 (decide ((⟨l,v,3⟩:Eg)∈B))with hmem|hmem
  ·rw[hmem]at Z;simp only[D6,A5,m8,o6,y0,simprocAttr,e0,e1,e3,m1,m2,m3,m4,m5,aq,aD,Y,h8,bQ,bn,Z];exact⟨((k+1,y),(o,B)),by simp only[];omega,by simp only[];rw[B0 k (by omega)],by trivial,by simp only[];omega,s5,ak,E,ah,aj,L B (λ_ h=>h) λe A=>(by rw[(a6 e A).2];exact dM8 hmem),aE,W,I⟩
  rw[hmem]at Z;have bw:=dN2 hmem;have bx:=cM2 s5.kinds a7 bb bw;rw[aG,aH]at bx;obtain⟨H,q8,a8,au⟩:=s5.has.push (P:=prog) dv3 Tryz.underlying143 bx (.bool true);have q8:(Instr.mapUpdate 143 (.map (some D)) (.agg #[.int .i64 (F:Int),.int .i64 (T:Int)]) (.bool true)).run prog z.drew = .ok () H:=q8;have cK:=s5.ws.mod au λb G=>by subst G;exact⟨s5.ge,s5.off⟩
  simp only[D6,A5,m8,o6,y0,simprocAttr,e0,e1,e3,m1,m2,m3,m4,m5,aq,aD,bQ,bn,Z,aC9,q8];have aA:=cK.more (o7.drew H);have aN:R (i4 H.drew) o.vV (d9 p).wv:=aA.rV;have bp:=aN.inS b2;have aC:B5 (B6 z (hN g r D o)) (i4 H.drew):=H5 (t8 (B2 z _) (b7 (o7.drew z))) (au.trans (o9.up (o7.drew H))) λb G=>by subst G;exact F2 (.inl rfl)
  obtain⟨bY,bW,n,ap,a9,ay,ag,a4⟩:=dB3 (P:=prog) (w:=H.drew) (N:=hN g r D o) (T:=67) (SV.ofN (i4 H.drew) (⟨l,v,3⟩:Eg)) (λb G=>dS9 (s5.lt G) au.size) cU7 rfl aZ8;have n1:∀K f d c,F3 prog (λj=>o7 H.drew j) (Instr.loadAt 22 (.pointer (some ⟨g,2,none⟩))) K f d c=K (C4 f d o.vV) c:=λK f d c=>B7 (w0:=H.drew) (o9.refl _) λj h=>(aA.more h).ld (u:=o.vV) rfl af9;have n2:∀K f d c,F3 prog (λj=>o7 H.drew j) (Instr.loadAt 26 (.pointer (some (G4 o.vV (F*4))))) K f d c=K (C4 f d (.agg (A0.cells l).toArray)) c:=λK f d c=>B7 (w0:=H.drew) (o9.refl _) λj h=>cN7 aN (b7 h) an;have n3:=(K7.vx_v (SV.ofN (i4 S.drew) v) aP).2 (λj=>o7 H.drew j) H.drew (o9.refl _) λj h=>t8 aC (b7 h);have bm:=bp3 l v 3;refine bS7 [0,8,23] (λj=>o7 H.drew j) 10 (.op 0 (.op 1 (.op 2 (.op 3 (.op 4 (.op 5 (.op 6 (.op 7 (.fork [8,9] (λi=>if i=8 then(A5 [9])else(A5 [8])))))))))))
   (λf' j=>f' 14 = .pointer (some bY)/\f' 82 = .agg (A0.cells (⟨l,v,3⟩:Eg)).toArray/\j=bW) (by decide +kernel) (by decide +kernel) (o9.refl _) ?_ ?_
  ·simp only[D6,A5,m8,o6,y0,simprocAttr,e0,n1,n2,n3,bp];refine ah3 (by decide +kernel) (λi hi=>?_);simp only[dO6,dR2,dX1]at hi;rcases hi with rfl|rfl
   ·simp only[D6,m8,simprocAttr,bm,ap,E8];exact⟨ay,by trivial,by trivial,by trivial⟩
   ·simp only[D6,m8,simprocAttr,bm,ap,E8];exact⟨ay,by trivial,by trivial,by trivial⟩
  rintro f9 _ hk ⟨aZ,b1,rfl⟩;simp only[dM6,p8,simprocAttr]at hk;obtain⟨j0,j8,cB,_⟩:=hk;have bU:=(aA.more ag).more (o7.drew n);have cT:=s2.sum.few hr hw;obtain⟨p1,hS,v',dn,be,p2,p3,bV,p4,af,av⟩:=bU.pushS (⟨l,v,3⟩:Eg) (by show B.length<=_;omega) (e:=55);have o1:∀K f d c,F3 prog (λj=>o9 (A3 o.vS) n.drew j) (Instr.loadAt 55 (.pointer (some ⟨g,4,none⟩))) K f d c=K (C4 f d o.vS) c:=λK f d c=>B7 (w0:=n.drew) (o9.refl _) hS;have U:B5 (B6 n (hN g r D o)) (i4 n.drew):=t8 (B2 n _) (b7 (o7.drew n));have bo:=K7.eg_v (SV.ofN (i4 H.drew) (⟨l,v,3⟩:Eg)) a4;have o2:=bo.2 (λj=>o9 (A3 o.vS) n.drew j) n.drew (o9.refl _) λj h=>H5 U h λb G=>F2 (.inr ⟨4,G⟩);have bO:=bo.1 be (H5 U af λb G=>by
   rcases G with G|G
   ·exact F2 (.inr ⟨0,G⟩)
   ·exact F2 (.inr ⟨4,G⟩))
  rw[e0]at j0;simp only[D6,m8,simprocAttr,aZ,b1,a9];refine C0 (λj=>o9 (A3 o.vS) n.drew j) 8 (A5 [0,1,2,3,4,5,6,7]) ?_;simp only[D6,A5,m8,o6,simprocAttr,j0,aZ,o1,o2,p1,p2,E8];refine⟨o9.up (o7.alloc _ _),p4,?_⟩;simp only[m8,simprocAttr,j0,aZ,p3,bO];refine y5 (cr0 bV rfl ((d9 p).we++B) rfl rfl h0 (by show(d9 p).wv.length<=_;omega) (by rw[dM7];omega) ⟨l,v,3⟩) ?_;rintro _ aM ⟨u1,u2,az,aT,Q⟩;have ci:l.kind=5:=by rw[<-ad]
  have b3:F≠m:=λh=>by
   rw[h,aK]at an;rw[<-dO3 an]at ci;omega
  have cX:w.heap.size<=z.drew.heap.size:=aE.size;have cY:z.drew.heap.size<=H.drew.heap.size:=(au.trans (o9.up (o7.drew H))).size;have cu:H.drew.heap.size<=n.drew.heap.size:=(ag.trans (o7.drew n)).size;have cW:D<z.drew.heap.size:=s5.has.lt;have O:∀i,¬R3 g r {o with vS:=v'} i D:=λi h=>by
   rcases av i D h with h|h
   ·exact s2.off i h
   ·omega
  have aw:∀i b,R3 g r {o with vS:=v'} i b->R3 g r x i b\/w.heap.size<=b:=λi b h=>by
   rcases av i b h with h|h
   ·exact W i b h
   ·exact .inr (by omega)
  have cV:C.length<=B.length:=by
   cases y with
   | false=>rw[ah rfl];exact dO0 _
   | true=>exact Nat.le_of_lt (aj rfl)
  have bE:(⟨l,v,3⟩:Eg)∈(d9 p).sums:=by
   obtain⟨xe,cy,A⟩:=bI _ (⟨l,v,3⟩:Eg) bH ⟨rfl,v,by simpa using ao,by rw[ad];exact a7,by rw[ad]⟩;refine cE6 s2.sum.le ⟨m,vo,(al:Int),vi,aK,ck,by5 (λe A=>?_) bK,by simpa using ba,ch,xe,dQ1 _ cy,A⟩;rcases dN7.1 A with h|h
   ·exact dQ1 _ h
   ·exact dS0 _ (E e h)
  have cn:o9 (hN g r D x) w H.drew:=aE.trans ((au.weaken λb _ G=>.inl G).trans (o9.up (o7.drew H)));have co:o9 (hN g r D x) w n.drew:=cn.trans (o9.up (ag.trans (o7.drew n)));have bv:o9 (hN g r D x) w be:=co.chain af λb G h=>by
   rcases h with h|h
   ·exact .inr ⟨0,(W 0 b h).resolve_right (by omega)⟩
   ·exact .inr ⟨4,(W 4 b h).resolve_right (by omega)⟩
  have cp:o9 (hN g r D x) w aM:=bv.chain aT λb G h=>by
   rcases h with h|h
   ·exact .inr ⟨5,(aw 5 b h).resolve_right (by omega)⟩
   ·exact .inr ⟨6,(aw 6 b h).resolve_right (by omega)⟩
  obtain⟨ac,bd,bc,az,Q⟩:∃ac:WX,ac.vV=x.vV/\ac.un[m]?=some u0/\WS w1 aM g r ab vP ac (wcC p (B++[⟨l,v,3⟩]) (B++[⟨l,v,3⟩]))/\∀i b,R3 g r ac i b->R3 g r {o with vS:=v'} i b\/be.heap.size<=b:=by
   refine⟨{o with vS:=v',un:=o.un.set (E9 (d9 p).wv l) u1,up:=o.up.set (E9 (d9 p).wv v) u2},I,?_,by unfold wcC;rw[<-dP5];exact az,Q⟩;show(o.un.set (E9 (d9 p).wv l) u1)[m]?=some u0;rw[aG,dU7 b3];exact ak
  have aF:aq9 cf2 aM D (aV4 (d9 p).wv (B++[⟨l,v,3⟩])):=by
   have e:aV4 (d9 p).wv (B++[⟨l,v,3⟩])=aV4 (d9 p).wv B++[(((F:Int),(T:Int)),.bool true)]:=by
    unfold aV4;rw[dP6,dQ8,List.map_nil,aG,aH]
   rw[e];refine((a8.mod ((o7.drew H).trans (ag.trans (o7.drew n))) id).mod af λh=>?_).mod aT λh=>?_
   ·rcases h with h|h
    ·exact s2.off 0 h
    ·exact s2.off 4 h
   ·rcases h with h|h
    ·exact O 5 h
    ·exact O 6 h
  have b4:HS p w1 aM g r ab vP D ac (B++[⟨l,v,3⟩]):=⟨az,aF,s2.ge,λi h=>by
   rcases Q i D h with h|h
   ·exact O i h
   ·have:=af.size;omega,⟨by
   rw[dR0];refine⟨s2.sum.nd,by simp,λa ha b G=>?_⟩;simp only[dP1]at G;subst G;rintro rfl;exact bw ha,λe A=>by
   rcases dN7.1 A with h|h
   ·exact s2.sum.le e h
   ·simp only[dP1]at h;subst h;exact bE⟩⟩
  simp only[m8,o6,simprocAttr,cB,Y];have cc:row.length-(k+1)<row.length-k:=by omega
  have cd:IntKind.i64.wrap ((k:Int)+1)=((k+1:Nat):Int):=B0 k (by omega);have ce:k+1<=row.length:=by omega
  have cf:C.length<(B++[(⟨l,v,3⟩:Eg)]).length:=by rw[dM7,dP7];omega
  have cg:=L (B++[⟨l,v,3⟩]) (λe h=>dQ1 _ h) (λe A=>by rw[(a6 e A).2];exact dS0 _ (dP1.2 rfl));refine⟨((k+1,true),(ac,B++[⟨l,v,3⟩])),cc,by rw[cd],(by first|exact True.intro|rfl),ce,b4,bc,λe A=>dQ1 _ (E e A),λh=>Bool.noConfusion h,λ_=>cf,cg,cp,λi b h=>?_,bd⟩;rcases Q i b h with h|h
  ·exact aw i b h
  ·exact .inr (dN1 bv.size h)
def bn8(V:List Vx)(L C:List Eg)(o i:Nat):Prop:=∀(a:Vx),Y5 (S4 V L [1,2,3]) (i:Int) (o:Int)->V[i]?=some a->a.kind=3->∀x∈L,∀e∈as0 V o a.slot x,e∈C
def cZ9{V:List Vx}{L C:List Eg}{o:Nat}(f:0<V.length)(h:∀i,i<V.length->bn8 V L C o i):bn9 V L C o:=λq e l i n j c d=>by
 have k:H1 V.length i=true:=by
  have m:=(dM9.1 e).1;have g:=(T8 f).1 j;have:=bP7 (am1 (V:=V) (L:=L) (ks:=[1,2,3]) f) (a:=(o:Int)) (b:=i) (by rw[ac7];exact B3.2 ⟨by omega,by omega⟩) g;rw[ac7]at this;exact this
 obtain⟨g,p⟩:=B3.1 k;obtain⟨I,rfl⟩:∃I:Nat,i=(I:Int):=⟨i.toNat,by omega⟩;rw[dP0]at c;exact h I (by omega) n j c d
def cw8{V:List Vx}{L:List Eg}{o i:Nat}(b:0<V.length)(k:o<V.length)(j:i<V.length):(J2 (X9 V L [1,2,3]) (U5 V.length [(o:Int)]))[i]?=some true↔Y5 (S4 V L [1,2,3]) (i:Int) (o:Int):=by
 have e:(J2 (X9 V L [1,2,3]) (U5 V.length [(o:Int)])).length=V.length:=by rw[K0,G9]
 have h:A7 (J2 (X9 V L [1,2,3]) (U5 V.length [(o:Int)])) (i:Int)=true↔Y5 (S4 V L [1,2,3]) (i:Int) (o:Int):=by
  rw[Q7 (am1 b) (by rw[ac7,G9])];constructor
  ·rintro⟨a,g,c⟩;obtain⟨_,d⟩:=ay5.1 g;simp only[dP1]at d;subst d;exact(T8 b).2 c
  ·intro c;exact⟨_,ay5.2 ⟨B3.2 ⟨by omega,by omega⟩,by simp⟩,(T8 b).1 c⟩
 rw[<-h];unfold A7;have f:H1 (J2 (X9 V L [1,2,3]) (U5 V.length [(o:Int)])).length (i:Int)=true:=B3.2 ⟨by omega,by rw[e];omega⟩;rw[f,dT7,dP0,List.getD_eq_getElem?_getD];rw[dM4 (by rw[e];exact j)];simp
def bQ8{p:Pg}{w1 w:World}{g r:Nat}{ab:Addr}{vP:Value}{x:WX}(s:WS w1 w g r ab vP x (wcC p [] []))(hR:I5 p=true)(hw:C5 p<=1000000):
  p7 prog 50 #[.pointer (some ⟨g,0,none⟩)] w λu K=>(∃(x':WX) (C:List Eg),u = .pointer (some ⟨g,0,none⟩)/\WS w1 K g r ab vP x' (wcC p C (aw4 C))/\bl7 p C/\(∀e,e∈C↔e∈(d9 p).sums)/\o9 (bP6 g r x) w K):=by
 refine p9 [.pointer (some ⟨g,0,none⟩)] func50 rfl ?_;have hr:=N3 hR;have h0:=aw9 hr.toKnown;have hn:=aK7 hr hw;have cx:=bP8 hr hw;have b4:=λe (S:e∈(d9 p).we)=>cu8 hR hw S;have U:=λ(C:List Eg) (h:bl7 p C)=>h.few hr hw;have b6:A4.sz Vx=4:=rfl;obtain⟨aJ,bh,aN⟩:=aq9.new (P:=prog) (enc:=cf2) w 143;have sI:bl7 p []:=⟨by simp,λe S=>by cases S⟩;have am:HS p w1 (w.alloc (.map #[] 0)) g r ab vP w.heap.size x []:=⟨s.more aN,bh,s.ext.size,λi h=>by have:=s.lt h;omega,sI⟩;generalize w.alloc (.map #[] 0)=wm at aJ bh aN am;generalize cw:w.heap.size=rh at am aJ;have bZ:∀C,bl7 p C->OkA (T9 (d9 p).wv ((d9 p).we++C)).length (T9 (d9 p).wv ((d9 p).we++C)):=λC h=>by
  rw[aM9];refine bX6 h0 (λe S=>?_) (by rw[dM7];have:=U C h;omega);rcases dN7.1 S with d|d
  ·exact b4 e d
  ·have:=(h.kind d).1;omega
 simp only[m8,o6,simprocAttr,aC8,aJ];refine n9 [0,3] (σ:=Bool×WX×List Eg) (λt f K=>f 4 = .bool t.1/\HS p w1 K g r ab vP rh t.2.1 t.2.2/\(t.1=false->∀o,o<(d9 p).wv.length->bn9 (d9 p).wv ((d9 p).we++t.2.2) t.2.2 o)/\o9 (bP6 g r x) w K/\(∀i b,R3 g r t.2.1 i b->R3 g r x i b\/w.heap.size<=b)) (λt=>2*(15840000-t.2.2.length)+if t.1 then 1 else 0) (true,x,[]) ?_ ?_
 ·simp only[p8,simprocAttr];exact⟨by trivial,am,λh=>(by cases h),o9.up aN,λi b h=>.inl h⟩
 clear am sI;rintro⟨bw,x2,C⟩ f w2 hk ⟨h4,M,z,aa,G⟩;simp only at h4 M z G;simp only[dM6,p8,simprocAttr]at hk;obtain⟨e0,e3,_⟩:=hk;have ct:=U C M.sum;cases bw with
 | false=>
  have J:=cE5 M.sum (z rfl);have l4:=M.ws.ld (i:=4) (u:=x2.vS) rfl bk9;simp only[m8,o6,simprocAttr,h4,e0,l4];refine y5 (aQ2 M.ws.oS (by show C.length<=_;omega) (X7 _)) ?_;rintro u3 w3 ⟨bY,bi,bP⟩;obtain⟨cy,bb,bT⟩:=bV3;obtain⟨w4,q1,s4,bW⟩:=M.ws.putS bi bY (λb I=>.inl (bP b I)) bb bT;simp only[m8,o6,simprocAttr,q1,e0];exact o8 results50 ⟨_,C,(by first|exact True.intro|rfl),s4,M.sum,J,(aa.chain bi λb I h=>⟨4,(G 4 b h).resolve_right (by omega)⟩).chain bW λb I h=>⟨0,h⟩⟩
 | true=>
 have l2:=M.ws.ld (i:=2) (u:=x2.vV) rfl af9;have bM:=M.ws.oV.isS;have bX:vlen x2.vV=(d9 p).wv.length:=M.ws.oV.vlen;simp only[m8,o6,simprocAttr,h4,e0,l2,bM,bX];refine n9 [0,3,15,16] (σ:=(Nat×Bool)×(WX×List Eg)) (λt f K=>f 17 = .int .i64 t.1.1/\f 4 = .bool t.1.2/\t.1.1<=(d9 p).wv.length/\HS p w1 K g r ab vP rh t.2.1 t.2.2/\t.2.1.vV=x2.vV/\(t.1.2=false->t.2.2=C/\∀o,o<t.1.1->bn9 (d9 p).wv ((d9 p).we++C) C o)/\(t.1.2=true->C.length<t.2.2.length)/\o9 (bP6 g r x) w K/\(∀i b,R3 g r t.2.1 i b->R3 g r x i b\/w.heap.size<=b)) (λt=>(d9 p).wv.length-t.1.1) ((0,false),(x2,C)) ?_ ?_
 ·simp only[p8,simprocAttr];exact⟨by trivial,by trivial,dN6 _,M,(by first|exact True.intro|rfl),λ_=>⟨(by first|exact True.intro|rfl),λo ho=>by omega⟩,λh=>(by cases h),aa,G⟩
 clear M l2 z aa G;rintro⟨⟨o,mo⟩,x3,j⟩ f3 w3 hk ⟨N,ah,b0,s3,an,B,Z,E,n⟩;simp only at N ah b0 s3 an B Z n;simp only[dM6,p8,simprocAttr]at hk;obtain⟨g0,g3,aC,a0,_⟩:=hk;rw[e0]at g0;rw[e3]at g3;simp only[m8,o6,simprocAttr,N,a0];refine n7 (λhc=>?_) (λhc=>?_);rotate_left
 ·have aG:o=(d9 p).wv.length:=by simp at hc;omega
  subst aG;have cg:=U j s3.sum;simp only[m8,simprocAttr,ah];refine⟨(mo,x3,j),?_,by trivial,s3,λh=>?_,E,n⟩
  ·simp only[];cases mo with
   | false=>rw[(B rfl).1];simp
   | true=>
    have:=Z rfl;simp only[dS6];omega
  ·obtain⟨rfl,J⟩:=B h;exact J
 have ak:o<(d9 p).wv.length:=by simpa using hc
 have al:(d9 p).wv[o]?=some (d9 p).wv[o]:=dM4 ak;have a6:R (i4 w3) x2.vV (d9 p).wv:=by rw[<-an];exact s3.ws.rV
 have ba:=a6.inS ak;have aH:=cN7 a6 (i5 _) al;generalize b3:(d9 p).wv[o]=vo at al aH;clear b3;obtain⟨d6,cD,w4,a7,bp,ao,bO⟩:=aw0 (w:=w3) (λ_=>False) (SV.ofN (i4 w3) vo) λb I=>I.elim;have lk:=(K7.vx (SV.ofN (i4 w3) vo) bO).1 w4 (B2 _ _);have s4:=s3.more ao;have ax:bn9 (d9 p).wv ((d9 p).we++C) C o->mo=false->j=C/\∀o',o'<o+1->bn9 (d9 p).wv ((d9 p).we++C) C o':=λJ h=>⟨(B h).1,λo' cv=>by
  rcases dQ7 o' o with d|d
  ·exact(B h).2 o' d
  ·obtain rfl:o'=o:=by omega
   exact J⟩
 rcases dM5 (decide (vo.kind=4))with h4k|h4k;rotate_left
 ·have J:bn9 (d9 p).wv ((d9 p).we++C) C o:=λv d h2=>by
   rw[al]at d;rw[<-dO3 d]at h2;exact absurd h2 (dN2 h4k)
  simp only[m8,o6,y0,simprocAttr,N,ah,aC,ba,aH,a7,bp,lk,h4k];exact⟨((o+1,mo),(x3,j)),by simp only[];omega,by simp only[];rw[B0 o (by omega)],(by first|exact True.intro|rfl),by simp only[];omega,s4,an,ax J,Z,E.trans (o9.up ao),n⟩
 have bV:=dM8 h4k;simp only[m8,o6,y0,simprocAttr,N,g0,aC,ba,aH,a7,bp,lk,h4k];refine y5 (cv5 s4.ws o ak (bZ j s4.sum) aM9 (by show(d9 p).wv.length<=_;omega)) ?_;rintro ua w5 ⟨l,aM⟩;have l:A8 (i4 w4) w5 4 ua (J2 (Z1 (T9 (d9 p).wv ((d9 p).we++j)) [1,2,3]) (U5 (d9 p).wv.length [(o:Int)])):=l;rw[bE0]at l;have au:=λi hi=>cw8 (L:=(d9 p).we++j) h0 ak (i:=i) hi;have ar:(J2 (X9 (d9 p).wv ((d9 p).we++j) [1,2,3]) (U5 (d9 p).wv.length [(o:Int)])).length=(d9 p).wv.length:=by rw[K0,G9]
 generalize J2 (X9 (d9 p).wv ((d9 p).we++j) [1,2,3]) (U5 (d9 p).wv.length [(o:Int)])=A at l au ar;have s5:=s4.more aM;have b1:∀b,A3 ua b->w4.heap.size<=b/\b<w5.heap.size:=λb I=>⟨D0 (l.free I),l.lt I⟩;have a5:∀b,hN g r rh x3 b->b<w4.heap.size:=λb I=>s4.lt I;have aK:w.heap.size<=w5.heap.size:=dN1 E.size (ao.trans aM).size;have bN:=l.isS;have bk:=l.vlen;have bn:A8 hZ w5 4 ua A:=l.down (X7 _);have a4:C.length<=j.length:=by
  cases mo with
  | false=>rw[(B rfl).1];exact dO0 _
  | true=>exact Nat.le_of_lt (Z rfl)
 rw[ar]at bk;simp only[m8,o6,simprocAttr,bN,bk];refine n9 [0,3,5,15,16,17,28,29] (σ:=(Nat×Bool)×(WX×List Eg)) (λt f K=>f 30 = .int .i64 t.1.1/\f 4 = .bool t.1.2/\t.1.1<=(d9 p).wv.length/\HS p w1 K g r ab vP rh t.2.1 t.2.2/\t.2.1.vV=x2.vV/\A8 hZ K 4 ua A/\w5.heap.size<=K.heap.size/\(∀i b,R3 g r t.2.1 i b->R3 g r x3 i b\/w5.heap.size<=b) /\
  (∀e∈j,e∈t.2.2)/\j.length<=t.2.2.length/\(t.1.2=false->t.2.2=j/\mo=false)/\(t.1.2=true->C.length<t.2.2.length)/\(∀i,i<t.1.1->bn8 (d9 p).wv ((d9 p).we++j) t.2.2 o i)/\o9 (bP6 g r x) w K) (λt=>(d9 p).wv.length-t.1.1) ((0,mo),(x3,j)) ?_ ?_
 ·simp only[p8,simprocAttr];exact⟨by trivial,ah,dN6 _,s5,an,bn,dO0 _,λi b h=>.inl h,λ_ h=>h,dO0 _,λh=>⟨(by first|exact True.intro|rfl),h⟩,Z,λi hi=>by omega,E.trans (o9.up (ao.trans aM))⟩
 rintro⟨⟨i,m⟩,x6,C6⟩ f6 w6 hk ⟨y,O,bS,s6,q,ac,H,c,a,k,T,ae,aE,F⟩;simp only at y O bS s6 q c a k T ae aE;simp only[dM6,p8,simprocAttr]at hk;obtain⟨j0,j3,j5,ca,cb,bt,aO,cc,_⟩:=hk;rw[g0]at j0;rw[g3]at j3;rw[aC]at ca;rw[a0]at cb;rw[N]at bt;have bl:∀b,A3 ua b->¬hN g r rh x6 b:=λb I h=>by
  obtain⟨d,h2⟩:=b1 b I;rcases h with h|⟨i,h⟩
  ·have:=a5 b (.inl h);omega
  ·rcases c i b h with h|h
   ·have:=a5 b (.inr ⟨i,h⟩);omega
   ·omega
 simp only[m8,o6,simprocAttr,y,cc];refine n7 (λaD=>?_) (λaD=>?_);rotate_left
 ·have aG:i=(d9 p).wv.length:=by simp at aD;omega
  subst aG;simp only[m8,o6,simprocAttr,bt,O];refine⟨((o+1,m),(x6,C6)),by simp only[];omega,by simp only[];rw[B0 o (by omega)],(by first|exact True.intro|rfl),by simp only[];omega,s6,q,λh=>?_,ae,F,λi b h=>?_⟩
  ·obtain⟨rfl,bj⟩:=T h;obtain⟨rfl,_⟩:=B bj;exact ax (cZ9 h0 aE) bj
  ·rcases c i b h with h|h
   ·exact n i b h
   ·exact .inr (dN1 aK h)
 have Y:i<(d9 p).wv.length:=by simpa using aD
 have X:i<A.length:=by omega
 have W:=ac.inS X;have D:(Instr.loadAt 4 (.pointer (some (G4 ua i)))).run prog w6 = .ok (.bool A[i]) w6:=D3 (P:=prog) ac (dM4 X) am6;have aj:=au i Y;rw[dM4 X]at aj;generalize A[i]=ai at D aj;have aF:∀C',(∀e∈C6,e∈C')->bn8 (d9 p).wv ((d9 p).we++j) C' o i->∀i',i'<i+1->bn8 (d9 p).wv ((d9 p).we++j) C' o i':=λC' d h2 i' cu=>by
  rcases dQ7 i' i with h|h
  ·intro vi a1 a2 a3 xe hx e S;exact d e (aE i' h vi a1 a2 a3 xe hx e S)
  ·obtain rfl:i'=i:=by omega
   exact h2
 rcases dM5 ai with d|d<;>subst d;rotate_left
 ·have J:bn8 (d9 p).wv ((d9 p).we++j) C6 o i:=λvi aL=>by
   have:=aj.2 aL;simp at this
  simp only[m8,o6,y0,simprocAttr,y,O,aO,W,D];exact⟨((i+1,m),(x6,C6)),by simp only[];omega,by simp only[];rw[B0 i (by omega)],(by first|exact True.intro|rfl),by simp only[];omega,s6,q,ac,H,c,a,k,T,ae,aF C6 (λ_ h=>h) J,F⟩
 have bs:=aj.1 rfl;have V:(d9 p).wv[i]?=some (d9 p).wv[i]:=dM4 Y;have aq:R (i4 w6) x2.vV (d9 p).wv:=by rw[<-q];exact s6.ws.rV
 have bu:=s6.ws.ld (i:=2) (u:=x2.vV) (by rw[<-q];rfl) af9;have av:=aq.inS Y;have Q:=aq.at_ V;rw[b6]at Q;generalize b2:(d9 p).wv[i]=vi at V Q;clear b2;have bv:=Q.vx.1 w6 (i5 _);rcases dM5 (decide (vi.kind=3))with h3k|h3k;rotate_left
 ·have J:bn8 (d9 p).wv ((d9 p).we++j) C6 o i:=λv aL d h2=>by
   rw[V]at d;rw[<-dO3 d]at h2;exact absurd h2 (dN2 h3k)
  simp only[m8,o6,y0,simprocAttr,y,O,j0,aO,W,D,bu,av,bv,h3k];exact⟨((i+1,m),(x6,C6)),by simp only[];omega,by simp only[];rw[B0 i (by omega)],(by first|exact True.intro|rfl),by simp only[];omega,s6,q,ac,H,c,a,k,T,ae,aF C6 (λ_ h=>h) J,F⟩
 have bU:=dM8 h3k;simp only[m8,o6,y0,simprocAttr,y,j0,j3,j5,aO,W,D,bu,av,bv,h3k];refine y5 (cM0 s6 hR hw i o V bU al bV (by5 (λe S=>?_) bs)) ?_
 ·rcases dN7.1 S with h|h
  ·exact dQ1 _ h
  ·exact dS0 _ (a e h)
 rintro _ w7 ⟨mh,x7,C7,rfl,s7,ad,a9,bq,bR,aI,bo,br⟩;have bm:=ac.mod aI bl;have bf:C6.length<=C7.length:=by
  cases mh with
  | false=>rw[a9 rfl];exact dO0 _
  | true=>exact Nat.le_of_lt (bq rfl)
 have J:bn8 (d9 p).wv ((d9 p).we++j) C7 o i:=λv aL d h2 xe hx e S=>by
  rw[V]at d;obtain rfl:=dO3 d;refine bR xe ?_ e S;rcases dN7.1 hx with h|h
  ·exact dQ1 _ h
  ·exact dS0 _ (a xe h)
 have aA:w5.heap.size<=w7.heap.size:=dN1 H aI.size;have az:∀i b,R3 g r x7 i b->R3 g r x3 i b\/w5.heap.size<=b:=λi b h=>by
  rcases bo i b h with h|h
  ·exact c i b h
  ·exact .inr (dN1 H h)
 have a8:=aF C7 ad J;have ay:o9 (bP6 g r x) w w7:=F.chain aI λb I h=>by
  rcases h with h|⟨i,h⟩
  ·omega
  ·exact⟨i,(n i b ((c i b h).resolve_right (by omega))).resolve_right (by omega)⟩
 have bc:(d9 p).wv.length-(i+1)<(d9 p).wv.length-i:=by omega
 have bd:IntKind.i64.wrap ((i:Int)+1)=((i+1:Nat):Int):=B0 i (by omega);have be:i+1<=(d9 p).wv.length:=by omega
 cases mh with
 | true=>
  have bg:=bq rfl;simp only[m8,o6,simprocAttr,y];exact⟨((i+1,true),(x7,C7)),bc,by rw[bd],(by first|exact True.intro|rfl),be,s7,br.trans q,bm,aA,az,λe h=>ad e (a e h),dN1 k bf,λh=>Bool.noConfusion h,λ_=>Nat.lt_of_le_of_lt (dN1 a4 k) bg,a8,ay⟩
 | false=>
  obtain rfl:=a9 rfl;simp only[m8,o6,simprocAttr,y,O];exact⟨((i+1,m),(x7,C7)),bc,by rw[bd],(by first|exact True.intro|rfl),be,s7,br.trans q,bm,aA,az,a,k,T,ae,a8,ay⟩
def cD5(a:Addr)(s:Sh)(id:Int)(w:World)(h:At (i4 w) a s):p7 prog 88 #[.pointer (some a),.int .i64 id] w λu m=>(u = .bool (decide (1<=id)&&decide (id<=(s.l.length:Nat)))/\m=w):=by
 refine p9 [.pointer (some a),.int .i64 id] func88 rfl ?_;obtain⟨o,l,k,b,f,e,d,j,n⟩:=h.sh;have i:=j w (i5 _);have c:=b.isS;have g:=b.vlen;cases h1:decide (1<=id)
 ·simp only[n8,o6,simprocAttr,h1];exact o8 results88 ⟨rfl,by trivial⟩
 ·simp only[n8,o6,simprocAttr,h1,i,c,g];exact o8 results88 ⟨rfl,by trivial⟩
def bd2(x:Option Addr):B4 prog .eql 85 (.pointer x) (.pointer none)=some (.bool x.isNone):=aU1 rfl (by kernel_rfl)
def cs4(x:Option Addr):B4 prog .neq 85 (.pointer x) (.pointer none)=some (.bool (!x.isNone)):=by
 have h:eqT prog 85=2:=by kernel_rfl
 cases x<;>simp[B4,h]
theorem cn2(p:Pg):(⟨(d9 p).wv,(d9 p).we,[],au5 (d9 p).wv,V7 (d9 p).wv ((d9 p).we++[]),T9 (d9 p).wv ((d9 p).we++[])⟩:WC)=wcC p [] []:=rfl
theorem cF9{w1 w:World}{g r:Nat}{I:Addr}{vP:Value}{x:WX}{p:Pg}(s:WS w1 w g r I vP x (wcC p [] []))(hb:At (i4 w1) I (d9 p))(hr:D4 p)(hw:C5 p<=1000000)(id:Int):
  p7 prog 57 #[.pointer (some ⟨g,0,none⟩),.int .i64 id] w λu b=>((∀y,(d9 p).crit id=some y->u = .tuple #[.int .i64 ((E9 (d9 p).wv y:Nat):Int),.bool true])/\((d9 p).crit id=none->∃z,u = .tuple #[z,.bool false])/\o7 w b):=by
 refine p9 [.pointer (some ⟨g,0,none⟩),.int .i64 id] func57 rfl ?_;have hs:(d9 p).s=b9 p:=rfl;obtain⟨sh,vw,_,_,_,_,has,aa,_,_,_,_,av,ae⟩:=hb.book rfl;obtain⟨vl,_,_,Y,_,_,W,ax,_⟩:=has.sh;rw[K9]at W;obtain⟨vg,vp,aM,Z,aN,aA⟩:=W.pg;have l0:=s.ld (i:=0) (u:=.pointer (some I)) rfl aA1;have lb:=av w s.base;simp only[m8,o6,simprocAttr,l0,lb];refine E0 (cD5 sh (b9 p) id w (has.mono s.base)) ?_;by_cases hin:1<=id/\id<=(b9 p).l.length;rotate_left
 ·have J:(decide (1<=id)&&decide (id<=((b9 p).l.length:Nat)))=false:=by
   rw[Bool.and_eq_false_iff];by_cases h:1<=id
   ·exact .inr (dW8 λL=>hin ⟨h,L⟩)
   ·exact .inl (dW8 h)
  have al:(d9 p).crit id=none:=by
   unfold Bk.crit;rw[if_neg λh=>hin ⟨h.1,h.2.1⟩]
  simp only[m8,o6,simprocAttr,J];exact T3 results57 ⟨λy h=>(by rw[al]at h;cases h),λ_=>⟨_,rfl⟩,o9.refl _⟩
 obtain⟨J,L⟩:=hin;have hd:(decide (1<=id)&&decide (id<=((b9 p).l.length:Nat)))=true:=by rw[dV2 J,dV2 L];rfl
 obtain⟨i,B,V,n,C⟩:=co2 hr.may hw J L;obtain⟨xx,pt⟩:=J5 hr.may hw i B;have c:=pt.ids _ V;have E:=P2 pt;generalize xx+A9 p.procs[i].body=y at pt E c;have aB:=J1 hr.may;obtain⟨aw,am,N⟩:=am9 (hv:=aa) (k:=i) (p:=⟨D5 (b9 p) i⟩) (by show((I0 p).map λw=>(⟨w⟩:Ptr Wy))[i]?=_;rw[dP9,S7 B];rfl);simp only at N;have S:=aa.inS (k:=i) (by show i<((I0 p).map λw=>(⟨w⟩:Ptr Wy)).length;unfold I0;simpa using B);have R:=Z.inS B;have v:=Z.at_ (dM4 B);have au:A4.sz Pr=5:=rfl;rw[au]at v;obtain⟨_,_,_,_,_,_,_,_,_,ag⟩:=v.pr;obtain⟨j,rfl⟩:∃j:Nat,id=(j:Int)+1:=⟨(id-1).toNat,by omega⟩;have D:j<(b9 p).l.length:=by omega
 have ar:IntKind.i64.wrap ((j:Int)+1-1)=(j:Int):=by rw[M3 _ (by omega)];omega
 have Q:=Y.inS (k:=j) D;have T:(b9 p).it ((j:Int)+1)=(b9 p).l[j]:=by
  unfold Sh.it;rw[show((j:Int)+1-1).toNat=j by omega,List.getD,dM4 D];rfl
 have q:(d9 p).crit ((j:Int)+1)=if(D5 (b9 p) i).lives ((j:Int)+1)=true then(if(atV (d9 p).wv ⟨p.procs[i].name,2,(j:Int)+1,e0⟩).isSome then some ⟨p.procs[i].name,2,(j:Int)+1,e0⟩else none)else none:=by
  have an:((b9 p).fn (i:Int)).name=p.procs[i].name:=by have:=Q5 (p:=p) B;rw[hs]at this;rw[this]
  unfold Bk.crit;rw[hs,n,L8 B,an];by_cases hl:(D5 (b9 p) i).lives ((j:Int)+1)=true
  ·rw[if_pos ⟨J,L,hl⟩,if_pos hl]
  ·rw[if_neg λh=>hl h.2.2,if_neg hl]
 rw[T]at n c C;have ls:=ax w s.base;obtain⟨sv,X,U⟩:=F9 (P:=prog) (t:=150) Y s.base (dM4 D) X0 X2 V5 H9;rw[H9]at U;generalize(b9 p).l[j]=it at X n c C;obtain⟨d,wz,m,ak,aq,ad,M⟩:=ak8 (X.mono s.base) (i5 _);obtain⟨_,_,af⟩:=M.it;have s3:=s.more (ad.trans (o7.drew m));have ac:∀b,o7 m.drew b->B5 (i4 w1) (i4 b):=λb h=>t8 s3.base (b7 h);have t0:∀K f d l,F3 prog (λb=>o7 m.drew b) (Instr.loadAt 87 (.pointer (some ⟨g,0,none⟩))) K f d l=K (C4 f d (.pointer (some I))) l:=λK f d l=>B7 (w0:=m.drew) (o9.refl _) λb h=>(s3.more h).ld rfl aA1;have t2:=af (λb=>o7 m.drew b) m.drew (o9.refl _) λb h=>b7 ((o7.drew m).trans h);have t3:=ae (λb=>o7 m.drew b) m.drew (o9.refl _) ac;have t4:=bw2 (P:=prog) (t:=114) am an1 (λb=>o7 m.drew b) m.drew (o9.refl _) ac;rw[n]at t2;simp only[m8,o6,y0,simprocAttr,hd,l0,lb,ls,ar,Q,U,ak,aq];refine C0 (λb=>o7 m.drew b) 12 (A5 [0,1,2,3,4,5,6,7,8,9,10,11]) ?_;simp only[D6,A5,m8,o6,y0,simprocAttr,t0,t2,t3,t4,S];refine B9 (aK8 aw (D5 (b9 p) i) p i xx y ((j:Int)+1) m.drew (N.mono s3.base) E.toWyOk (by rw[C]at c;exact c) E.live) (λe F=>?_);have o:=(ad.trans (o7.drew m)).trans F;generalize(D5 (b9 p) i).lives ((j:Int)+1)=lv at q;cases lv with
 | false=>
  rw[if_neg (by simp)]at q;simp only[m8,o6,simprocAttr];exact T3 results57 ⟨λy h=>(by rw[q]at h;cases h),λ_=>⟨_,rfl⟩,o⟩
 | true=>
  rw[if_pos rfl]at q;have s7:=(s3.more F).more (o7.drew e);have G:∀b,o7 e.drew b->B5 (i4 w1) (i4 b):=λb h=>t8 s7.base (b7 h);have q0:∀K f d l,F3 prog (λb=>o7 e.drew b) (Instr.loadAt 87 (.pointer (some ⟨g,0,none⟩))) K f d l=K (C4 f d (.pointer (some I))) l:=λK f d l=>B7 (w0:=e.drew) (o9.refl _) λb h=>(s7.more h).ld rfl aA1;have q1:=ae (λb=>o7 e.drew b) e.drew (o9.refl _) G;have q2:=af (λb=>o7 e.drew b) e.drew (o9.refl _) λb h=>b7 ((((o7.drew m).trans F).trans (o7.drew e)).trans h);have q3:=aA (λb=>o7 e.drew b) e.drew (o9.refl _) G;have q4:=ag (λb=>o7 e.drew b) e.drew (o9.refl _) G;rw[n]at q2;have O:B8 prog 26 [(0,p6 p.procs[i].name),(1,.int .i64 2),(2,.int .i64 ((j:Int)+1))]=some (.agg (A0.cells (⟨p.procs[i].name,2,(j:Int)+1,e0⟩:Vx)).toArray):=by
   have h:A0.cells (⟨p.procs[i].name,2,(j:Int)+1,e0⟩:Vx)=[p6 p.procs[i].name,.int .i64 2,.int .i64 ((j:Int)+1),p6 e0]:=rfl;rw[h];simp[B8,bH4,K8,Instr.fill,Value.cells,p6,e0];rfl
  generalize(⟨p.procs[i].name,2,(j:Int)+1,e0⟩:Vx)=key at q O;have A:E9 (d9 p).wv key=(atV (d9 p).wv key).getD 0:=rfl;have ao:(wcC p [] []).kv=au5 (d9 p).wv:=rfl;have hA:=λ(s:WS w1 e.drew g r I vP x (wcC p [] []))=>dk6 s key;simp only[m8,o6,simprocAttr];refine C0 (λb=>o7 e.drew b) 22 (A5 [0,1,2,3,4,5,6,7,8,9,10,11,12,13,14,15,16,17,18,19,20,21]) ?_;simp only[D6,A5,m8,o6,y0,simprocAttr,q0,q1,q2,q3,q4,R,O];refine y5 (hA s7) ?_;rintro _ w8 ⟨rfl,H⟩;refine⟨H,?_⟩;rw[ao,aV0];cases hak:atV (d9 p).wv key with
  | none=>
   rw[hak]at q;simp only[D6,m8,o6,simprocAttr];exact T3 results57 ⟨λy h=>(by rw[q]at h;cases h),λ_=>⟨_,rfl⟩,(o.trans (o7.drew e)).trans H⟩
  | some a=>
   rw[hak]at q A;simp only[D6,m8,o6,simprocAttr];refine T3 results57 ?_;simp only[p8,simprocAttr];refine⟨λy h=>?_,λh=>(by rw[q]at h;cases h),(o.trans (o7.drew e)).trans H⟩;rw[q]at h;obtain rfl:=dO3 h;rw[A];rfl
section
variable {p:Pg}
def dd9(v:Value)(w:World)(hv:SV (i4 w) v p)(hw:C5 p<=1000000):
  p7 prog 33 #[v] w λu o=>(R (i4 o) u (if I5 p then(d9 p).reached else[])/\o7 w o):=by
 refine p9 [v] func33 rfl ?_;obtain⟨c,q,f,l,b⟩:=X5 hv (i5 _);obtain⟨D,h,e,_⟩:=b.pg_v;have B:=e q (i5 _);simp only[m8,o6,simprocAttr,f,B];refine y5 (aG7 D p q h hw) ?_;rintro u m ⟨y,z,k⟩;have a:=l.trans k;cases hR:I5 p
 ·obtain rfl:=y hR;simp only[m8,o6,simprocAttr,cs4];exact o8 results33 ⟨(A8.nil (i4 m) m 0).rw_ (i5 _),a⟩
 obtain⟨F,g,r,E,n,x,rfl,A,t,j,s⟩:=z hR;have d:R (i4 m) n (d9 p).reached:=A4.mono s.base j;have C:=s.ld (i:=1) (u:=n) rfl O0;simp only[m8,o6,simprocAttr,cs4,C];exact o8 results33 ⟨d,a⟩
def bm1(v:Value)(w:World)(hv:SV (i4 w) v p)(hw:C5 p<=1000000):
  p7 prog 18 #[v] w λu k=>(R (i4 k) u (if I5 p then(d9 p).wv else[])/\o7 w k):=by
 refine p9 [v] func18 rfl ?_;obtain⟨c,m,e,j,b⟩:=X5 hv (i5 _);obtain⟨B,f,d,_⟩:=b.pg_v;have z:=d m (i5 _);simp only[m8,o6,simprocAttr,e,z];refine y5 (aG7 B p m f hw) ?_;rintro u l ⟨o,q,h⟩;have a:=j.trans h;cases hR:I5 p
 ·obtain rfl:=o hR;simp only[m8,o6,simprocAttr,cs4];exact o8 results18 ⟨(A8.nil (i4 l) l 0).rw_ (i5 _),a⟩
 obtain⟨E,g,r,C,D,x,rfl,y,n,t,s⟩:=q hR;have A:=s.ld (i:=2) (u:=x.vV) rfl af9;simp only[m8,o6,simprocAttr,cs4,A];exact o8 results18 ⟨s.rV,a⟩
def bu2(b:I5 p=true)(hw:C5 p<=1000000){C:List Eg}(a:∀e,e∈C↔e∈(d9 p).sums){ks:List Int}{S:List Bool}(hS:S.length=(d9 p).wv.length):J2 (Z1 (T9 (d9 p).wv ((d9 p).we++C)) ks) S=J2 (X9 (d9 p).wv (d9 p).all ks) S:=by
 rw[bE0];exact(bp6 (aw9 (N3 b).toKnown) (λe=>by unfold Bk.all;rw[dN7,dN7,a]) hS).1
def bu1(b:I5 p=true)(hw:C5 p<=1000000){C:List Eg}(a:∀e,e∈C↔e∈(d9 p).sums){ks:List Int}{S:List Bool}(hS:S.length=(d9 p).wv.length):J2 (Z1 (V7 (d9 p).wv ((d9 p).we++C)) ks) S=J2 (S4 (d9 p).wv (d9 p).all ks) S:=by
 rw[cA8];exact(bp6 (aw9 (N3 b).toKnown) (λe=>by unfold Bk.all;rw[dN7,dN7,a]) hS).2
def cs7(d:I5 p=true)(hw:C5 p<=1000000){C:List Eg}(h:bl7 p C):OkA (T9 (d9 p).wv ((d9 p).we++C)).length (T9 (d9 p).wv ((d9 p).we++C))/\OkA (V7 (d9 p).wv ((d9 p).we++C)).length (V7 (d9 p).wv ((d9 p).we++C)):=by
 have b:=N3 d;have c:=aw9 b.toKnown;have f:∀e∈(d9 p).we++C,1<=e.kind/\e.kind<=6:=λe i=>by
  rcases dN7.1 i with a|a
  ·exact cu8 d hw a
  ·have:=(h.kind a).1;omega
 have g:((d9 p).we++C).length<=1000000000:=by
  have:=bP8 b hw;have:=h.few b hw;rw[dM7];omega
 rw[aM9,bd0];exact⟨bX6 c f g,cP6 c f g⟩
def cs6(b:I5 p=true){vs:List Vx}{l:List Int}(h:P7 (d9 p).wv vs=some l):(∀a∈l,H1 (d9 p).wv.length a=true)/\l.length=vs.length:=by
 obtain⟨_,rfl⟩:=aJ6 h;refine⟨λa c=>?_,by simp⟩;obtain⟨v,_,rfl⟩:=dO7.1 c;exact aJ5 (aw9 (N3 b).toKnown) v
def av4(v G:Value)(vs:List Vx)(w:World)(hv:SV (i4 w) v p)(hw:C5 p<=1000000)(O:R (i4 w) G vs)(hl:vs.length<=1000000):
  p7 prog 19 #[v,G] w λu Z=>(∃X,u = .tuple #[X,.int .i64 (ar3 p vs).2]/\R (i4 Z) X (ar3 p vs).1/\(ar3 p vs).1.length<=480000/\o7 w Z):=by
 refine p9 [v,G] func19 rfl ?_;obtain⟨c,wa,J,E,m⟩:=X5 hv (i5 _);obtain⟨sp,M,F,_⟩:=m.pg_v;have l1:=F wa (i5 _);simp only[m8,o6,simprocAttr,J,l1];refine y5 (aG7 sp p wa M hw) ?_;rintro u w2 ⟨hf,ht,Q⟩;have d:=E.trans Q;cases hR:I5 p
 ·obtain rfl:=hf hR;have n:ar3 p vs=([],1):=by unfold ar3;rw[if_pos hR]
  simp only[m8,o6,simprocAttr,bd2];refine T3 results19 ?_;simp only[p8,simprocAttr];rw[n];exact⟨_,rfl,(A8.nil (i4 w2) w2 0).rw_ (i5 _),dN6 _,d⟩
 obtain⟨w1,g,r,ab,vP,x,rfl,P,af,al,s⟩:=ht hR;rw[cn2]at s;have hr:=N3 hR;have am:=aK7 hr hw;simp only[m8,o6,simprocAttr,bd2];refine y5 (bg4 s rfl G vs (A4.mono (b7 d) O) (by omega)) ?_;rintro u3 w3 ⟨q,a,B⟩;have z:=d.trans B;have K:(wcC p [] []).V=(d9 p).wv:=rfl;rw[K]at q a;cases hnm:P7 (d9 p).wv vs with
 | none=>
  obtain rfl:=q hnm;have n:ar3 p vs=([],9):=by unfold ar3;rw[if_neg (by rw[hR];simp),hnm]
  simp only[m8,o6,simprocAttr];refine T3 results19 ?_;simp only[p8,simprocAttr];rw[n];exact⟨_,rfl,(A8.nil (i4 w3) w3 0).rw_ (i5 _),dN6 _,z⟩
 | some l=>
  obtain⟨Y,rfl,t⟩:=a l hnm;obtain⟨o,ah⟩:=cs6 hR hnm;have n:ar3 p vs=(J4 (d9 p).wv ((d9 p).backB l),0):=by unfold ar3;rw[if_neg (by rw[hR];simp),hnm]
  have s3:=s.more B;simp only[m8,o6,simprocAttr];refine y5 (bQ8 s3 hR hw) ?_;rintro _ T ⟨x4,C,rfl,S,y,U,L⟩;have A:o7 w T:=E.trans (P.trans S.ext);have N:R (i4 T) Y l:=(t.mod L λb H ⟨i,h⟩=>by
   have:=s.lt h;have:=D0 (t.free H);omega).flatR λ_ _=>rfl
  simp only[m8,simprocAttr];refine y5 (bI6 S Y l N o (by omega) (cs7 hR hw y).1 aM9 (by show(d9 p).wv.length<=_;omega)) ?_;rintro V w5 ⟨j,k⟩;dsimp only[wcC]at j;rw[bu2 hR hw U (by rw[K0,G9]),bu2 hR hw U G9]at j;have H:A8 (i4 T) w5 4 V ((d9 p).backB l):=j;have I:((d9 p).backB l).length=(d9 p).wv.length:=by unfold Bk.backB;rw[K0,K0,G9]
  have s5:=S.more k;simp only[m8,simprocAttr];refine y5 (bo2 s5 V _ (H.rw_ (b7 k)) I (by show(d9 p).wv.length<=_;omega)) ?_;rintro W w6 ⟨e,D⟩;have e:A8 (i4 w5) w6 26 W (J4 (d9 p).wv ((d9 p).backB l)):=e;have f:(J4 (d9 p).wv ((d9 p).backB l)).length<=480000:=by
   have h1:(J4 (d9 p).wv ((d9 p).backB l)).length<=(af4 ((d9 p).backB l)).length:=List.length_filterMap_le _ _;have h2:(af4 ((d9 p).backB l)).length<=((d9 p).backB l).length:=by
    unfold af4;rw[dN4];refine dN1 (dP3 _ _) ?_;rw[dR3];exact dO0 _
   omega
  rw[n];generalize J4 (d9 p).wv ((d9 p).backB l)=LL at e f;simp only[m8,simprocAttr];exact T3 results19 ⟨W,rfl,e.rw_ (b7 D),f,(A.trans k).trans D⟩
def az7(v G:Value)(vs:List Vx)(w:World)(hv:SV (i4 w) v p)(hw:C5 p<=1000000)(O:R (i4 w) G vs)(hl:vs.length<=1000000):
  p7 prog 20 #[v,G] w λu Z=>(∃X,u = .tuple #[X,.int .i64 (ay1 p vs).2]/\R (i4 Z) X (ay1 p vs).1/\(ay1 p vs).1.length<=480000/\o7 w Z):=by
 refine p9 [v,G] func20 rfl ?_;obtain⟨c,wa,J,E,m⟩:=X5 hv (i5 _);obtain⟨sp,M,F,_⟩:=m.pg_v;have l1:=F wa (i5 _);simp only[m8,o6,simprocAttr,J,l1];refine y5 (aG7 sp p wa M hw) ?_;rintro u w2 ⟨hf,ht,Q⟩;have d:=E.trans Q;cases hR:I5 p
 ·obtain rfl:=hf hR;have n:ay1 p vs=([],1):=by unfold ay1;rw[if_pos hR]
  simp only[m8,o6,simprocAttr,bd2];refine T3 results20 ?_;simp only[p8,simprocAttr];rw[n];exact⟨_,rfl,(A8.nil (i4 w2) w2 0).rw_ (i5 _),dN6 _,d⟩
 obtain⟨w1,g,r,ab,vP,x,rfl,P,af,al,s⟩:=ht hR;rw[cn2]at s;have hr:=N3 hR;have am:=aK7 hr hw;simp only[m8,o6,simprocAttr,bd2];refine y5 (bg4 s rfl G vs (A4.mono (b7 d) O) (by omega)) ?_;rintro u3 w3 ⟨q,a,B⟩;have z:=d.trans B;have K:(wcC p [] []).V=(d9 p).wv:=rfl;rw[K]at q a;cases hnm:P7 (d9 p).wv vs with
 | none=>
  obtain rfl:=q hnm;have n:ay1 p vs=([],9):=by unfold ay1;rw[if_neg (by rw[hR];simp),hnm]
  simp only[m8,o6,simprocAttr];refine T3 results20 ?_;simp only[p8,simprocAttr];rw[n];exact⟨_,rfl,(A8.nil (i4 w3) w3 0).rw_ (i5 _),dN6 _,z⟩
 | some l=>
  obtain⟨Y,rfl,t⟩:=a l hnm;obtain⟨o,ah⟩:=cs6 hR hnm;have n:ay1 p vs=(J4 (d9 p).wv ((d9 p).forwB l),0):=by unfold ay1;rw[if_neg (by rw[hR];simp),hnm]
  have s3:=s.more B;simp only[m8,o6,simprocAttr];refine y5 (bQ8 s3 hR hw) ?_;rintro _ T ⟨x4,C,rfl,S,y,U,L⟩;have A:o7 w T:=E.trans (P.trans S.ext);have N:R (i4 T) Y l:=(t.mod L λb H ⟨i,h⟩=>by
   have:=s.lt h;have:=D0 (t.free H);omega).flatR λ_ _=>rfl
  simp only[m8,simprocAttr];refine y5 (bQ3 S Y l N o (by omega) (cs7 hR hw y).2 bd0 (by show(d9 p).wv.length<=_;omega)) ?_;rintro V w5 ⟨j,k⟩;dsimp only[wcC]at j;rw[bu1 hR hw U (by rw[K0,G9]),bu1 hR hw U G9]at j;have H:A8 (i4 T) w5 4 V ((d9 p).forwB l):=j;have I:((d9 p).forwB l).length=(d9 p).wv.length:=by unfold Bk.forwB;rw[K0,K0,G9]
  have s5:=S.more k;simp only[m8,simprocAttr];refine y5 (bo2 s5 V _ (H.rw_ (b7 k)) I (by show(d9 p).wv.length<=_;omega)) ?_;rintro W w6 ⟨e,D⟩;have e:A8 (i4 w5) w6 26 W (J4 (d9 p).wv ((d9 p).forwB l)):=e;have f:(J4 (d9 p).wv ((d9 p).forwB l)).length<=480000:=by
   have h1:(J4 (d9 p).wv ((d9 p).forwB l)).length<=(af4 ((d9 p).forwB l)).length:=List.length_filterMap_le _ _;have h2:(af4 ((d9 p).forwB l)).length<=((d9 p).forwB l).length:=by
    unfold af4;rw[dN4];refine dN1 (dP3 _ _) ?_;rw[dR3];exact dO0 _
   omega
  rw[n];generalize J4 (d9 p).wv ((d9 p).forwB l)=LL at e f;simp only[m8,simprocAttr];exact T3 results20 ⟨W,rfl,e.rw_ (b7 D),f,(A.trans k).trans D⟩
end
theorem bb5:B8 prog 26 []=some (.agg (A0.cells aP7).toArray):=by
 have h:A0.cells aP7=[p6 e0,.int .i64 0,.int .i64 0,p6 e0]:=rfl;rw[h];simp[B8,bH4,K8,Instr.fill,p6,e0];rfl
def cJ7{p:Pg}{id:Int}{y:Vx}(h:(d9 p).crit id=some y):y∈(d9 p).wv:=by
 unfold Bk.crit at h;split at h
 ·split at h
  ·next a=>
   obtain rfl:=dO3 h;exact ag3.1 a
  ·cases h
 ·cases h
section
variable {p:Pg}
def bm2(v:Value)(id:Int)(w:World)(hv:SV (i4 w) v p)(hw:C5 p<=1000000):
  p7 prog 30 #[v,.int .i64 id] w λu V=>(u = .tuple #[.agg (A0.cells (ap0 p id).1).toArray,.int .i64 (ap0 p id).2]/\o7 w V):=by
 refine p9 [v,.int .i64 id] func30 rfl ?_;obtain⟨c,C,F,f,j⟩:=X5 hv (i5 _);obtain⟨U,G,q,_⟩:=j.pg_v;obtain⟨J,E,n,a⟩:=cR1 C;have S:=q J (b7 n);simp only[m8,o6,simprocAttr,F,E,S];refine y5 (aG7 U p J (G.mono (b7 n)) hw) ?_;rintro u W ⟨K,N,d⟩;cases hR:I5 p
 ·obtain rfl:=K hR;have k:ap0 p id=(aP7,1):=by unfold ap0;rw[if_pos hR]
  obtain⟨B,t,A,b⟩:=a W aP7 d;simp only[m8,o6,simprocAttr,bd2,bb5,t];refine aj4 results30 (ad:=⟨C.heap.size,0,none⟩) (by simp only[p8,simprocAttr]) A ?_;simp only[p8,simprocAttr];rw[k];exact⟨by trivial,f.trans b⟩
 obtain⟨w1,g,r,Z,vP,x,rfl,P,D,O,s⟩:=N hR;rw[cn2]at s;have M:=N3 hR;simp only[m8,o6,simprocAttr,bd2];refine y5 (cF9 s D M hw id) ?_;rintro u3 B ⟨Q,L,b⟩;cases hc:(d9 p).crit id with
 | none=>
  obtain⟨z,rfl⟩:=L hc;have k:ap0 p id=(aP7,9):=by unfold ap0;rw[if_neg (by rw[hR];simp),hc]
  obtain⟨X,t,A,e⟩:=a B aP7 (d.trans b);simp only[m8,o6,simprocAttr,bb5,t];refine aj4 results30 (ad:=⟨C.heap.size,0,none⟩) (by simp only[p8,simprocAttr]) A ?_;simp only[p8,simprocAttr];rw[k];exact⟨by trivial,f.trans e⟩
 | some y=>
  obtain rfl:=Q y hc;have H:=cJ7 hc;have k:ap0 p id=(y,0):=by unfold ap0;rw[if_neg (by rw[hR];simp),hc]
  have I:=s.more b;have T:=I.ld (i:=2) (u:=x.vV) rfl af9;have h:R (i4 B) x.vV (d9 p).wv:=I.rV;have o:=aJ4 H;have l:=h.inS (dM9.1 o).1;have m:=cN7 h (i5 _) o;generalize E9 (d9 p).wv y=Y at l m;obtain⟨X,t,A,e⟩:=a B y (d.trans b);simp only[m8,o6,y0,simprocAttr,T,l,m,t];refine aj4 results30 (ad:=⟨C.heap.size,0,none⟩) (by simp only[p8,simprocAttr]) A ?_;simp only[p8,simprocAttr];rw[k];exact⟨by trivial,f.trans e⟩
def ca5(v:Value)(m:Int)(w:World)(hv:SV (i4 w) v p)(hw:C5 p<=1000000):
  p7 prog 23 #[v,.int .i64 m] w λu o=>(u = .bool (I5 p&&decide (((bS1 p:Nat):Int)<=m))/\o7 w o):=by
 refine p9 [v,.int .i64 m] func23 rfl ?_;obtain⟨c,k,g,f,d⟩:=X5 hv (i5 _);obtain⟨i,e,b,_⟩:=d.pg_v;have l:=b k (i5 _);simp only[m8,o6,simprocAttr,g,l];refine B9 (aT4 i p k e hw) (λj a=>?_);cases hR:I5 p
 ·simp only[m8,simprocAttr];exact o8 results23 ⟨rfl,f.trans a⟩
 have n:=b j (b7 a);simp only[m8,o6,simprocAttr,n];refine B9 (cv8 i p j (e.mono (b7 a)) hw) (λq h=>?_);simp only[m8,o6,simprocAttr];exact o8 results23 ⟨rfl,(f.trans a).trans h⟩
end
def aZ0(l:List Int):List Int:=l.mergeSort λx y=>decide (x<=y)
def bx3(l:List Int):(aZ0 l).Perm l:=List.mergeSort_perm _ _
def aN2(l:List Int):(aZ0 l).length=l.length:=(bx3 l).length_eq
def bO3(l:List Int):(aZ0 l).Pairwise λa b=>a<=b:=by
 have:=List.pairwise_mergeSort (le:=λx y:Int=>decide (x<=y)) (λa b c d e=>by
  simp only[dQ3]at *;omega) (λa b=>by
  simp only[dX4,dQ3];omega) l
 exact this.imp λh=>dM8 h
def bC7(d:Array Int):∀m,m<=d.size->Lib.compactUpTo d m=G7 (d.toList.take m)
 | 0,_=>by simp[Lib.compactUpTo,G7]
 | m+1,hm=>by
  have i:=bC7 d m (by omega);have f:m<d.toList.length:=by simp;omega
  have c:d[m]! = d.toList[m]:=by
   rw[getElem!_pos d m (by omega)];simp
  rw[dN3 f,aQ6,<-i];have g:Lib.compactUpTo d (m+1)=Lib.compactUpTo d m++(if Lib.keeps d m then[d[m]!]else[]):=by
   simp only[Lib.compactUpTo,dW7,dS4,dP6]
   congr 1
   by_cases b:Lib.keeps d m=true
   ·simp[b]
   ·simp[b]
  rw[g,c];by_cases h0:m=0
  ·subst h0;simp[Lib.keeps,Lib.compactUpTo]
  ·have a:(d.toList.take m).getLast?=some d[m-1]!:=by
    rw[List.getLast?_eq_getElem?,dN9,dT1 (by omega),dV1,if_pos (by omega),getElem!_pos d (m-1) (by omega)];simp[show m-1<d.size by omega]
   rw[a];by_cases he:d.toList[m]=d[m-1]!
   ·have b:Lib.keeps d m=false:=by simp only[Lib.keeps,dY8,c,h0,false_or,ne_eq];exact λh=>h he
    rw[b,if_pos (dO2 some he.symm)];simp
   ·have b:Lib.keeps d m=true:=by simp only[Lib.keeps,dQ3];rw[c];exact .inr he
    rw[b,if_neg (λe=>he (dO3 e).symm)];simp
def bz9(l:List Int):Lib.compact l=G7 l:=by
 unfold Lib.compact;rw[bC7 l.toArray l.length (by simp)];simp
def bL7(vs:List Vx):List Int:=(vs.filter λv=>decide (v.kind=2)).map (·.id)
def be5(vs:List Vx):List Int:=G7 (aZ0 (bL7 vs))
def cE4{vs:List Vx}{i:Int}:i∈be5 vs↔i∈bL7 vs:=by
 unfold be5;rw[ai8,(bx3 _).mem_iff]
def cl0(vs:List Vx):(be5 vs).Pairwise λa b=>a<b:=by
 unfold be5;exact(bS2 (le:=λa b:Int=>a<=b) (λa b c d e=>Int.le_trans d e) (λa b d e=>Int.le_antisymm d e) (bO3 _)).imp λ⟨d,e⟩=>by omega
def cA5(l:List Vx){k:Nat}(a:k<l.length):bL7 (l.take (k+1))=bL7 (l.take k)++if l[k].kind=2 then[l[k].id]else[]:=by
 unfold bL7;rw[dN3 a,dS4,dP6]
 congr 1
 by_cases h:l[k].kind=2<;>simp[h]
def cM6(l:List Vx)(k:Nat):(bL7 (l.take k)).length<=k:=by
 unfold bL7;rw[dN4];refine dN1 (dP3 _ _) ?_;rw[dN9];omega
def bZ3:∀{l m:List Int},l.Pairwise (λa b=>a<b)->m.Pairwise (λa b=>a<b)->(∀x,x∈l↔x∈m)->l=m
 | [],[],_,_,_=>rfl
 | [],b::m,_,_,h=>by have:=(h b).2 (by simp);simp at this
 | a::l,[],_,_,h=>by have:=(h a).1 (by simp);simp at this
 | a::l,b::m,h1,h2,h=>by
  rw[dS3]at h1 h2;have g:a=b:=by
   have d:=(h a).1 (by simp);have f:=(h b).2 (by simp);rcases dO6.1 d with e|d
   ·exact e
   ·rcases dO6.1 f with e|f
    ·exact e.symm
    ·have:=h1.1 b f;have:=h2.1 a d;omega
  subst g;rw[bZ3 h1.2 h2.2 λx=>?_];constructor
  ·intro c;rcases dO6.1 ((h x).1 (dS2 _ c))with rfl|h3
   ·have:=h1.1 x c;omega
   ·exact h3
  ·intro c;rcases dO6.1 ((h x).2 (dS2 _ c))with rfl|h3
   ·have:=h2.1 x c;omega
   ·exact h3
end Go.Proofs.YtfadjbljajfkfaaGreat
namespace Go.Proofs
open Go.Shelf
def Tryz.lyI_ren:Go.Shelf.Ren:=⟨fun|189=>39|125=>66|257=>65|128=>101|129=>102|294=>92|295=>93|296=>94|297=>95|298=>96|299=>97|216=>98|300=>99|301=>100|328=>151|329=>152|330=>153|331=>154|332=>155|215=>156|343=>203|n=>n,fun|28=>24|3=>3|46=>129|0=>0|51=>165|53=>167|4=>4|183=>158|182=>157|131=>98|5=>5|9=>9|218=>225|222=>229|228=>271|229=>272|n=>n,fun|n=>n⟩
def Tryz.lyI:Go.Proofs.Lays.n189 Tryz.prog Tryz.lyI_ren:={
 mixed:=by kernel_rfl
 f125:=Tryz.func66.trans (congrArg some (by kernel_rfl))
 f128:=Tryz.func101.trans (congrArg some (by kernel_rfl))
 f129:=Tryz.func102.trans (congrArg some (by kernel_rfl))
 f189:=Tryz.func39.trans (congrArg some (by kernel_rfl))
 f215:=Tryz.func156.trans (congrArg some (by kernel_rfl))
 f216:=Tryz.func98.trans (congrArg some (by kernel_rfl))
 f257:=Tryz.func65.trans (congrArg some (by kernel_rfl))
 f294:=Tryz.func92.trans (congrArg some (by kernel_rfl))
 f295:=Tryz.func93.trans (congrArg some (by kernel_rfl))
 f296:=Tryz.func94.trans (congrArg some (by kernel_rfl))
 f297:=Tryz.func95.trans (congrArg some (by kernel_rfl))
 f298:=Tryz.func96.trans (congrArg some (by kernel_rfl))
 f299:=Tryz.func97.trans (congrArg some (by kernel_rfl))
 f300:=Tryz.func99.trans (congrArg some (by kernel_rfl))
 f301:=Tryz.func100.trans (congrArg some (by kernel_rfl))
 f328:=Tryz.func151.trans (congrArg some (by kernel_rfl))
 f329:=Tryz.func152.trans (congrArg some (by kernel_rfl))
 f330:=Tryz.func153.trans (congrArg some (by kernel_rfl))
 f331:=Tryz.func154.trans (congrArg some (by kernel_rfl))
 f332:=Tryz.func155.trans (congrArg some (by kernel_rfl))
 f343:=Tryz.func203.trans (congrArg some (by kernel_rfl))
 t0:=Tryz.underlying0
 a0:=Tryz.isAgg0
 z0:=Tryz.sizeOf0
 v0:=Tryz.zeroValue0
 t3:=Tryz.underlying3
 a3:=Tryz.isAgg3
 z3:=Tryz.sizeOf3
 v3:=Tryz.zeroValue3
 t4:=Tryz.underlying4
 a4:=Tryz.isAgg4
 z4:=Tryz.sizeOf4
 v4:=Tryz.zeroValue4
 t5:=Tryz.underlying5
 a5:=Tryz.isAgg5
 z5:=Tryz.sizeOf5
 v5:=Tryz.zeroValue5
 t9:=Tryz.underlying9
 a9:=Tryz.isAgg9
 z9:=Tryz.sizeOf9
 v9:=Tryz.zeroValue9
 t28:=Tryz.underlying24
 a28:=Tryz.isAgg24
 z28:=Tryz.sizeOf24
 v28:=Tryz.zeroValue24
 t46:=Tryz.underlying129
 a46:=Tryz.isAgg129
 z46:=Tryz.sizeOf129
 v46:=Tryz.zeroValue129
 t51:=Tryz.underlying165
 a51:=Tryz.isAgg165
 z51:=Tryz.sizeOf165
 v51:=Tryz.zeroValue165
 t53:=Tryz.underlying167
 a53:=Tryz.isAgg167
 z53:=Tryz.sizeOf167
 v53:=Tryz.zeroValue167
 t131:=Tryz.underlying98
 a131:=Tryz.isAgg98
 z131:=Tryz.sizeOf98
 v131:=Tryz.zeroValue98
 t182:=Tryz.underlying157
 a182:=Tryz.isAgg157
 z182:=Tryz.sizeOf157
 v182:=Tryz.zeroValue157
 t183:=Tryz.underlying158
 a183:=Tryz.isAgg158
 z183:=Tryz.sizeOf158
 v183:=Tryz.zeroValue158
 t218:=Tryz.underlying225
 a218:=Tryz.isAgg225
 z218:=Tryz.sizeOf225
 v218:=Tryz.zeroValue225
 t222:=Tryz.underlying229
 a222:=Tryz.isAgg229
 z222:=Tryz.sizeOf229
 v222:=Tryz.zeroValue229
 t228:=Tryz.underlying271
 a228:=Tryz.isAgg271
 z228:=Tryz.sizeOf271
 v228:=Tryz.zeroValue271
 t229:=Tryz.underlying272
 a229:=Tryz.isAgg272
 z229:=Tryz.sizeOf272
 v229:=Tryz.zeroValue272}
def Tryz.lyJ_ren:Go.Shelf.Ren:=⟨fun|20=>40|n=>n,fun|22=>24|3=>3|4=>4|0=>0|n=>n,fun|n=>n⟩
def Tryz.lyJ:Go.Proofs.Lays2.n20 Tryz.prog Tryz.lyJ_ren:={
 mixed:=by kernel_rfl
 f20:=Tryz.func40.trans (congrArg some (by kernel_rfl))
 t0:=Tryz.underlying0
 a0:=Tryz.isAgg0
 z0:=Tryz.sizeOf0
 v0:=Tryz.zeroValue0
 t3:=Tryz.underlying3
 a3:=Tryz.isAgg3
 z3:=Tryz.sizeOf3
 v3:=Tryz.zeroValue3
 t4:=Tryz.underlying4
 a4:=Tryz.isAgg4
 z4:=Tryz.sizeOf4
 v4:=Tryz.zeroValue4
 t22:=Tryz.underlying24
 a22:=Tryz.isAgg24
 z22:=Tryz.sizeOf24
 v22:=Tryz.zeroValue24
 i3:=by kernel_rfl}
end Go.Proofs
namespace Go.Proofs.YtfadjbljajfkfaaGreat
open Go Tryz
section
open Go.Sort
def dw1:(Tryz.lyI_ren.f 189)=39:=by kernel_rfl
def dw2:(Tryz.lyJ_ren.f 20)=40:=by kernel_rfl
section
variable {h:Hp} {w:World} {v:Value} {l:List Int}
def bY1(n:A8 h w 3 v l):(v = .slice none 0 0/\l=[])\/∃b c a,v = .slice (some ⟨b,0,none⟩) l.length c/\h b=none/\w.heap[b]?=some (.cells a 3 (0,0))/\l.length<=c/\c<=maxLen/\a.size=c/\a.toList.take l.length=l.map (Value.int .i64):=by
 rcases n with m|⟨b,c,a,rfl,g,i,j,k,d,f⟩
 ·exact .inl m
 ·have e:A4.sz Int=1:=rfl;rw[e,dT8]at d f;exact .inr ⟨b,c,a,rfl,g,i,j,k,d,G5.1 f⟩
theorem bj1{b c:Nat}{a:Array Value}(d:h b=none)(f:w.heap[b]?=some (.cells a 3 (0,0)))(g:l.length<=c)(i:c<=maxLen)(j:a.size=c)(k:a.toList.take l.length=l.map (Value.int .i64)):
  A8 h w 3 (.slice (some ⟨b,0,none⟩) l.length c) l:=by
 have e:A4.sz Int=1:=rfl;refine .inr ⟨b,c,a,rfl,d,f,g,i,by rw[e,j,dT8],?_⟩;rw[e,dT8,k];exact G5.2 rfl
def br8{b:Nat}{a:Array Value}(d:w.heap[b]?=some (.cells a 3 (0,0)))(g:a.toList.take l.length=l.map (Value.int .i64)):Holds (Value.int .i64) w b 0 l.toArray:=λj f=>by
 have c:j<l.length:=by simpa using f
 rw[dQ2,dU3 w b j a _ (0,0) d];have e:=dO2 (λz=>z[j]?) g;simp only[dV1,if_pos c,dP9,dM4 c,dS5]at e;refine⟨?_,frozen_of_row w b j a _ d⟩;rw[getElem!_pos _ j f];simpa using e
def cD9(p:A8 h w 3 v l)(A:l.length<=1000000000):
  p7 prog 39 #[v] w λu d=>(A8 h d 3 v (aZ0 l)/\o9 (A3 v) w d):=by
 rw[<-dw1];rcases bY1 p with⟨rfl,rfl⟩|⟨b,c,i,rfl,j,f,g,k,z,m⟩
 ·refine(Any.slices_Sort_int_none Tryz.lyI none 0 w).mono ?_;rintro e d ⟨rfl,rfl⟩;have e:aZ0 []=[]:=by simp[aZ0]
  exact⟨_,rfl,by rw[e];exact A8.nil _ _ _,o9.refl _⟩
 ·have o:b<w.heap.size:=(dN0.1 f).1;have:=Any.slices_Sort_int Tryz.lyI b 0 c l w (br8 f m) o (by omega);refine this.mono ?_;rintro e d ⟨rfl,n,t,rfl⟩;have q:(l.mergeSort λx y=>decide (x<=y))=aZ0 l:=rfl;rw[q];obtain⟨r,s⟩:=aX5 f (Value.int .i64) (aZ0 l).toArray (by simp[aN2];omega) n t;refine⟨_,rfl,?_,s.weaken λ_ _ e=>by subst e;rfl⟩;have a:=aN2 l;rw[<-a]at g ⊢;refine bj1 j r g k ?_ ?_
  ·simp[aN2];omega
  ·simp only[];rw[dT6 (by simp),dQ9 (by simp)]
def cy2(p:A8 h w 3 v l)(t:l.length<=1000000000):
  p7 prog 40 #[v] w λu a=>(A8 h a 3 u (G7 l)/\o9 (A3 v) w a):=by
 rw[<-dw2];rcases bY1 p with⟨rfl,rfl⟩|⟨b,c,k,rfl,m,f,r,n,s,o⟩
 ·refine(Any.slices_Compact_int_empty Tryz.lyJ none 0 w).mono ?_;rintro e a ⟨rfl,rfl⟩;exact⟨_,rfl,A8.nil _ _ _,o9.refl _⟩
 ·have:=Any.slices_Compact_int Tryz.lyJ b 0 c l w (br8 f o) (by omega) (by omega);refine this.mono ?_;rintro e a ⟨rfl,q,rfl⟩;rw[bz9];have g:=ap8 l;have d:((G7 l++List.replicate (l.length-(G7 l).length) 0).toArray).size=l.length:=by simp;omega
  obtain⟨i,j⟩:=aX5 f (Value.int .i64) ((G7 l++List.replicate (l.length-(G7 l).length) 0).toArray) (by rw[d];omega) q #[];rw[grow_empty]at i j;refine⟨_,rfl,?_,j.weaken λ_ _ e=>by subst e;rfl⟩;refine bj1 m i (by omega) n ?_ ?_
  ·simp;omega
  ·simp only[dP6,dP5];rw[dT6 (by simp),dQ9 (by simp)]
def bo4(v:Value)(vs:List Vx)(w:World)(hv:R (i4 w) v vs)(hl:vs.length<=1000000000):
  p7 prog 13 #[v] w λu A=>(R (i4 A) u (be5 vs)/\o7 w A):=by
 refine p9 [v] func13 rfl ?_;have U:=hv.isS;have W:=hv.vlen;simp only[m8,o6,simprocAttr,U,W];refine n9 [6,7] (σ:=Nat×Value) (λt f A=>f 8 = .int .i64 t.1/\f 3=t.2/\t.1<=vs.length/\A8 (i4 w) A 3 t.2 (bL7 (vs.take t.1))/\o7 w A) (λt=>vs.length-t.1) (0,.slice none 0 0) ?_ ?_
 ·simp only[p8,simprocAttr];exact⟨by trivial,by trivial,dN6 _,A8.nil _ _ _,o9.refl _⟩
 rintro⟨k,u⟩ f J L ⟨B,m,F,q,l⟩;simp only at B m F q;simp only[dM6,p8,simprocAttr]at L;obtain⟨K,T,_⟩:=L;have p:=cM6 vs k;simp only[m8,o6,simprocAttr,B,T];refine n7 (λD=>?_) (λD=>?_);rotate_left
 ·have E:k=vs.length:=by simp at D;omega
  subst E;rw[dN8]at q p;simp only[m8,simprocAttr,m];refine y5 (cD9 q (by omega)) ?_;rintro _ S ⟨a,G⟩;have h:=q.ext2 l G;simp only[m8,simprocAttr,m];refine y5 (cy2 a (by rw[aN2];omega)) ?_;rintro Q Z ⟨I,H⟩;simp only[m8,simprocAttr];refine o8 results13 ?_;simp only[p8,simprocAttr];have z:=a.ext2 h H;exact⟨I.rw_ (b7 z),z⟩
 have j:k<vs.length:=by simpa using D
 have o:=hv.inS j;obtain⟨sv,s,i⟩:=F9 (P:=prog) (t:=26) hv (b7 l) (dM4 j) at6 at9 an8 O9;rw[O9]at i;have c:=cA5 vs j;generalize vs[k]=y at s c;obtain rfl:=s.N;obtain⟨d,wz,S,n,r,h,C⟩:=aw0 (w:=J) (λ_=>False) (SV.ofN (i4 J) y) λb V=>V.elim;have M:=(K7.vx (SV.ofN (i4 J) y) C).1 S (B2 _ _);have a:=q.ext h;have g:=l.trans h;rcases dM5 (decide (y.kind=2))with h2|h2
 ·rw[if_pos (dM8 h2)]at c;obtain⟨N,Q,Z,O,X,Y,p5⟩:=push (P:=prog) (t:=24) (e:=24) U2 rfl a (x:=.int .i64 y.id) (y:=y.id) rfl (by omega) (by omega) (b7 g);simp only[Value.cells]at N O;simp only[m8,o6,y0,simprocAttr,B,m,K,o,i,n,r,M,h2,N,O];exact⟨(k+1,Q),by omega,dO2 _ (B0 k (by omega)),by trivial,by omega,by rw[c];exact X,a.ext2 g Y⟩
 ·rw[if_neg (dN2 h2),dP8]at c;simp only[m8,o6,y0,simprocAttr,B,m,K,o,i,n,r,M,h2];exact⟨(k+1,u),by omega,dO2 _ (B0 k (by omega)),by trivial,by omega,by rw[c];exact a,g⟩
end
end
def cQ9{P:Program}{T:TypeId}{z:Value}(l:G8 P T=some z)(c:z.cells.size=L9 P T)(i:∀u∈z.cells.toList,u.oneCell'=true)(q:I7 P T=true)(r:(P.underlying T).isSome=true)(p:(P.info? T).isSome=true)(w:World):
  ∃f,w.heap.size<f.heap.size/\(Instr.alloc T true (.tuple #[])).run P w = .ok (.pointer (some ⟨w.heap.size,0,none⟩)) f/\o7 w f/\∀(e:World) (cs:Array Value),cs.size=L9 P T->(∀u∈cs.toList,u.oneCell'=true)->o7 f e ->
  ∃a,(Instr.storeAt T (.pointer (some ⟨w.heap.size,0,none⟩)) (.agg cs)).run P e = .ok () a/\(Instr.loadAt T (.pointer (some ⟨w.heap.size,0,none⟩))).run P a = .ok (.agg cs) a/\o7 w a/\o9 (λb=>b=w.heap.size) e a:=by
 have o:=(aJ0 (P:=P) (w:=w) (T:=T) l c (cs:=z.cells) c i).1;refine⟨_,by simp,o,o7.alloc _ _,λe cs d h k=>?_⟩;have g:e.heap[w.heap.size]?=some (.cells z.cells T (0,0)):=(k.block _ (by simp) id).trans (dQ5 w _);obtain⟨a,m,n,j⟩:=ak3 (P:=P) (T:=T) g l c d h;exact⟨a,m,ag4 n q r p d.symm,o9.ext_of ((o7.alloc _ _).trans k) j λb g=>by rw[g];exact dO0 _,j⟩
def cR0(w:World):∃d,w.heap.size<d.heap.size/\(Instr.alloc 106 true (.tuple #[])).run prog w = .ok (.pointer (some ⟨w.heap.size,0,none⟩)) d/\o7 w d/\∀(e:World) (c:Array Value),c.size=L9 prog 106->(∀u∈c.toList,u.oneCell'=true)->o7 d e ->
  ∃a,(Instr.storeAt 106 (.pointer (some ⟨w.heap.size,0,none⟩)) (.agg c)).run prog e = .ok () a/\(Instr.loadAt 106 (.pointer (some ⟨w.heap.size,0,none⟩))).run prog a = .ok (.agg c) a/\o7 w a/\o9 (λb=>b=w.heap.size) e a:=
 cQ9 cm4 (by rw[ae5];rfl) (by simp[Value.cells,Value.oneCell']) bf0 bf4 aS9 w
theorem Z8{k:IntKind}{n:Int}:(Value.int k n).cells=#[.int k n]:=rfl
theorem aQ3{b:Bool}:(Value.bool b).cells=#[.bool b]:=rfl
theorem Z9{s:A6}:(p6 s).cells=#[p6 s]:=rfl
theorem ax8{cs:Array Value}:(Value.agg cs).cells=cs:=rfl
theorem dr3:(Value.slice none 0 0).cells=#[.slice none 0 0]:=rfl
theorem V1:Value.string ⟨#[]⟩=p6 e0:=rfl
def cH7(n:Int):B8 prog 106 [(0,.int .i64 1),(1,.int .i64 n)]=some (.agg #[.int .i64 1,.int .i64 n,p6 e0,.slice none 0 0]):=by
 simp[B8,cm1,K8,Instr.fill,Z8,V1]
def cH8(s:A6):B8 prog 106 [(0,.int .i64 2),(2,p6 s)]=some (.agg #[.int .i64 2,.int .i64 0,p6 s,.slice none 0 0]):=by
 simp[B8,cm1,K8,Instr.fill,Z8,Z9,V1]
def cH9(op:Int)(a:Value)(b:a.cells=#[a]):B8 prog 106 [(0,.int .i64 op),(3,a)]=some (.agg #[.int .i64 op,.int .i64 0,p6 e0,a]):=by
 simp[B8,cm1,K8,Instr.fill,Z8,V1,b]
def bM6(n:Int)(w:World):p7 prog 62 #[.int .i64 n] w λu h=>(u = .agg #[.int .i64 1,.int .i64 n,p6 e0,.slice none 0 0]/\o7 w h):=by
 refine p9 [.int .i64 n] func62 rfl ?_;obtain⟨i,_,b,d,a⟩:=cR0 w;obtain⟨j,e,f,g,_⟩:=a i #[.int .i64 1,.int .i64 n,p6 e0,.slice none 0 0] (by rw[ae5];rfl) (by simp[p6,Value.oneCell']) (o9.refl _);have c:=cH7 n;simp only[m8,o6,simprocAttr,b,c,e];refine M7 results62 (ad:=⟨w.heap.size,0,none⟩) (by simp only[p8,simprocAttr]) f ?_;exact⟨rfl,g⟩
def aq2(s:A6)(w:World):p7 prog 63 #[p6 s] w λu h=>(u = .agg #[.int .i64 2,.int .i64 0,p6 s,.slice none 0 0]/\o7 w h):=by
 refine p9 [p6 s] func63 rfl ?_;obtain⟨i,_,b,d,a⟩:=cR0 w;obtain⟨j,e,f,g,_⟩:=a i #[.int .i64 2,.int .i64 0,p6 s,.slice none 0 0] (by rw[ae5];rfl) (by simp[p6,Value.oneCell']) (o9.refl _);have c:=cH8 s;simp only[m8,o6,simprocAttr,b,c,e];refine M7 results63 (ad:=⟨w.heap.size,0,none⟩) (by simp only[p8,simprocAttr]) f ?_;exact⟨rfl,g⟩
section
variable {h:Hp}
def av7{op n:Int}{name:A6}{a:Value}{kids:List Ex}(b:R h a kids):SV h (.agg #[.int .i64 op,.int .i64 n,p6 name,a]) (Ex.mk op n name kids):=⟨_,rfl,bK9.2 ⟨a,rfl,b⟩⟩
def dj3{r:Bool}{name:A6}{a b c d:Value}{x:Ex}(e:SV h (.agg #[a,b,c,d]) x):SV h (.agg #[.bool r,p6 name,a,b,c,d]) (⟨r,name,x⟩:Ar):=⟨_,rfl,[a,b,c,d],rfl,e.enc⟩
def bk7{id kind:Int}{g:Value}{labels:List A6}{name proc:A6}{a b c d:Value}{x:Ex}{has:Bool}{e i f:Value}{args:List Ar}{thn els:List St}
  (l:R h g labels) (n:SV h (.agg #[a,b,c,d]) x) (j:R h e args) (m:R h i thn) (k:R h f els) :
  SV h (.agg #[.int .i64 id,.int .i64 kind,g,p6 name,p6 proc,a,b,c,d,.bool has,e,i,f]) (St.mk id kind labels name proc x has args thn els):=
 ⟨_,rfl,bL0.2 ⟨g,[a,b,c,d],e,i,f,rfl,l,n.enc,j,m,k⟩⟩
def dj4{name:A6}{e f g i:Value}{a:List Pa}{c:List A6}{b:List St}{d:List A6}(j:R h e a)(k:R h f c)(l:R h g b)(m:R h i d):
  SV h (.agg #[p6 name,e,f,g,i]) (⟨name,a,c,b,d⟩:Pr):=⟨_,rfl,e,f,g,i,rfl,j,k,l,m⟩
def dz5{c d:Value}{a:List A6}{b:List Pr}(e:R h c a)(f:R h d b):SV h (.agg #[c,d]) (⟨a,b⟩:Pg):=⟨_,rfl,c,d,rfl,e,f⟩
def J9{α:Type}[A4 α]:R h (.slice none 0 0) ([]:List α):=⟨none,0,0,rfl,rfl,dO0 _,[],rfl,λj v h=>by simp at h⟩
end
def cn8{α:Type}[A4 α](h:Hp):List Value->List α->Prop
 | [],[]=>True
 | x::xs,y::ys=>SV h x y/\cn8 h xs ys
 | _,_=>False
def bF9{α:Type}[A4 α]{h:Hp}:∀{a:List Value} {b:List α},cn8 h a b->O3 h (a.flatMap (·.cells.toList)) b/\(∀x∈a,x.cells.size=A4.sz α)/\b.length=a.length
 | [],[],_=>⟨rfl,λx d=>(by cases d),rfl⟩
 | x::a,y::b,⟨h1,h2⟩=>by
  obtain⟨e,f,g⟩:=bF9 h2;refine⟨⟨x.cells.toList,_,by simp,h1.enc,e⟩,λz c=>?_,by simp[g]⟩;rcases dO6.1 c with rfl|c
  ·have:=A4.len h1.enc;simpa using this
  ·exact f z c
def di0{P:Program}{t T:TypeId}{sz c:Nat}(q:F4 P t T sz c=true){α:Type}[A4 α](f:A4.sz α=sz){h:Hp}{w:World}{xs:List Value}{ys:List α}{parts:Array (Nat×Value)}{n:Nat}(o:parts.toList=(xs.zipIdx 0).map λp=>(p.2,p.1))
  (g:cn8 h xs ys) (hn:n=xs.length) (e:xs≠[]) (d:xs.length<=16) (hw:B5 h (i4 w)) :
  ∃v a,(Instr.buildSlice t n parts).run P w = .ok v a/\R (i4 a) v ys/\v.cells=#[v]/\o7 w a/\A8 h a T v ys/\∀b,A3 v b->w.heap.size<=b:=by
 obtain⟨k,l,m⟩:=bF9 g;obtain⟨v,a,r,i,j,s⟩:=lit q o k (by rw[<-f];exact l) hn m e d hw;exact⟨v,a,r,i.rw_ (t8 hw (b7 j)),E3 i.isS,j,i,s⟩
def noE{N:Nat->Prop}{w a:World}(c:o7 w a):B5 (B6 w N) (B6 a N):=I9 c (λ_ h=>h.elim) λb h=>.inl h
def cB5{P:Program}{t T:TypeId}{sz c:Nat}(o:F4 P t T sz c=true){α:Type}[A4 α](f:A4.sz α=sz){N:Nat->Prop}{w:World}(hN:∀b,N b->b<w.heap.size){xs:List Value}{ys:List α}{parts:Array (Nat×Value)}{n:Nat}(m:parts.toList=(xs.zipIdx 0).map λp=>(p.2,p.1))
  (g:cn8 (B6 w N) xs ys) (hn:n=xs.length) (e:xs≠[]) (d:xs.length<=16) :
  ∃v a,(Instr.buildSlice t n parts).run P w = .ok v a/\R (B6 a N) v ys/\v.cells=#[v]/\o7 w a/\A8 (B6 w N) a T v ys/\∀b,A3 v b->w.heap.size<=b:=by
 obtain⟨v,a,q,_,r,i,j,k⟩:=di0 o f m g hn e d (B2 _ _);exact⟨v,a,q,j.ro (noE i) λb l=>D8 λh=>(by have:=hN b h;have:=k b l;omega),r,i,j,k⟩
def dn0(s:A6){N:Nat->Prop}(w:World)(hN:∀b,N b->b<w.heap.size):∃v a,(Instr.buildSlice 31 1 #[(0,p6 s)]).run prog w = .ok v a/\R (B6 a N) v [s]/\v.cells=#[v]/\o7 w a:=by
 obtain⟨v,a,f,c,d,g⟩:=cr3 s w (B2 w N);exact⟨v,a,f,c.ro (noE d) λb e=>D8 λh=>(by have:=hN b h;have:=g b e;omega),E3 c.isS,d⟩
def dy7:F4 prog 104 106 4 56=true:=by kernel_rfl
def dy6:F4 prog 107 124 6 80=true:=by kernel_rfl
def cR7:F4 prog 73 109 13 208=true:=by kernel_rfl
def dz1:F4 prog 72 78 2 24=true:=by kernel_rfl
def dz2:F4 prog 32 75 5 112=true:=by kernel_rfl
def bs1(id kind:Int)(n:A6)(a b c d:Value):B8 prog 109 [(0,.int .i64 id),(1,.int .i64 kind),(3,p6 n),(5,.agg #[a,b,c,d])]=some (.agg #[.int .i64 id,.int .i64 kind,.slice none 0 0,p6 n,p6 e0,a,b,c,d,.bool false,.slice none 0 0,.slice none 0 0,.slice none 0 0]):=by
 simp[B8,bf3,K8,Instr.fill,Z8,Z9,ax8,V1]
def bs2(id kind:Int)(n q:A6)(a:Value)(b:a.cells=#[a]):B8 prog 109 [(0,.int .i64 id),(1,.int .i64 kind),(3,p6 n),(4,p6 q),(7,a)]=some (.agg #[.int .i64 id,.int .i64 kind,.slice none 0 0,p6 n,p6 q,.int .i64 0,.int .i64 0,p6 e0,.slice none 0 0,.bool false,a,.slice none 0 0,.slice none 0 0]):=by
 simp[B8,bf3,K8,Instr.fill,Z8,Z9,V1,b]
def bs3(id kind:Int)(a b c d:Value):B8 prog 109 [(0,.int .i64 id),(1,.int .i64 kind),(5,.agg #[a,b,c,d])]=some (.agg #[.int .i64 id,.int .i64 kind,.slice none 0 0,p6 e0,p6 e0,a,b,c,d,.bool false,.slice none 0 0,.slice none 0 0,.slice none 0 0]):=by
 simp[B8,bf3,K8,Instr.fill,Z8,ax8,V1]
def bs4(id kind:Int)(n:A6):B8 prog 109 [(0,.int .i64 id),(1,.int .i64 kind),(3,p6 n)]=some (.agg #[.int .i64 id,.int .i64 kind,.slice none 0 0,p6 n,p6 e0,.int .i64 0,.int .i64 0,p6 e0,.slice none 0 0,.bool false,.slice none 0 0,.slice none 0 0,.slice none 0 0]):=by
 simp[B8,bf3,K8,Instr.fill,Z8,Z9,V1]
def bs5(id kind:Int)(b c d e a:Value)(f:a.cells=#[a]):B8 prog 109 [(0,.int .i64 id),(1,.int .i64 kind),(5,.agg #[b,c,d,e]),(8,a)]=some (.agg #[.int .i64 id,.int .i64 kind,.slice none 0 0,p6 e0,p6 e0,b,c,d,e,.bool false,.slice none 0 0,a,.slice none 0 0]):=by
 simp[B8,bf3,K8,Instr.fill,Z8,ax8,V1,f]
def bs6(id kind:Int)(a b c d:Value):B8 prog 109 [(0,.int .i64 id),(1,.int .i64 kind),(6,.bool true),(5,.agg #[a,b,c,d])]=some (.agg #[.int .i64 id,.int .i64 kind,.slice none 0 0,p6 e0,p6 e0,a,b,c,d,.bool true,.slice none 0 0,.slice none 0 0,.slice none 0 0]):=by
 simp[B8,bf3,K8,Instr.fill,Z8,aQ3,ax8,V1]
def ba1(a b c d:Value):B8 prog 124 [(2,.agg #[a,b,c,d])]=some (.agg #[.bool false,p6 e0,a,b,c,d]):=by
 simp[B8,cT1,K8,Instr.fill,ax8,V1]
def ba2(n:A6):B8 prog 124 [(0,.bool true),(1,p6 n)]=some (.agg #[.bool true,p6 n,.int .i64 0,.int .i64 0,p6 e0,.slice none 0 0]):=by
 simp[B8,cT1,K8,Instr.fill,aQ3,Z9,V1]
def bp1(n:A6)(a b:Value)(d:a.cells=#[a])(c:b.cells=#[b]):B8 prog 75 [(0,p6 n),(2,a),(3,b)]=some (.agg #[p6 n,.slice none 0 0,a,b,.slice none 0 0]):=by
 simp[B8,dj7,K8,Instr.fill,Z9,V1,d,c]
def bp2(n:A6)(a b c:Value)(f:a.cells=#[a])(d:b.cells=#[b])(e:c.cells=#[c]):B8 prog 75 [(0,p6 n),(1,a),(4,c),(3,b)]=some (.agg #[p6 n,a,.slice none 0 0,b,c]):=by
 simp[B8,dj7,K8,Instr.fill,Z9,V1,f,d,e]
def bq1(n:A6):B8 prog 78 [(0,p6 n)]=some (.agg #[p6 n,.bool false]):=by
 simp[B8,cT3,K8,Instr.fill,Z9,V1]
def bq2(n:A6):B8 prog 78 [(0,p6 n),(1,.bool true)]=some (.agg #[p6 n,.bool true]):=by
 simp[B8,cT3,K8,Instr.fill,aQ3,Z9,V1]
def bg1(a b:Value)(d:a.cells=#[a])(c:b.cells=#[b]):B8 prog 34 [(0,a),(1,b)]=some (.agg #[a,b]):=by
 simp[B8,dA2,K8,Instr.fill,d,c]
def ct8{N:Nat->Prop}(op:Int)(a b:Ex)(j k l m o p q r:Value)(w:World)(hN:∀b,N b->b<w.heap.size)(A:SV (B6 w N) (.agg #[j,k,l,m]) a)(hb:SV (B6 w N) (.agg #[o,p,q,r]) b):
  p7 prog 64 #[.int .i64 op,.agg #[j,k,l,m],.agg #[o,p,q,r]] w λu i=>(∃g,u = .agg #[.int .i64 op,.int .i64 0,p6 e0,g]/\R (B6 i N) g [a,b]/\o7 w i):=by
 refine bg7 (args:=[.int .i64 op,.agg #[j,k,l,m],.agg #[o,p,q,r]]) hm func64 rfl (by kernel_rfl) (by show 3<=_;decide +kernel) ?_;obtain⟨d1,Z,C,d,s⟩:=bm7 (w:=w) (λ_=>False) A (λb h=>h.elim);obtain⟨d2,F,D,e,t⟩:=bm7 (w:=Z) (λ_=>False) (hb.mono (noE d)) (λb h=>h.elim);obtain⟨G,T,B,f,v⟩:=cR0 F;have y:=e.trans f;have x:∀{w i:World},o7 w i->B5 (B6 w λ_=>False) (i4 i):=fun{w i} hx=>t8 (B2 _ _) (b7 hx);have U:=(K7.ex_v A s).1 G (x y);have V:=(K7.ex_v (hb.mono (noE d)) t).1 G (x f);have c:=d.trans e;obtain⟨g,w4,W,_,X,Y,J,K⟩:=di0 (P:=prog) dy7 rfl (w:=G) (h:=B6 F N) (xs:=[.agg #[j,k,l,m],.agg #[o,p,q,r]]) (ys:=[a,b]) (parts:=#[(0,.agg #[j,k,l,m]),(1,.agg #[o,p,q,r])]) (n:=2) rfl ⟨A.mono (noE c),hb.mono (noE c),trivial⟩ rfl (by simp) (by simp) (t8 (B2 _ _) (b7 f));have z:=X8 J.isS;obtain⟨w5,L,M,H,O⟩:=v w4 #[.int .i64 op,.int .i64 0,p6 Go.Proofs.YtfadjbljajfkfaaGreat.e0,g] (by rw[ae5];rfl) (λu I=>by
  simp only[dO6,dR2,dX1]at I;rcases I with rfl|rfl|rfl|rfl
  ·rfl
  ·rfl
  ·rfl
  ·exact z) Y
 have E:=cH9 op g X;simp only[m8,o6,simprocAttr,C,D,B,U,V,W,E,L];refine M7 results64 (ad:=⟨F.heap.size,0,none⟩) (by simp only[p8,simprocAttr]) M ?_;refine⟨g,rfl,?_,(d.trans e).trans H⟩;refine(J.mod O λb Q h2=>(by have S:=K b Q;omega)).ro (noE H) λb hb=>D8 λh=>?_;have S:=K b hb;have h4:=hN b h;have h5:=c.size;omega
def dy1(w:World):∃d,w.heap.size<d.heap.size/\(Instr.alloc 34 true (.tuple #[])).run prog w = .ok (.pointer (some ⟨w.heap.size,0,none⟩)) d/\o7 w d/\∀(e:World) (c:Array Value),c.size=L9 prog 34->(∀u∈c.toList,u.oneCell'=true)->o7 d e ->
  ∃a,(Instr.storeAt 34 (.pointer (some ⟨w.heap.size,0,none⟩)) (.agg c)).run prog e = .ok () a/\(Instr.loadAt 34 (.pointer (some ⟨w.heap.size,0,none⟩))).run prog a = .ok (.agg c) a/\o7 w a/\o9 (λb=>b=w.heap.size) e a:=
 cQ9 dk3 (by rw[cb9];rfl) (by simp[Value.cells,Value.oneCell']) cS8 cU0 cT0 w
theorem dJ6:Value.string ⟨#[118]⟩=p6 sV:=rfl
theorem dJ4:Value.string ⟨#[103]⟩=p6 sG:=rfl
theorem dJ5:Value.string ⟨#[112]⟩=p6 sP:=rfl
theorem dJ7:Value.string ⟨#[120]⟩=p6 sX:=rfl
theorem dJ8:Value.string ⟨#[121]⟩=p6 sY:=rfl
theorem dJ3:Value.string ⟨#[101]⟩=p6 sE:=rfl
theorem dy2:Value.string ⟨#[109,97,105,110]⟩=p6 J8:=rfl
def cG8(w:World):p7 prog 37 #[] w λu y=>(SV (i4 y) u aY9/\o7 w y):=by
 refine p9 [] func37 rfl ?_;obtain⟨w0,bi,ab,bj,D⟩:=dy1 w;have hN:∀{y:World},o7 w0 y->∀b,b=w.heap.size->b<y.heap.size:=fun{y} hx b hb=>by have:=hx.size;omega
 obtain⟨v1,w1,q1,r1,k1,x1⟩:=dn0 sV (N:=λb=>b=w.heap.size) w0 (hN (o9.refl _));simp only[m8,simprocAttr,ab,dJ6,dJ4,dJ5,dJ7,dJ8,dJ3,dy2,q1];refine B9 (bM6 2 w1) (λw2 x2=>?_);simp only[m8,simprocAttr,bs1];refine B9 (bM6 3 w2) (λw3 x3=>?_);have y3:=(x1.trans x2).trans x3;obtain⟨v4,w4,q4,r4,k4,x4,_,_⟩:=cB5 (P:=prog) (α:=Ar) dy6 rfl (N:=λb=>b=w.heap.size) (w:=w3) (hN y3) (xs:=[.agg #[.bool false,p6 e0,.int .i64 1,.int .i64 3,p6 e0,.slice none 0 0],.agg #[.bool true,p6 sV,.int .i64 0,.int .i64 0,p6 e0,.slice none 0 0]]) (ys:=[⟨false,e0,bh2 3⟩,⟨true,sV,.mk 0 0 e0 []⟩]) (parts:=#[(0,.agg #[.bool false,p6 e0,.int .i64 1,.int .i64 3,p6 e0,.slice none 0 0]),(1,.agg #[.bool true,p6 sV,.int .i64 0,.int .i64 0,p6 e0,.slice none 0 0])]) (n:=2) rfl ⟨dj3 (av7 J9),dj3 (av7 J9),trivial⟩ rfl (by simp) (by simp);have y4:=y3.trans x4;simp only[m8,simprocAttr,ba1,ba2,q4,bs2 _ _ _ _ _ k4];refine B9 (aq2 sV w4) (λw5 x5=>?_);simp only[m8,simprocAttr,bs3];refine B9 (aq2 sG w5) (λw6 x6=>?_);have y6:=(y4.trans x5).trans x6;have av:=A4.mono (noE (x5.trans x6)) r4;obtain⟨v7,w7,q7,r7,k7,x7,_,_⟩:=cB5 (P:=prog) (α:=St) cR7 rfl (N:=λb=>b=w.heap.size) (w:=w6) (hN y6) (xs:=[.agg #[.int .i64 1,.int .i64 1,.slice none 0 0,p6 sV,p6 e0,.int .i64 1,.int .i64 2,p6 e0,.slice none 0 0,.bool false,.slice none 0 0,.slice none 0 0,.slice none 0 0],.agg #[.int .i64 2,.int .i64 4,.slice none 0 0,p6 sG,p6 sP,.int .i64 0,.int .i64 0,p6 e0,.slice none 0 0,.bool false,v4,.slice none 0 0,.slice none 0 0],.agg #[.int .i64 3,.int .i64 3,.slice none 0 0,p6 e0,p6 e0,.int .i64 2,.int .i64 0,p6 sV,.slice none 0 0,.bool false,.slice none 0 0,.slice none 0 0,.slice none 0 0],.agg #[.int .i64 4,.int .i64 3,.slice none 0 0,p6 e0,p6 e0,.int .i64 2,.int .i64 0,p6 sG,.slice none 0 0,.bool false,.slice none 0 0,.slice none 0 0,.slice none 0 0]]) (ys:=[.mk 1 1 [] sV e0 (bh2 2) false [] [] [],.mk 2 4 [] sG sP (.mk 0 0 e0 []) false [⟨false,e0,bh2 3⟩,⟨true,sV,.mk 0 0 e0 []⟩] [] [],.mk 3 3 [] e0 e0 (ad8 sV) false [] [] [],.mk 4 3 [] e0 e0 (ad8 sG) false [] [] []]) (parts:=#[(0,.agg #[.int .i64 1,.int .i64 1,.slice none 0 0,p6 sV,p6 e0,.int .i64 1,.int .i64 2,p6 e0,.slice none 0 0,.bool false,.slice none 0 0,.slice none 0 0,.slice none 0 0]),(1,.agg #[.int .i64 2,.int .i64 4,.slice none 0 0,p6 sG,p6 sP,.int .i64 0,.int .i64 0,p6 e0,.slice none 0 0,.bool false,v4,.slice none 0 0,.slice none 0 0]),(2,.agg #[.int .i64 3,.int .i64 3,.slice none 0 0,p6 e0,p6 e0,.int .i64 2,.int .i64 0,p6 sV,.slice none 0 0,.bool false,.slice none 0 0,.slice none 0 0,.slice none 0 0]),(3,.agg #[.int .i64 4,.int .i64 3,.slice none 0 0,p6 e0,p6 e0,.int .i64 2,.int .i64 0,p6 sG,.slice none 0 0,.bool false,.slice none 0 0,.slice none 0 0,.slice none 0 0])]) (n:=4) rfl ⟨bk7 J9 (av7 J9) J9 J9 J9,bk7 J9 (av7 J9) av J9 J9,bk7 J9 (av7 J9) J9 J9 J9,bk7 J9 (av7 J9) J9 J9 J9,trivial⟩ rfl (by simp) (by simp);have y7:=y6.trans x7;have c:SV (B6 w7 λb=>b=w.heap.size) (.agg #[p6 J8,.slice none 0 0,v1,v7,.slice none 0 0]) bx1:=dj4 J9 (A4.mono (noE (((((x2.trans x3).trans x4).trans x5).trans x6).trans x7)) r1) r7 J9;obtain⟨d1,bF,w8,B,E,x8,C⟩:=ba4 (w:=w7) (λb=>b=w.heap.size) c (hN y7);have y8:=y7.trans x8;obtain⟨v9,w9,q9,r9,k9,x9,_,_⟩:=cB5 (P:=prog) (α:=Pa) dz1 rfl (N:=λb=>b=w.heap.size) (w:=w8) (hN y8) (xs:=[.agg #[p6 sX,.bool false],.agg #[p6 sY,.bool true]]) (ys:=[⟨sX,false⟩,⟨sY,true⟩]) (parts:=#[(0,.agg #[p6 sX,.bool false]),(1,.agg #[p6 sY,.bool true])]) (n:=2) rfl ⟨⟨_,rfl,rfl⟩,⟨_,rfl,rfl⟩,trivial⟩ rfl (by simp) (by simp);have y9:=y8.trans x9;obtain⟨p,Q,aj,ao,ac,S⟩:=dn0 sE (N:=λb=>b=w.heap.size) w9 (hN y9);have aN:=y9.trans S;simp only[m8,simprocAttr,bs3,q7,bp1 _ _ _ k1 k7,B,E,bq1,bq2,q9,aj];refine B9 (aq2 sY Q) (λaB r=>?_);simp only[m8,simprocAttr];refine B9 (aq2 sX aB) (λaC s=>?_);have U:=(aN.trans r).trans s;simp only[m8,simprocAttr];refine y5 (ct8 (N:=λb=>b=w.heap.size) 8 (ad8 sY) (ad8 sX) _ _ _ _ _ _ _ _ aC (hN U) (av7 J9) (av7 J9)) ?_;rintro _ aD ⟨L,rfl,ap,t⟩;have aO:=U.trans t;simp only[m8,simprocAttr,bs1];refine B9 (aq2 sY aD) (λaE h=>?_);simp only[m8,simprocAttr];refine B9 (bM6 9 aE) (λaF i=>?_);have V:=(aO.trans h).trans i;simp only[m8,simprocAttr];refine y5 (ct8 (N:=λb=>b=w.heap.size) 12 (ad8 sY) (bh2 9) _ _ _ _ _ _ _ _ aF (hN V) (av7 J9) (av7 J9)) ?_;rintro _ aG ⟨M,rfl,aq,j⟩;have W:=V.trans j;obtain⟨O,aH,ak,ar,ae,e,_,_⟩:=cB5 (P:=prog) (α:=St) cR7 rfl (N:=λb=>b=w.heap.size) (w:=aG) (hN W) (xs:=[.agg #[.int .i64 7,.int .i64 10,.slice none 0 0,p6 sE,p6 e0,.int .i64 0,.int .i64 0,p6 e0,.slice none 0 0,.bool false,.slice none 0 0,.slice none 0 0,.slice none 0 0]]) (ys:=[.mk 7 10 [] sE e0 (.mk 0 0 e0 []) false [] [] []]) (parts:=#[(0,.agg #[.int .i64 7,.int .i64 10,.slice none 0 0,p6 sE,p6 e0,.int .i64 0,.int .i64 0,p6 e0,.slice none 0 0,.bool false,.slice none 0 0,.slice none 0 0,.slice none 0 0])]) (n:=1) rfl ⟨bk7 J9 (av7 J9) J9 J9 J9,trivial⟩ rfl (by simp) (by simp);have aP:=W.trans e;simp only[m8,simprocAttr,bs4,ak,bs5 _ _ _ _ _ _ _ ae];refine B9 (aq2 sY aH) (λaI a=>?_);have X:=aP.trans a;have H:=A4.mono (noE a) ar;have G:=A4.mono (noE (e.trans a)) aq;have F:=A4.mono (noE ((((h.trans i).trans j).trans e).trans a)) ap;obtain⟨q,f,al,au,af,v,_,_⟩:=cB5 (P:=prog) (α:=St) cR7 rfl (N:=λb=>b=w.heap.size) (w:=aI) (hN X) (xs:=[.agg #[.int .i64 5,.int .i64 1,.slice none 0 0,p6 sY,p6 e0,.int .i64 8,.int .i64 0,p6 e0,L,.bool false,.slice none 0 0,.slice none 0 0,.slice none 0 0],.agg #[.int .i64 6,.int .i64 5,.slice none 0 0,p6 e0,p6 e0,.int .i64 12,.int .i64 0,p6 e0,M,.bool false,.slice none 0 0,O,.slice none 0 0],.agg #[.int .i64 8,.int .i64 9,.slice none 0 0,p6 e0,p6 e0,.int .i64 2,.int .i64 0,p6 sY,.slice none 0 0,.bool true,.slice none 0 0,.slice none 0 0,.slice none 0 0]]) (ys:=[.mk 5 1 [] sY e0 (cq3 8 (ad8 sY) (ad8 sX)) false [] [] [],.mk 6 5 [] e0 e0 (cq3 12 (ad8 sY) (bh2 9)) false [] [.mk 7 10 [] sE e0 (.mk 0 0 e0 []) false [] [] []] [],.mk 8 9 [] e0 e0 (ad8 sY) true [] [] []]) (parts:=#[(0,.agg #[.int .i64 5,.int .i64 1,.slice none 0 0,p6 sY,p6 e0,.int .i64 8,.int .i64 0,p6 e0,L,.bool false,.slice none 0 0,.slice none 0 0,.slice none 0 0]),(1,.agg #[.int .i64 6,.int .i64 5,.slice none 0 0,p6 e0,p6 e0,.int .i64 12,.int .i64 0,p6 e0,M,.bool false,.slice none 0 0,O,.slice none 0 0]),(2,.agg #[.int .i64 8,.int .i64 9,.slice none 0 0,p6 e0,p6 e0,.int .i64 2,.int .i64 0,p6 sY,.slice none 0 0,.bool true,.slice none 0 0,.slice none 0 0,.slice none 0 0])]) (n:=3) rfl ⟨bk7 J9 (av7 F) J9 J9 J9,bk7 J9 (av7 G) J9 H J9,bk7 J9 (av7 J9) J9 J9 J9,trivial⟩ rfl (by simp) (by simp);have Y:=X.trans v;have z9:o7 w9 f:=((((((((S.trans r).trans s).trans t).trans h).trans i).trans j).trans e).trans a).trans v;have aR:o7 Q f:=(((((((r.trans s).trans t).trans h).trans i).trans j).trans e).trans a).trans v;have d:SV (B6 f λb=>b=w.heap.size) (.agg #[p6 sP,v9,.slice none 0 0,q,p]) bx2:=dj4 (A4.mono (noE z9) r9) J9 au (A4.mono (noE aR) ao);obtain⟨d2,a0,aJ,l,o,x,m⟩:=ba4 (w:=f) (λb=>b=w.heap.size) d (hN Y);have Z:=Y.trans x;obtain⟨ax,g,am,I,ag,k⟩:=dn0 sG (N:=λb=>b=w.heap.size) aJ (hN Z);have aa:=Z.trans k;have z8:o7 w8 g:=((x9.trans z9).trans x).trans k;have l1:=(K7.pr_v c C).1 g (t8 (noE z8) (B2 _ _));have l2:=(K7.pr_v d m).1 g (t8 (noE k) (B2 _ _));obtain⟨ay,R,an,K,ah,T,_,_⟩:=cB5 (P:=prog) (α:=Pr) dz2 rfl (N:=λb=>b=w.heap.size) (w:=g) (hN aa) (xs:=[.agg #[p6 J8,.slice none 0 0,v1,v7,.slice none 0 0],.agg #[p6 sP,v9,.slice none 0 0,q,p]]) (ys:=[bx1,bx2]) (parts:=#[(0,.agg #[p6 J8,.slice none 0 0,v1,v7,.slice none 0 0]),(1,.agg #[p6 sP,v9,.slice none 0 0,q,p])]) (n:=2) rfl ⟨c.mono (noE (x8.trans z8)),d.mono (noE (x.trans k)),trivial⟩ rfl (by simp) (by simp);have aQ:=aa.trans T;have J:=A4.mono (noE T) I;have z:=aa9 I;have A:=aa9 K;obtain⟨aK,e1,e2,e3,e4⟩:=D R #[ax,ay] (by rw[cb9];rfl) (λu hu=>by
  simp only[dO6,dR2,dX1]at hu;rcases hu with rfl|rfl
  ·exact z
  ·exact A) aQ
 simp only[m8,simprocAttr,bs6,al,bp2 _ _ _ _ k9 af ac,l,o,am,l1,l2,an,bg1 _ _ ag ah,e1];refine M7 results37 (ad:=⟨w.heap.size,0,none⟩) (by simp only[p8,simprocAttr]) e2 ?_;refine⟨?_,e3⟩;have hh:B5 (B6 R λb=>b=w.heap.size) (i4 aK):=H5 (B2 _ _) e4 λb hb=>F2 hb;exact dz5 (A4.mono hh J) (A4.mono hh K)
def bO2:C5 aY9<=1000000:=by decide +kernel
def W9:Vx:=⟨J8,2,3,e0⟩
def ca6:ap0 aY9 3=(W9,0):=by decide +kernel
def bG8:((ar3 aY9 [W9]).2,((ar3 aY9 [W9]).1.filter λv=>decide (v.kind=2)).map (·.id))=(0,[1,2,3,5]):=by decide +kernel
def bG9:((ay1 aY9 [W9]).1.length,(ay1 aY9 [W9]).2)=(1,0):=by decide +kernel
def ck3:be5 (ar3 aY9 [W9]).1=[1,2,3,5]:=by
 have h:=dO2 Prod.snd bG8;simp only at h;refine bZ3 (cl0 _) (by decide) λx=>?_;rw[cE4];unfold bL7;rw[h]
theorem cx5(q:A6)(k d:Int):B8 prog 26 [(0,p6 q),(1,.int .i64 k),(2,.int .i64 d)]=some (.agg (A0.cells (⟨q,k,d,e0⟩:Vx)).toArray):=by
 have h:A0.cells (⟨q,k,d,e0⟩:Vx)=[p6 q,.int .i64 k,.int .i64 d,p6 e0]:=rfl;rw[h];simp[B8,bH4,K8,Instr.fill,Value.cells,p6,e0];rfl
def bm9(y:Vx)(w:World):∃u a,(Instr.buildSlice 22 1 #[(0,.agg (A0.cells y).toArray)]).run prog w = .ok u a/\R (i4 a) u [y]/\o7 w a:=by
 obtain⟨u,a,c,d,b,_⟩:=lit (P:=prog) (t:=22) (w:=w) (h:=i4 w) (α:=Vx) (xs:=[.agg (A0.cells y).toArray]) (ys:=[y]) (parts:=#[(0,.agg (A0.cells y).toArray)]) (n:=1) bk1 rfl (aH5 ((A0.iff_ _ _ _).2 (by simp[Value.cells]))) (by simp[Value.cells];rfl) rfl rfl (by simp) (by simp) (i5 _);exact⟨u,a,c,d.rw_ (b7 b),b⟩
def ck1(w:World):p7 prog 10 #[] w λu w'=>(u = .bool true/\o7 w w'):=by
 refine p9 [] func10 rfl ?_;have C:Value.string {data:=#[109,97,105,110]}=p6 J8:=rfl;have Z:=ca6;have Y:=ck3;have l:=dO2 Prod.fst bG8;have m:=dO2 Prod.fst bG9;have o:=dO2 Prod.snd bG9;simp only at l m o;simp only[m8,simprocAttr];refine y5 (cG8 w) ?_;rintro u w1 ⟨hu,F⟩;obtain⟨d,wz,W,z,D,G,A⟩:=df1 hu (i5 _);obtain⟨Q,i,j,_⟩:=A.pg_v;have l2:=j W (i5 _);simp only[m8,simprocAttr,z,D,l2];refine B9 (bm2 Q 3 W i bO2) (λR H=>?_);rw[Z];simp only[];obtain⟨dv,aA,S,p,t,I,q⟩:=aw0 (w:=R) (λ_=>False) (SV.ofN (i4 R) W9) λb hb=>hb.elim;obtain⟨k,_⟩:=K7.vx_v (SV.ofN (i4 R) W9) q;have c:=H.trans I;have l4:=j S (b7 c);have M:=k S (B2 _ _);obtain⟨u5,w5,q5,r5,v⟩:=bm9 W9 S;simp only[m8,simprocAttr,p,t,l4,M,q5];refine y5 (av4 Q u5 [W9] w5 (i.mono (b7 (c.trans v))) bO2 r5 (by simp)) ?_;rintro _ T ⟨ub,rfl,rb,ab,J⟩;rw[l];have f:=v.trans J;have e:=c.trans f;have l6:=j T (b7 e);have N:=k T (t8 (B2 _ _) (b7 f));obtain⟨u7,w7,q7,r7,x⟩:=bm9 W9 T;simp only[m8,simprocAttr,l6,N,q7];refine y5 (az7 Q u7 [W9] w7 (i.mono (b7 (e.trans x))) bO2 r7 (by simp)) ?_;rintro _ X ⟨uf,rfl,V,ac,K⟩;rw[o];have g:=x.trans K;have O:=k X (t8 (B2 _ _) (b7 (f.trans g)));have y:=V.isS;have s:=V.vlen;rw[m]at s;have r:=cx5 J8 2 3;have E:(⟨J8,2,3,e0⟩:Vx)=W9:=rfl;rw[E]at r;have B:=λw0 a b=>cK6 w0 a b W9 W9;have hd:decide (W9=W9)=true:=dV2 rfl;simp only[m8,o6,simprocAttr,O,C,r];simp only[m8,o6,simprocAttr,ac3,A0.cells,B];refine y5 (bo4 ub (ar3 aY9 [W9]).1 X (A4.mono (b7 g) rb) (by omega)) ?_;rintro us w9 ⟨rs,hx9⟩;rw[Y]at rs;obtain⟨ul,wa,qa,oa,U,_⟩:=lit (P:=prog) (w:=w9) (h:=i4 w9) (α:=Int) (xs:=[.int .i64 1,.int .i64 2,.int .i64 3,.int .i64 5]) (ys:=[1,2,3,5]) (parts:=#[(0,.int .i64 1),(1,.int .i64 2),(2,.int .i64 3),(3,.int .i64 5)]) (n:=4) U2 rfl (G5.2 rfl) (by simp[Value.cells]) rfl rfl (by simp) (by simp) (i5 _);simp only[m8,simprocAttr,qa];refine B9 (cf3 us ul [1,2,3,5] [1,2,3,5] wa (A4.mono (b7 U) rs) (oa.rw_ (b7 U)) (by simp)) (λwb L=>?_);simp only[m8,o6,simprocAttr,y,s];exact o8 results10 ⟨rfl,(((((F.trans G).trans e).trans g).trans hx9).trans U).trans L⟩
def M1(n:Nat):Int:=((min n 20001:Nat):Int)
def cZ2(n:Nat):0<=M1 n/\M1 n<=20001:=by unfold M1;omega
def ar4{n:Nat}(h:M1 n<=20000):M1 n=(n:Int)/\n<=20000:=by unfold M1 at *;omega
def ai7{n m:Nat}(h:¬M1 n<=20000)(hm:n<=m):M1 m=20001/\M1 n=20001:=by unfold M1 at *;omega
def G1{α:Type}(f:α->Nat)(l:List α):Nat:=(l.map f).sum
section
variable {α:Type} {f:α->Nat}
def aj9{l:List α}{k:Nat}(a:k<l.length):G1 f (l.take (k+1))=G1 f (l.take k)+f l[k]:=by
 unfold G1;rw[dN3 a,dP6,List.sum_append];simp only[dQ8,List.map_nil,dX8,List.sum_nil];omega
def az8(l:List α)(k:Nat):G1 f (l.take k)<=G1 f l:=by
 unfold G1
 conv=>rhs;rw[<-dR8 k l]
 rw[dP6,List.sum_append];omega
def aj8(h:∀x,1<=f x):∀(l:List α),l.length<=G1 f l
 | []=>by simp
 | x::l=>by
  have:=aj8 h l;have:=h x;unfold G1 at *;simp only[dQ8,dX8,dP4];omega
end
theorem cc6:∀l:List A6,aA3 l=G1 wtT l
 | []=>rfl
 | s::l=>by rw[aA3,cc6 l];rfl
theorem bI1:∀l:List Ex,au1 l=G1 U3 l
 | []=>rfl
 | s::l=>by rw[au1,bI1 l];rfl
theorem bH9:∀l:List Ar,ad1 l=G1 an3 l
 | []=>rfl
 | s::l=>by rw[ad1,bH9 l];rfl
theorem bg2:∀l:List St,I1 l=G1 R4 l
 | []=>rfl
 | s::l=>by rw[I1,bg2 l];rfl
theorem bI2:∀l:List Pa,by9 l=G1 (λa=>wtT a.name) l
 | []=>rfl
 | s::l=>by rw[by9,bI2 l];rfl
theorem bI3:∀l:List Pr,aF6 l=G1 X3 l
 | []=>rfl
 | s::l=>by rw[aF6,bI3 l];rfl
def aO1(s:A6):1<=wtT s:=by unfold wtT;omega
def cV8(a:Ar):1<=an3 a:=by unfold an3;have:=aO1 a.name;omega
def cV9(f:Pr):1<=X3 f:=by unfold X3;have:=aO1 f.name;omega
def T2(s:A6)(n:Nat)(w:World):p7 prog 42 #[p6 s,.int .i64 (M1 n)] w λu g=>(u = .int .i64 (M1 (n+wtT s))/\g=w):=by
 refine p9 [p6 s,.int .i64 (M1 n)] func42 rfl ?_;have a:N7 prog 9 (p6 s)=some (.int .i64 (s.b.length:Nat)):=dv5 (by kernel_rfl) (by kernel_rfl);have k:=cZ2 n;have l:wtT s=1+s.b.length:=rfl;rcases dM5 (decide (20000<M1 n))with h1|h1
 ·have c:=dM8 h1;simp only[m8,o6,simprocAttr,h1];refine o8 results42 ?_;simp only[p8,simprocAttr];exact⟨by rw[(ai7 (by omega) (by omega:n<=n+wtT s)).1],by trivial⟩
 have c:=dN2 h1;obtain⟨h,j⟩:=ar4 (n:=n) (by omega);have b:IntKind.i64.wrap (20000-M1 n)=20000-M1 n:=M3 _ (by omega);generalize i:((s.b.length:Nat):Int)=L at a;rcases dM5 (decide (20000-M1 n<=L))with h2|h2
 ·have d:=dM8 h2;simp only[m8,o6,simprocAttr,h1,a,b,h2];refine o8 results42 ?_;simp only[p8,simprocAttr];have:M1 (n+wtT s)=20001:=by unfold M1 at *;omega
  exact⟨by rw[this],by trivial⟩
 have d:=dN2 h2;have e:IntKind.i64.wrap (M1 n+1)=M1 n+1:=M3 _ (by omega);have f:IntKind.i64.wrap (M1 n+1+L)=M1 n+1+L:=M3 _ (by omega);simp only[m8,o6,simprocAttr,h1,a,b,h2,e,f];refine o8 results42 ?_;simp only[p8,simprocAttr];have:M1 (n+wtT s)=M1 n+1+L:=by unfold M1 at *;omega
 exact⟨by rw[this],by trivial⟩
def ai1(v:Value)(l:List A6)(n:Nat)(w:World)(hv:R (i4 w) v l):p7 prog 41 #[v,.int .i64 (M1 n)] w λu t=>(u = .int .i64 (M1 (n+aA3 l))/\t=w):=by
 refine p9 [v,.int .i64 (M1 n)] func41 rfl ?_;have o:=hv.isS;have r:=hv.vlen;rw[cc6];simp only[m8,o6,simprocAttr];refine n9 [0] (σ:=Nat) (λi f t=>f 5 = .int .i64 i/\f 1 = .int .i64 (M1 (n+G1 wtT (l.take i)))/\i<=l.length/\t=w) (λi=>l.length-i) 0 ?_ ?_
 ·simp only[p8,simprocAttr];exact⟨by trivial,by simp[G1],dN6 _,by trivial⟩
 rintro i f A x ⟨j,c,z,rfl⟩;simp only[dM6,p8,simprocAttr]at x;obtain⟨e0,_⟩:=x;rcases dM5 (decide ((i:Int)<(l.length:Int)))with hc|hc;rotate_left
 ·have p:i=l.length:=by have:=dN2 hc;omega
  subst p;rw[dN8]at c;simp only[m8,o6,simprocAttr,j,e0,o,r,hc,c];exact o8 results41 ⟨rfl,by trivial⟩
 have a:i<l.length:=by have:=dM8 hc;omega
 have g:=az8 (f:=wtT) l i;have q:=hv.inS a;have d:=ldS hv (i5 _) a;have b:=aj9 (f:=wtT) a;have h:=aj8 aO1 (l.take i);rw[dN9]at h;generalize l[i]=s at d b;generalize G1 wtT (l.take i)=S at c b g h;rcases dM5 (decide (M1 (n+S)<=20000))with h2|h2;rotate_left
 ·have k:=dN2 h2;have e:=ai7 (m:=n+G1 wtT l) k (by omega);simp only[m8,o6,simprocAttr,j,e0,o,r,hc,c,h2];refine o8 results41 ?_;simp only[p8,simprocAttr];exact⟨by rw[e.1,e.2],by trivial⟩
 obtain⟨_,y⟩:=ar4 (dM8 h2);simp only[m8,o6,y0,simprocAttr,j,e0,o,r,hc,c,h2,q,d];refine E0 (T2 s (n+S) _) ?_;simp only[m8,o6,simprocAttr,j];exact⟨i+1,by omega,dO2 _ (B0 i (by omega)),by rw[b,<-dW3],by omega,by trivial⟩
def aP5:∀(m:Nat) (x:Ex) (v:Value) (n:Nat) (w:World),U3 x<=m->SV (i4 w) v x ->
  p7 prog 67 #[v,.int .i64 (M1 n)] w λu M=>(u = .int .i64 (M1 (n+U3 x))/\o7 w M):=by
 intro m
 induction m using Nat.strongRecOn with
 | ind m Z=>
 intro x v n w W X;refine p9 [v,.int .i64 (M1 n)] func67 rfl ?_;have A:=bQ0 x;rw[bI1]at A;have p:∀y∈x.kids,U3 y<U3 x:=λy Y=>by
  have k:=bg0 Y;have o:=bQ0 x;have h3:=aO1 x.name;omega
 rw[A];obtain⟨a,O,G,B,F⟩:=aL0 X (i5 _);obtain⟨vk,c,T,_⟩:=F.ex;have h:=c.isS;have g:=c.vlen;have l1:=T O (i5 _);simp only[m8,o6,simprocAttr,G,l1];refine E0 (T2 x.name n O) ?_;generalize hN:n+wtT x.name=N;rw[show n+(wtT x.name+G1 U3 x.kids)=N+G1 U3 x.kids by omega];generalize x.kids=l at c g p;simp only[m8,simprocAttr];refine n9 [2] (σ:=Nat) (λi f M=>f 5 = .int .i64 i/\f 1 = .int .i64 (M1 (N+G1 U3 (l.take i)))/\i<=l.length/\o7 O M) (λi=>l.length-i) 0 ?_ ?_
 ·simp only[p8,simprocAttr];exact⟨by trivial,by simp[G1],dN6 _,o9.refl _⟩
 rintro i f U Q ⟨C,k,V,b⟩;simp only[dM6,p8,simprocAttr]at Q;obtain⟨D,_⟩:=Q;have L:=T U (b7 b);rcases dM5 (decide ((i:Int)<(l.length:Int)))with hc|hc;rotate_left
 ·have H:i=l.length:=by have:=dN2 hc;omega
  subst H;rw[dN8]at k;simp only[m8,o6,simprocAttr,C,D,L,h,g,hc,k];exact o8 results67 ⟨rfl,B.trans b⟩
 have d:i<l.length:=by have:=dM8 hc;omega
 have r:=az8 (f:=U3) l i;have j:=aj9 (f:=U3) d;have s:=aj8 aK6 (l.take i);rw[dN9]at s;have I:=c.inS d;obtain⟨sv,z,q⟩:=F9 (P:=prog) (t:=106) c (b7 b) (dM4 d) bf0 bf4 aS9 ae5;rw[ae5]at q;have J:=p _ (dN5 d);generalize l[i]=y at z j J;generalize G1 U3 (l.take i)=S at k j r s;rcases dM5 (decide (M1 (N+S)<=20000))with o|o;rotate_left
 ·have E:=dN2 o;have e:=ai7 (m:=N+G1 U3 l) E (by omega);simp only[m8,o6,simprocAttr,C,D,L,h,g,hc,k,o];refine o8 results67 ?_;simp only[p8,simprocAttr];exact⟨by rw[e.1,e.2],B.trans b⟩
 obtain⟨_,R⟩:=ar4 (dM8 o);simp only[m8,o6,y0,simprocAttr,C,D,L,h,g,hc,k,o,I,q];refine B9 (Z (U3 y) (by omega) y sv (N+S) U (dO0 _) (z.mono (b7 b))) (λw3 K=>?_);simp only[m8,o6,simprocAttr,C];exact⟨i+1,by omega,dO2 _ (B0 i (by omega)),by rw[j,<-dW3],by omega,b.trans K⟩
def aK5:∀(m:Nat) (l:List St) (v:Value) (n:Nat) (w:World),I1 l<=m->R (i4 w) v l ->
  p7 prog 43 #[v,.int .i64 (M1 n)] w λu b=>(u = .int .i64 (M1 (n+I1 l))/\o7 w b):=by
 intro m
 induction m using Nat.strongRecOn with
 | ind m ih=>
 intro l v n w aF hv;refine p9 [v,.int .i64 (M1 n)] func43 rfl ?_;have J:∀t∈l,I1 t.thn<I1 l/\I1 t.els<I1 l:=λt ht=>by
  have L:=ak2 ht;have V:=S8 t;have C:=aO1 t.name;omega
 have hS:=hv.isS;have hn:=hv.vlen;rw[bg2]at aF ⊢;rw[bg2 l]at J;simp only[m8,o6,simprocAttr];refine n9 [0] (σ:=Nat) (λi f b=>f 5 = .int .i64 i/\f 1 = .int .i64 (M1 (n+G1 R4 (l.take i)))/\i<=l.length/\o7 w b) (λi=>l.length-i) 0 ?_ ?_
 ·simp only[p8,simprocAttr];exact⟨by trivial,by simp[G1],dN6 _,o9.refl _⟩
 rintro i f w2 hk ⟨W,L,a2,z⟩;simp only[dM6,p8,simprocAttr]at hk;obtain⟨e0,_⟩:=hk;rcases dM5 (decide ((i:Int)<(l.length:Int)))with hc|hc;rotate_left
 ·have O:i=l.length:=by have:=dN2 hc;omega
  subst O;rw[dN8]at L;simp only[m8,o6,simprocAttr,W,e0,hS,hn,hc,L];exact o8 results43 ⟨rfl,z⟩
 have D:i<l.length:=by have:=dM8 hc;omega
 have ae:=az8 (f:=R4) l i;have T:=aj9 (f:=R4) D;have ah:=aj8 (f:=R4) (λt=>by have:=cc5 t;omega) (l.take i);rw[dN9]at ah;have aA:=hv.inS D;obtain⟨sv,aj,ad⟩:=F9 (P:=prog) (t:=109) hv (b7 z) (dM4 D) aS7 aT1 aD9 Z7;rw[Z7]at ad;obtain⟨aD,aE⟩:=J _ (dN5 D);generalize l[i]=t at aj T aD aE;generalize G1 R4 (l.take i)=S at L T ae ah;rcases dM5 (decide (M1 (n+S)<=20000))with V|V;rotate_left
 ·have au:=dN2 V;have e:=ai7 (m:=n+G1 R4 l) au (by omega);simp only[m8,o6,simprocAttr,W,e0,hS,hn,hc,L,V];refine o8 results43 ?_;simp only[p8,simprocAttr];exact⟨by rw[e.1,e.2],z⟩
 obtain⟨_,aW⟩:=ar4 (dM8 V);obtain⟨d,wz,q,aw,aG,aJ,ax⟩:=ba3 (aj.mono (b7 z)) (i5 _);have al:=z.trans aJ;obtain⟨vl,va,vt,ve,aB,s,ak,aa,Z,aM,an⟩:=ax.st;obtain⟨sx,aH,_,aP⟩:=Z.ex_v;have aI:=S8 t;have t1:=an (λb=>o7 q.drew b) q.drew (o9.refl _) λb h=>b7 ((o7.drew q).trans h);have t2:=aP (λb=>o7 q.drew b) q.drew (o9.refl _) λb h=>b7 ((o7.drew q).trans h);simp only[m8,o6,y0,simprocAttr,W,e0,hS,hn,hc,L,V,aA,ad,aw,aG];refine C0 (λb=>o7 q.drew b) 14 (A5 [0,1,2,3,4,5,6,7,8,9,10,11,12,13]) ?_;simp only[D6,A5,m8,o6,simprocAttr,t1,t2,L];refine B9 (aP5 (U3 t.x) t.x sx (n+S) q.drew (dO0 _) (aH.mono (b7 (o7.drew q)))) (λw4 p=>⟨p,?_⟩);simp only[D6,m8,simprocAttr];refine E0 (ai1 vl t.labels (n+S+U3 t.x) w4 (A4.mono (b7 ((o7.drew q).trans p)) aB)) ⟨p,?_⟩;simp only[D6,m8,simprocAttr];refine E0 (T2 t.name (n+S+U3 t.x+aA3 t.labels) w4) ⟨p,?_⟩;simp only[D6,m8,simprocAttr];refine E0 (T2 t.proc (n+S+U3 t.x+aA3 t.labels+wtT t.name) w4) ⟨p,?_⟩;generalize hB:n+S+U3 t.x+aA3 t.labels+wtT t.name+wtT t.proc=B;have am:=(o7.drew q).trans p;have N:=s.isS;have E:=s.vlen;have M:n+G1 R4 (l.take (i+1))=B+G1 an3 t.args+I1 t.thn+I1 t.els:=by rw[T,aI,<-bH9,<-hB];omega
 generalize t.args=a at s E M;simp only[D6,m8,simprocAttr];refine n9 [0,5,6] (σ:=Nat) (λk f' b=>f' 7 = .int .i64 k/\f' 1 = .int .i64 (M1 (B+G1 an3 (a.take k)))/\k<=a.length/\o7 q b) (λk=>a.length-k) 0 ?_ ?_
 ·simp only[p8,simprocAttr];exact⟨by trivial,by simp[G1],dN6 _,am⟩
 rintro k f2 j hk ⟨X,o,a3,F⟩;simp only[dM6,p8,simprocAttr]at hk;obtain⟨g0,g5,U,_⟩:=hk;rw[e0]at g0;have l5:=aM j (b7 F);have K:=al.trans F;have aV:=az8 (f:=an3) a k;have g:=F.trans (o7.drew j);have t3:=an (λb=>o7 j.drew b) j.drew (o9.refl _) λb h=>b7 (g.trans h);rcases dM5 (decide ((k:Int)<(a.length:Int))&&decide (M1 (B+G1 an3 (a.take k))<=20000))with hg|hg;rotate_left
 ·have H:M1 (B+G1 an3 (a.take k))=M1 (B+G1 an3 a):=by
   rcases dM5 (decide ((k:Int)<(a.length:Int)))with C|C
   ·rw[C,dT7]at hg;have e:=ai7 (m:=B+G1 an3 a) (dN2 hg) (by omega);rw[e.1,e.2]
   ·have O:k=a.length:=by have:=dN2 C;omega
    rw[O,dN8]
  rw[H]at o;rcases dM5 (decide ((k:Int)<(a.length:Int)))with C|C
  ·rw[C,dT7,H]at hg;simp only[m8,o6,simprocAttr,X,U,l5,N,E,C,hg,o];refine C0 (λb=>o7 j.drew b) 8 (A5 [0,1,2,3,4,5,6,7]) ?_;simp only[D6,A5,m8,o6,simprocAttr,U,t3,o];refine B9 (ih (I1 t.thn) (by omega) t.thn vt (B+G1 an3 a) j.drew (dO0 _) (A4.mono (b7 g) ak)) (λw6 c=>⟨c,?_⟩);simp only[D6,m8,simprocAttr];refine B9 (ih (I1 t.els) (by omega) t.els ve (B+G1 an3 a+I1 t.thn) w6 (dO0 _) (A4.mono (b7 (g.trans c)) aa)) (λw7 A=>⟨c.trans A,?_⟩);simp only[D6,m8,simprocAttr];simp only[m8,o6,simprocAttr,g5,W];exact⟨i+1,by omega,dO2 _ (B0 i (by omega)),by rw[M],by omega,K.trans ((o7.drew j).trans (c.trans A))⟩
  ·simp only[m8,o6,simprocAttr,X,U,l5,N,E,C];refine C0 (λb=>o7 j.drew b) 8 (A5 [0,1,2,3,4,5,6,7]) ?_;simp only[D6,A5,m8,o6,simprocAttr,U,t3,o];refine B9 (ih (I1 t.thn) (by omega) t.thn vt (B+G1 an3 a) j.drew (dO0 _) (A4.mono (b7 g) ak)) (λw6 c=>⟨c,?_⟩);simp only[D6,m8,simprocAttr];refine B9 (ih (I1 t.els) (by omega) t.els ve (B+G1 an3 a+I1 t.thn) w6 (dO0 _) (A4.mono (b7 (g.trans c)) aa)) (λw7 A=>⟨c.trans A,?_⟩);simp only[D6,m8,simprocAttr];simp only[m8,o6,simprocAttr,g5,W];exact⟨i+1,by omega,dO2 _ (B0 i (by omega)),by rw[M],by omega,K.trans ((o7.drew j).trans (c.trans A))⟩
 rw[dO8]at hg;have r:k<a.length:=by have:=dM8 hg.1;omega
 obtain⟨_,Q⟩:=ar4 (dM8 hg.2);have y:=aj9 (f:=an3) r;have I:=aj8 cV8 (a.take k);rw[dN9]at I;have ab:=s.inS r;have G:=s.at_ (i:=k) (x:=a[k]) (dM4 r);have aK:A4.sz Ar=6:=rfl;rw[aK]at G;obtain⟨Y,_,aO⟩:=G.ar;obtain⟨sa,af,_,aN⟩:=Y.ex_v;have t4:=aO (λb=>o7 j.drew b) j.drew (o9.refl _) λb h=>b7 (g.trans h);have t5:=aN (λb=>o7 j.drew b) j.drew (o9.refl _) λb h=>b7 (g.trans h);generalize a[k]=ag at y af t4;generalize G1 an3 (a.take k)=S2 at o y Q I hg;have ay:=hg.1;have az:=hg.2;simp only[m8,o6,simprocAttr,X,U,l5,N,E,ay,az,o];refine C0 (λb=>o7 j.drew b) 16 (A5 [0,1,2,3,4,5,6,7,8,9,10,11,12,13,14,15]) ?_;simp only[D6,A5,m8,o6,y0,simprocAttr,U,X,t3,t4,t5,ab,o];refine B9 (aP5 (U3 ag.x) ag.x sa (B+S2) j.drew (dO0 _) (af.mono (b7 g))) (λw6 c=>⟨c,?_⟩);simp only[D6,m8,simprocAttr];refine E0 (T2 ag.name (B+S2+U3 ag.x) w6) ⟨c,?_⟩;simp only[D6,m8,simprocAttr];simp only[m8,o6,simprocAttr,X];exact⟨k+1,by omega,dO2 _ (B0 k (by omega)),by rw[y];unfold an3;rw[<-dW3,<-dW3],by omega,F.trans ((o7.drew j).trans c)⟩
def cG2(v:Value)(p:Pg)(w:World)(hv:SV (i4 w) v p):p7 prog 14 #[v] w λu C=>(u = .bool (decide (C5 p<=20000))/\o7 w C):=by
 refine p9 [v] func14 rfl ?_;obtain⟨c,w1,ay,af,W⟩:=X5 hv (i5 _);obtain⟨vg,vp,aD,z,ah,_⟩:=W.pg;have l1:=ah w1 (i5 _);have M:=z.isS;have E:=z.vlen;have s:∀m:Nat,M1 m=M1 (C5 p)->decide (M1 m<=20000)=decide (C5 p<=20000):=λm e=>by
  rw[e,dR5];unfold M1;omega
 have T:C5 p=aA3 p.globals+G1 X3 p.procs:=by unfold C5;rw[bI3]
 simp only[m8,o6,simprocAttr,ay,l1];have au:Value.int IntKind.i64 0 = .int .i64 (M1 0):=rfl;rw[au];refine E0 (ai1 vg p.globals 0 w1 aD) ?_;rw[dQ2];generalize aA3 p.globals=G at T;generalize p.procs=l at z E T;rw[T]at s ⊢;simp only[m8,simprocAttr];refine n9 [1] (σ:=Nat) (λi f C=>f 4 = .int .i64 i/\f 3 = .int .i64 (M1 (G+G1 X3 (l.take i)))/\i<=l.length/\o7 w1 C) (λi=>l.length-i) 0 ?_ ?_
 ·simp only[p8,simprocAttr];exact⟨by trivial,by simp[G1],dN6 _,o9.refl _⟩
 rintro i f w2 Z ⟨h4,V,aU,j⟩;simp only[dM6,p8,simprocAttr]at Z;obtain⟨e1,_⟩:=Z;have l2:=ah w2 (b7 j);rcases dM5 (decide ((i:Int)<(l.length:Int)))with hc|hc;rotate_left
 ·have N:i=l.length:=by have:=dN2 hc;omega
  subst N;rw[dN8]at V;have hr:=s _ rfl;simp only[m8,o6,simprocAttr,h4,e1,l2,M,E,hc,V,hr];exact o8 results14 ⟨rfl,af.trans j⟩
 have Q:i<l.length:=by have:=dM8 hc;omega
 have ab:=az8 (f:=X3) l i;have R:=aj9 (f:=X3) Q;have ad:=aj8 cV9 (l.take i);rw[dN9]at ad;rcases dM5 (decide (M1 (G+G1 X3 (l.take i))<=20000))with h2|h2;rotate_left
 ·have av:=dN2 h2;have e:=ai7 (m:=G+G1 X3 l) av (by omega);have hr:=s _ (by rw[e.1,e.2]:M1 (G+G1 X3 (l.take i))=M1 (G+G1 X3 l));rw[hr]at h2;simp only[m8,o6,simprocAttr,h4,e1,l2,M,E,hc,V,hr,h2];exact o8 results14 ⟨rfl,af.trans j⟩
 obtain⟨_,ac⟩:=ar4 (dM8 h2);have aA:=z.inS Q;obtain⟨sv,ae,aa⟩:=F9 (P:=prog) (t:=75) z (b7 j) (dM4 Q) av8 av9 at7 R2;rw[R2]at aa;generalize l[i]=q at ae R;generalize G1 X3 (l.take i)=S at V R ab ad h2 ac;obtain⟨d,wz,A,aw,aB,aE,ax⟩:=aN7 (ae.mono (b7 j)) (i5 _);have ag:=j.trans aE;obtain⟨a0,aL,ak,aK,r,aC,X,az,aI,aJ⟩:=ax.pr;have t1:=aJ (λC=>o7 A.drew C) A.drew (o9.refl _) λC h=>b7 ((o7.drew A).trans h);simp only[m8,o6,y0,simprocAttr,h4,e1,l2,M,E,hc,V,h2,aA,aa,aw,aB];refine C0 (λC=>o7 A.drew C) 11 (A5 [0,1,2,3,4,5,6,7,8,9,10]) ?_;simp only[D6,A5,m8,o6,simprocAttr,t1,V];refine E0 (T2 q.name (G+S) A.drew) ⟨o9.refl _,?_⟩;simp only[D6,m8,simprocAttr];refine E0 (ai1 aL q.vars (G+S+wtT q.name) A.drew (A4.mono (b7 (o7.drew A)) aC)) ⟨o9.refl _,?_⟩;simp only[D6,m8,simprocAttr];refine E0 (ai1 aK q.fin (G+S+wtT q.name+aA3 q.vars) A.drew (A4.mono (b7 (o7.drew A)) az)) ⟨o9.refl _,?_⟩;generalize hB:G+S+wtT q.name+aA3 q.vars+aA3 q.fin=B;have K:G+G1 X3 (l.take (i+1))=B+G1 (λa:Pa=>wtT a.name) q.params+I1 q.body:=by
  rw[R,<-hB];unfold X3;rw[bI2];omega
 have L:=r.isS;have D:=r.vlen;generalize q.params=b at r D K;simp only[D6,m8,simprocAttr];refine n9 [1,4,5] (σ:=Nat) (λk f' C=>f' 6 = .int .i64 k/\f' 3 = .int .i64 (M1 (B+G1 (λa:Pa=>wtT a.name) (b.take k)))/\k<=b.length/\o7 A C) (λk=>b.length-k) 0 ?_ ?_
 ·simp only[p8,simprocAttr];exact⟨by trivial,by simp[G1],dN6 _,o7.drew A⟩
 rintro k f2 w5 Z ⟨h6,g,aV,n⟩;simp only[dM6,p8,simprocAttr]at Z;obtain⟨g1,g4,g5,_⟩:=Z;rw[h4]at g4;have l5:=aI w5 (b7 n);have J:=ag.trans n;have aP:=az8 (f:=λa:Pa=>wtT a.name) b k;have H:(decide ((k:Int)<(b.length:Int))&&decide (M1 (B+G1 (λa:Pa=>wtT a.name) (b.take k))<=20000))=false->M1 (B+G1 (λa:Pa=>wtT a.name) (b.take k))=M1 (B+G1 (λa:Pa=>wtT a.name) b):=λhg=>by
  rcases dM5 (decide ((k:Int)<(b.length:Int)))with h|h
  ·rw[h,dT7]at hg;have e:=ai7 (m:=B+G1 (λa:Pa=>wtT a.name) b) (dN2 hg) (by omega);rw[e.1,e.2]
  ·have N:k=b.length:=by have:=dN2 h;omega
   rw[N,dN8]
 rcases dM5 (decide ((k:Int)<(b.length:Int)))with h7|h7;rotate_left
 ·rw[H (by rw[h7];rfl)]at g;simp only[m8,o6,simprocAttr,h6,g5,l5,L,D,h7,g];refine B9 (aK5 (I1 q.body) q.body ak (B+G1 (λa:Pa=>wtT a.name) b) w5 (dO0 _) (A4.mono (b7 n) X)) (λw6 U=>?_);simp only[m8,o6,simprocAttr,g4];exact⟨i+1,by omega,dO2 _ (B0 i (by omega)),by rw[K],by omega,J.trans U⟩
 rcases dM5 (decide (M1 (B+G1 (λa:Pa=>wtT a.name) (b.take k))<=20000))with h8|h8;rotate_left
 ·have he:=H (by rw[h7,h8];rfl);rw[he]at g h8;simp only[m8,o6,simprocAttr,h6,g5,l5,L,D,h7,h8,g];refine B9 (aK5 (I1 q.body) q.body ak (B+G1 (λa:Pa=>wtT a.name) b) w5 (dO0 _) (A4.mono (b7 n) X)) (λw6 U=>?_);simp only[m8,o6,simprocAttr,g4];exact⟨i+1,by omega,dO2 _ (B0 i (by omega)),by rw[K],by omega,J.trans U⟩
 have o:k<b.length:=by have:=dM8 h7;omega
 obtain⟨_,O⟩:=ar4 (dM8 h8);have y:=aj9 (f:=λa:Pa=>wtT a.name) o;have I:=aj8 (f:=λa:Pa=>wtT a.name) (λa=>aO1 _) (b.take k);rw[dN9]at I;have Y:=r.inS o;have F:=r.at_ (i:=k) (x:=b[k]) (dM4 o);have aF:A4.sz Pa=2:=rfl;rw[aF]at F;obtain⟨aj,_⟩:=F.pa;have l6:=aj w5 (b7 n);generalize b[k]=pa at y l6;generalize G1 (λa:Pa=>wtT a.name) (b.take k)=S2 at g y O I h8;simp only[m8,o6,y0,simprocAttr,h6,g5,l5,L,D,h7,h8,g,Y,l6];refine E0 (T2 pa.name (B+S2) w5) ?_;simp only[m8,o6,simprocAttr,h6];exact⟨k+1,by omega,dO2 _ (B0 k (by omega)),by rw[y,<-dW3],by omega,n⟩
def di9(x y:Vx)(w:World):p7 prog 87 #[.agg (A0.cells x).toArray,.agg (A0.cells y).toArray] w λu k=>(u = .bool (aW0 x y)/\o7 w k):=by
 refine p9 [.agg (A0.cells x).toArray,.agg (A0.cells y).toArray] func87 rfl ?_;obtain⟨m,l,a,i,c⟩:=bJ6 (SV.ofN (i4 w) x) (i5 _);obtain⟨n,j,b,e,d⟩:=bJ6 (SV.ofN (i4 l) y) (i5 _);have g:=c.vx.1 j (b7 e);have h:=d.vx.1 j (i5 _);have f:=i.trans e;unfold aW0;rcases dM5 (decide (x.proc=y.proc))with h1|h1;rotate_left
 ·rw[if_pos (dN2 h1)];simp only[m8,o6,simprocAttr,a,b,g,h,h1];exact o8 results87 ⟨rfl,f⟩
 rw[if_neg (by simpa using dM8 h1)];rcases dM5 (decide (x.kind=y.kind))with h2|h2;rotate_left
 ·rw[if_pos (dN2 h2)];simp only[m8,o6,simprocAttr,a,b,g,h,h1,h2];exact o8 results87 ⟨rfl,f⟩
 rw[if_neg (by simpa using dM8 h2)];rcases dM5 (decide (x.id=y.id))with h3|h3;rotate_left
 ·rw[if_pos (dN2 h3)];simp only[m8,o6,simprocAttr,a,b,g,h,h1,h2,h3];exact o8 results87 ⟨rfl,f⟩
 rw[if_neg (by simpa using dM8 h3)];simp only[m8,o6,simprocAttr,a,b,g,h,h1,h2,h3];exact o8 results87 ⟨rfl,f⟩
def bG1(v:Value)(l:List Vx)(x:Vx)(w:World)(hv:R (i4 w) v l)(hl:l.length<=1000000000):
  p7 prog 22 #[v,.agg (A0.cells x).toArray] w λu d=>(u = .bool (l.contains x)/\o7 w d):=by
 refine p9 [v,.agg (A0.cells x).toArray] func22 rfl ?_;have S:=hv.isS;have U:=hv.vlen;obtain⟨Y,X,C,k,o⟩:=bJ6 (SV.ofN (i4 w) x) (i5 _);obtain⟨V,z,_,K⟩:=o.vx_v;obtain rfl:=z.N;simp only[m8,o6,simprocAttr,C,S,U];refine n9 [0,3,6,7] (σ:=Nat) (λi f d=>f 8 = .int .i64 i/\i<=l.length/\(∀j y,j<i->l[j]?=some y->y≠x)/\o7 X d) (λi=>l.length-i) 0 ?_ ?_
 ·simp only[p8,simprocAttr];exact⟨by trivial,dN6 _,λj _ h=>by omega,o9.refl _⟩
 rintro i f m N ⟨B,T,r,A⟩;simp only[dM6,p8,simprocAttr]at N;obtain⟨e0,M,Z,Q,_⟩:=N;simp only[m8,o6,simprocAttr,B,Q];refine n7 (λD=>?_) (λD=>?_);rotate_left
 ·have E:i=l.length:=by simp at D;omega
  subst E;simp only[m8,simprocAttr];refine o8 results22 ?_;simp only[p8,simprocAttr];refine⟨?_,k.trans A⟩;have:l.contains x=false:=by
   rw[dX7];intro h;obtain⟨j,F⟩:=dV3.1 (dO5.1 h);exact r j x (dM9.1 F).1 F rfl
  rw[this]
 have g:i<l.length:=by simpa using D
 have p:=hv.inS g;have c:=A.trans (o7.drew m);have n:=hv.at_ (i:=i) (x:=l[i]) (dM4 g);have J:A4.sz Vx=4:=rfl;rw[J]at n;obtain⟨sv,H,_,L⟩:=n.vx_v;obtain rfl:=H.N;have O:=L (λd=>o7 m.drew d) m.drew (o9.refl _) λd h=>b7 (k.trans (c.trans h));have P:=K (λd=>o7 m.drew d) m.drew (o9.refl _) λd h=>b7 (c.trans h);have t:=λW a b=>cK6 W a b l[i] x;have q:l[i]=x->l.contains x=true:=λe=>dO5.2 (e ▸ dN5 g);have s:l[i]≠x->∀j y,j<i+1->l[j]?=some y->y≠x:=λG j y F I=>by
  rcases dQ7 j i with h|h
  ·exact r j y h I
  ·obtain rfl:j=i:=by omega
   rw[dM4 g]at I;obtain rfl:=dO3 I;exact G
 rcases dM5 (decide (l[i]=x))with hq|hq
 ·simp only[m8,simprocAttr,B];refine C0 (λd=>o7 m.drew d) 5 (A5 [0,1,2,3,4]) ?_;simp only[D6,A5,m8,o6,y0,simprocAttr,e0,M,p,O,P];simp only[m8,simprocAttr,ac3,A0.cells,t,hq];refine o8 results22 ?_;simp only[p8,simprocAttr];exact⟨by rw[q (dM8 hq)],k.trans c⟩
 ·simp only[m8,simprocAttr,B];refine C0 (λd=>o7 m.drew d) 5 (A5 [0,1,2,3,4]) ?_;simp only[D6,A5,m8,o6,y0,simprocAttr,e0,M,p,O,P];simp only[m8,o6,simprocAttr,ac3,A0.cells,t,hq,B];exact⟨i+1,by omega,dO2 _ (B0 i (by omega)),by omega,s (dN2 hq),c⟩
def di8(I J:Value)(b l:List Vx)(w:World)(z:R (i4 w) I b)(hb:R (i4 w) J l)(Z:b.length<=1000000000):
  p7 prog 25 #[I,J] w λu a=>(u = .bool (decide (b=l))/\o7 w a):=by
 refine p9 [I,J] func25 rfl ?_;have p:=z.isS;have t:=z.vlen;have q:=hb.isS;have v:=hb.vlen;rcases dM5 (decide ((b.length:Int)=(l.length:Int)))with h0|h0;rotate_left
 ·simp only[m8,o6,simprocAttr,p,t,q,v,h0];refine o8 results25 ?_;simp only[p8,simprocAttr];refine⟨?_,o9.refl _⟩;rw[dW8 λe=>dN2 h0 (by rw[e])]
 have N:b.length=l.length:=by have:=dM8 h0;omega
 simp only[m8,o6,simprocAttr,p,t,q,v,h0];refine n9 [0,1,11,12] (σ:=Nat) (λk f a=>f 13 = .int .i64 k/\k<=b.length/\(∀j,j<k->b[j]?=l[j]?)/\o7 w a) (λk=>b.length-k) 0 ?_ ?_
 ·simp only[p8,simprocAttr];exact⟨by trivial,dN6 _,λj h=>by omega,o9.refl _⟩
 rintro k f m M ⟨n,U,i,O⟩;simp only[dM6,p8,simprocAttr]at M;obtain⟨e0,Q,T,A,_⟩:=M;simp only[m8,o6,simprocAttr,n,A];refine n7 (λB=>?_) (λB=>?_);rotate_left
 ·have C:k=b.length:=by simp at B;omega
  subst C;simp only[m8,simprocAttr];refine o8 results25 ?_;simp only[p8,simprocAttr];refine⟨?_,O⟩;rw[dV2 (dZ5 λj=>?_)];rcases dQ7 j b.length with h|h
  ·exact i j h
  ·rw[dV0 h,dV0 (by omega)]
 have o:k<b.length:=by simpa using B
 have c:k<l.length:=by omega
 have r:=z.inS o;have s:=hb.inS c;have g:=O.trans (o7.drew m);have F:A4.sz Vx=4:=rfl;obtain⟨ux,D,_,W⟩:=(z.at_ (dM4 o)).vx_v;obtain⟨uy,E,_,X⟩:=(hb.at_ (dM4 c)).vx_v;obtain rfl:=D.N;obtain rfl:=E.N;have G:=W (λa=>o7 m.drew a) m.drew (o9.refl _) λa h=>b7 (g.trans h);have H:=X (λa=>o7 m.drew a) m.drew (o9.refl _) λa h=>b7 (g.trans h);rw[F]at G H;simp only[A0.cells]at G H;have V:=λ(x y:Operand) K f d L=>B7 (P:=prog) (S:=λa=>o7 m.drew a) (K:=K) (f:=f) (d:=d) (w:=L) (w0:=m.drew) (o9.refl _) λa h=>dn5 a x y b[k] l[k];simp only[m8,simprocAttr,n];refine C0 (λa=>o7 m.drew a) 9 (A5 [0,1,2,3,4,5,6,7,8]) ?_;simp only[D6,A5,m8,o6,y0,simprocAttr,e0,Q,r,s,G,H,ac3,V];rcases dM5 (decide (b[k]=l[k]))with hq|hq
 ·simp only[m8,o6,simprocAttr,hq,n];refine⟨k+1,by omega,dO2 _ (B0 k (by omega)),by omega,λj Y=>?_,g⟩;rcases dQ7 j k with h|h
  ·exact i j h
  ·obtain rfl:j=k:=by omega
   rw[dM4 o,dM4 c,dM8 hq]
 ·simp only[m8,o6,simprocAttr,hq];refine o8 results25 ?_;simp only[p8,simprocAttr];refine⟨?_,g⟩;rw[dW8 λe=>dN2 hq (by simp only[e])]
def bv0(l:List Vx)(n:Int):Vx:=l.getD (ci2 n l.length).toNat aP7
def bY6{l:List Vx}(h:0<l.length)(n:Int):bv0 l n∈l:=by
 obtain⟨N,b,a⟩:=bX0 n l.length h;unfold bv0;rw[b,dP0,List.getD,dM4 a];exact dN5 a
def bj7(v:Value)(l:List Vx)(n:Int)(w:World)(hv:R (i4 w) v l)(t:l.length<=1000000000):
  p7 prog 17 #[v,.int .i64 n] w λu r=>(u = .agg (A0.cells (bv0 l n)).toArray/\o7 w r):=by
 refine p9 [v,.int .i64 n] func17 rfl ?_;obtain⟨m,d,i,a⟩:=cR1 w;have o:=hv.isS;have p:=hv.vlen;rcases dM5 (decide ((l.length:Int)=0))with h0|h0
 ·have g:l=[]:=List.length_eq_zero_iff.1 (by have:=dM8 h0;omega);obtain⟨s,j,k,c⟩:=a m aP7 (o9.refl _);simp only[m8,o6,simprocAttr,d,o,p,h0,bb5,j];refine M7 results17 (ad:=⟨w.heap.size,0,none⟩) (by simp only[p8,simprocAttr]) k ?_;refine⟨?_,c⟩;subst g;rfl
 have e:0<l.length:=by have:=dN2 h0;omega
 obtain⟨N,hN,b⟩:=bX0 n l.length e;have f:=hv.inS b;have h:=cN7 hv (b7 i) (dM4 b);obtain⟨s,j,k,c⟩:=a m l[N] (o9.refl _);have q:bv0 l n=l[N]:=by
  unfold bv0;rw[hN,dP0,List.getD,dM4 b];rfl
 simp only[m8,o6,simprocAttr,d,o,p,h0];refine E0 (dc3 n l.length m (by omega)) ?_;rw[hN];simp only[m8,o6,y0,simprocAttr,f,h,j];refine M7 results17 (ad:=⟨w.heap.size,0,none⟩) (by simp only[p8,simprocAttr]) k ?_;exact⟨by rw[q],c⟩
def cH4{α:Type}[A4 α][A0 α]{w:World}{c:Nat}{T:TypeId}{x:α}(a:w.heap[c]?=some (.cells (A0.cells x).toArray T (0,0))):At (i4 w) ⟨c,0,none⟩ x:=
 ⟨A0.cells x,(A0.iff_ _ _ _).2 rfl,λj u b=>by
  rw[add_lit,<-ak4,dQ2,dU3 w c j _ T (0,0) a];simpa using b⟩
def vx2(x y:Vx)(w:World):∃a b e i j g,(Instr.alloc 26 true (.tuple #[])).run prog w = .ok (.pointer (some a)) e/\(Instr.alloc 26 true (.tuple #[])).run prog e = .ok (.pointer (some b)) i /\
  (Instr.storeAt 26 (.pointer (some a)) (.agg (A0.cells x).toArray)).run prog i = .ok () j/\(Instr.storeAt 26 (.pointer (some b)) (.agg (A0.cells y).toArray)).run prog j = .ok () g/\o7 w g/\At (i4 g) a x/\At (i4 g) b y:=by
 obtain⟨z,h,d⟩:∃z,G8 prog 26=some z/\z.cells.size=L9 prog 26:=⟨_,bl3,by rw[O9];rfl⟩;have c:∀y:Vx,(A0.cells y).toArray.size=L9 prog 26:=λy=>by rw[O9];rfl
 have s:=(aJ0 (P:=prog) (w:=w) (T:=26) h d (cs:=(A0.cells x).toArray) (c _) (λu f=>W1 _ u (by simpa using f))).1;have r:=o7.alloc w (.cells z.cells 26);have k:=dQ5 w (.cells z.cells 26);generalize w.alloc (.cells z.cells 26)=e at s r k;have t:=(aJ0 (P:=prog) (w:=e) (T:=26) h d (cs:=(A0.cells x).toArray) (c _) (λu f=>W1 _ u (by simpa using f))).1;have o:=o7.alloc e (.cells z.cells 26);have m:=dQ5 e (.cells z.cells 26);generalize e.alloc (.cells z.cells 26)=i at t o m;have p:w.heap.size<e.heap.size:=(dN0.1 k).1;have l:=(o.block _ p id).trans k;obtain⟨j,D,v,A⟩:=ak3 (P:=prog) (T:=26) l h d (c x) (λu f=>W1 x u (by simpa using f));have n:=(A.block _ (dN0.1 m).1 (by omega)).trans m;obtain⟨g,E,F,B⟩:=ak3 (P:=prog) (T:=26) n h d (c y) (λu f=>W1 y u (by simpa using f));have q:=(B.block _ (dN0.1 v).1 (by omega)).trans v;exact⟨_,_,e,i,j,g,s,t,D,E,o9.ext_of (o9.ext_of (r.trans o) A λb C=>by omega) B λb C=>by omega,cH4 q,cH4 F⟩
def bX7{p:Pg}(a:D4 p)(hw:C5 p<=1000000){v:Vx}(hv:v∈(d9 p).wv):∃l,P7 (d9 p).wv [v]=some l:=by
 obtain⟨l,h,_⟩:=ck0 (vs:=[v]) a hw (by simpa using hv);exact⟨l,h⟩
def cY1{p:Pg}(a:I5 p=true){vs:List Vx}{l:List Int}(h:P7 (d9 p).wv vs=some l):ar3 p vs=(J4 (d9 p).wv ((d9 p).backB l),0):=by
 unfold ar3;rw[if_neg (by rw[a];simp),h]
def da9{p:Pg}(a:I5 p=true){vs:List Vx}{l:List Int}(h:P7 (d9 p).wv vs=some l):ay1 p vs=(J4 (d9 p).wv ((d9 p).forwB l),0):=by
 unfold ay1;rw[if_neg (by rw[a];simp),h]
def bb1(v:Value)(p:Pg)(i k:Int)(w:World)(hv:SV (i4 w) v p):p7 prog 5 #[v,.int .i64 i,.int .i64 k] w λu o=>(u = .bool true/\o7 w o):=by
 refine p9 [v,.int .i64 i,.int .i64 k] func5 rfl ?_;obtain⟨c,w1,af,y,H⟩:=X5 hv (i5 _);obtain⟨Z,f,a,_⟩:=H.pg_v;simp only[m8,o6,simprocAttr,af];refine B9 (ck1 w1) (λw2 z=>?_);have l2:=a w2 (b7 z);simp only[m8,o6,simprocAttr,l2];refine B9 (cG2 Z p w2 (f.mono (b7 z))) (λw3 aj=>?_);have b:=z.trans aj;rcases dM5 (decide (C5 p<=20000))with h1|h1;rotate_left
 ·simp only[m8,o6,simprocAttr,h1];exact o8 results5 ⟨rfl,y.trans b⟩
 have r:C5 p<=1000000:=dN1 (dM8 h1) (by decide);have l3:=a w3 (b7 b);simp only[m8,o6,simprocAttr,h1,l3];refine B9 (ca5 Z 25 w3 (f.mono (b7 b)) r) (λw4 ak=>?_);have d:=b.trans ak;rcases dM5 (I5 p&&decide (((bS1 p:Nat):Int)<=25))with h2|h2;rotate_left
 ·simp only[m8,o6,simprocAttr,h2];exact o8 results5 ⟨rfl,y.trans d⟩
 have hR:I5 p=true:=by rw[dO8]at h2;exact h2.1
 have O:=N3 hR;have aB:=aK7 O r;have q:=aw9 O.toKnown;have l4:=a w4 (b7 d);simp only[m8,o6,simprocAttr,h2,l4];refine y5 (bm1 Z w4 (f.mono (b7 d)) r) ?_;rintro uv w5 ⟨B,al⟩;rw[if_pos hR]at B;have R:=d.trans al;simp only[m8,simprocAttr];refine B9 (bj7 uv (d9 p).wv i w5 B (by omega)) (λw6 U=>?_);simp only[m8,simprocAttr];refine B9 (bj7 uv (d9 p).wv k w6 (A4.mono (b7 U) B) (by omega)) (λw7 am=>?_);have K:=bY6 q i;have L:=bY6 q k;generalize bv0 (d9 p).wv i=V at K;generalize bv0 (d9 p).wv k=W at L;obtain⟨dv,dw,wz,wa,wb,w8,D,E,P,Q,an,F,G⟩:=vx2 V W w7;obtain⟨uV,hV,ar,ax⟩:=F.vx_v;obtain rfl:=hV.N;obtain⟨uW,hW,au,ay⟩:=G.vx_v;obtain rfl:=hW.N;have g:=((R.trans U).trans am).trans an;have l8:=a w8 (b7 g);have aw:=au w8 (i5 _);obtain⟨u9,w9,q9,r9,X⟩:=bm9 W w8;obtain⟨lW,N⟩:=bX7 O r L;obtain⟨lV,M⟩:=bX7 O r K;have ae:=cY1 hR N;have ah:=da9 hR M;have e:=bO1 O r N M;simp only[m8,simprocAttr,D,E,P,Q,l8,aw,q9];refine y5 (av4 Z u9 [W] w9 (f.mono (b7 (g.trans X))) r r9 (by simp)) ?_;rintro _ wA ⟨ub,rfl,rb,t,ao⟩;have l:=X.trans ao;have j:=g.trans l;have lA:=a wA (b7 j);have av:=ar wA (b7 l);obtain⟨uB,wB,qB,rB,Y⟩:=bm9 V wA;simp only[m8,simprocAttr,lA,av,qB];refine y5 (az7 Z uB [V] wB (f.mono (b7 (j.trans Y))) r rB (by simp)) ?_;rintro _ n ⟨uf,rfl,rf,x,ap⟩;have m:=Y.trans ap;have s:=l.trans m;have S:=j.trans m;rw[ae]at rb t;rw[ah]at rf x;simp only[]at rb rf t x;generalize J4 (d9 p).wv ((d9 p).backB lW)=LB at rb t e;generalize J4 (d9 p).wv ((d9 p).forwB lV)=C at rf x e;have I:LB.length<=1000000000:=by omega
 have J:C.length<=1000000000:=by omega
 have t1:=ax (λo=>o7 n.drew o) n.drew (o9.refl _) λo h=>b7 ((s.trans (o7.drew n)).trans h);have t2:=ay (λo=>o7 n.drew o) n.drew (o9.refl _) λo h=>b7 ((s.trans (o7.drew n)).trans h);have T:=S.trans (o7.drew n);have ag:LB.contains V=C.contains W:=by rw[dY0,dO5,dO5];exact e
 simp only[m8,simprocAttr];refine C0 (λo=>o7 n.drew o) 5 (A5 [0,1,3,4,2]) ?_;simp only[D6,A5,m8,simprocAttr,t1,t2];refine B9 (bG1 ub LB V n.drew (A4.mono (b7 (m.trans (o7.drew n))) rb) I) (λwE A=>⟨A,?_⟩);simp only[D6,m8,simprocAttr];refine B9 (bG1 uf C W wE (A4.mono (b7 ((o7.drew n).trans A)) rf) J) (λwF aq=>?_);rw[ag];have aI:decide (C.contains W=C.contains W)=true:=dV2 rfl;simp only[m8,simprocAttr,cY2];refine o8 results5 ?_;simp only[p8,simprocAttr];exact⟨by rw[beq_self_eq_true],((y.trans T).trans A).trans aq⟩
end Go.Proofs.YtfadjbljajfkfaaGreat
