/- What the functions of the program do, for every input; plain facts. No condition, no statement of its own. Part 6. -/
import Derived.Ground.Names2Prog
import Derived.Ground.NamesProg
import Derived.Lib.SlicesCompact
import Derived.Shelf.Slices.CompactI
import Derived.Shelf.Slices.In.SortNone
import Derived.Shelf.Sort.Plain
import Derived.Test.YtggahhenbbgffaaGreatProg
import Derived.Test.YtggahhenbbgffaaGreatZ5
set_option maxRecDepth 1000000
set_option maxHeartbeats 8000000
set_option linter.unusedVariables false
set_option linter.unusedSimpArgs false
set_option linter.unnecessarySimpa false
set_option linter.defProp false
namespace Go.Proofs.YtggahhenbbgffaaGreat
open Go Tryz
section
variable {w1 w:World} {g r:Nat} {ab:Addr} {vP:Value} {x:WX} {c:WC}
def WS.pushE(s:WS w1 w g r ab vP x c)(y:Eg)(F:c.E.length<=999999999999){e:TypeId}:
  (Instr.buildSlice 54 1 #[(0,.agg (p8.cells y).toArray)]).run prog w = .ok (.slice (some ⟨w.heap.size,0,none⟩) 1 1) (w.alloc (.cells (p8.cells y).toArray 66)) /\
  (∀d,o8 (A0 x.vE) w d->(Instr.loadAt 54 (.pointer (some ⟨g,3,none⟩))).run prog d = .ok x.vE d) /\
  ∃f d a,(Builtin.append_ #[54,54] e #[x.vE,.slice (some ⟨w.heap.size,0,none⟩) 1 1]).run prog (w.alloc (.cells (p8.cells y).toArray 66)) = .ok f d/\(Instr.storeAt 54 (.pointer (some ⟨g,3,none⟩)) f).run prog d = .ok () a /\
   WS w1 a g r ab vP {x with vE:=f} {c with E:=c.E++[y]}/\o8 (A0 x.vE) w d/\o8 (λb=>U0 g r x 0 b\/U0 g r x 3 b) w a/\∀j b,U0 g r {x with vE:=f} j b->U0 g r x j b\/w.heap.size<=b:=by
 obtain⟨u,k,n⟩:=ci9;obtain⟨v,f,d,z,A,o,q⟩:=push (P:=prog) (t:=54) (e:=e) bT1 rfl s.oE (x:=.agg (p8.cells y).toArray) (y:=y) ((p8.iff_ _ _ _).2 rfl) (by omega) (by omega) (S8 _);have m:=λ(p:World) (l:o8 (A0 x.vE) w p)=>(l.block g (s.lt (i:=0) rfl) (s.off (i:=0) (j:=3) (by decide) rfl)).trans s.cb;obtain⟨a,B,C,D⟩:=s.putE o A q k n;refine⟨v,λp l=>E7 (m p l) rfl bj4,f,d,a,z,B,C,o,(o.weaken λ_ _ h=>.inr h).trans (D.weaken λ_ _ h=>.inl h),λj b h=>?_⟩
 match j,h with
 | 0,h=>exact .inl h
 | 1,h=>exact .inl h
 | 2,h=>exact .inl h
 | 3,h=>exact q b h
 | 4,h=>exact .inl h
 | 5,h=>exact .inl h
 | 6,h=>exact .inl h
 | _+7,h=>exact h.elim
def WS.pushS(s:WS w1 w g r ab vP x c)(y:Eg)(E:c.S.length<=999999999999){e:TypeId}:
  (Instr.buildSlice 54 1 #[(0,.agg (p8.cells y).toArray)]).run prog w = .ok (.slice (some ⟨w.heap.size,0,none⟩) 1 1) (w.alloc (.cells (p8.cells y).toArray 66)) /\
  (∀d,o8 (A0 x.vS) w d->(Instr.loadAt 54 (.pointer (some ⟨g,4,none⟩))).run prog d = .ok x.vS d) /\
  ∃f d a,(Builtin.append_ #[54,54] e #[x.vS,.slice (some ⟨w.heap.size,0,none⟩) 1 1]).run prog (w.alloc (.cells (p8.cells y).toArray 66)) = .ok f d/\(Instr.storeAt 54 (.pointer (some ⟨g,4,none⟩)) f).run prog d = .ok () a /\
   WS w1 a g r ab vP {x with vS:=f} {c with S:=c.S++[y]}/\o8 (A0 x.vS) w d/\o8 (λb=>U0 g r x 0 b\/U0 g r x 4 b) w a/\∀j b,U0 g r {x with vS:=f} j b->U0 g r x j b\/w.heap.size<=b:=by
 obtain⟨u,k,n⟩:=ci9;obtain⟨v,f,d,z,A,o,q⟩:=push (P:=prog) (t:=54) (e:=e) bT1 rfl s.oS (x:=.agg (p8.cells y).toArray) (y:=y) ((p8.iff_ _ _ _).2 rfl) (by omega) (by omega) (S8 _);have m:=λ(p:World) (l:o8 (A0 x.vS) w p)=>(l.block g (s.lt (i:=0) rfl) (s.off (i:=0) (j:=4) (by decide) rfl)).trans s.cb;obtain⟨a,B,C,D⟩:=s.putS o A q k n;refine⟨v,λp l=>E7 (m p l) rfl bj4,f,d,a,z,B,C,o,(o.weaken λ_ _ h=>.inr h).trans (D.weaken λ_ _ h=>.inl h),λj b h=>?_⟩
 match j,h with
 | 0,h=>exact .inl h
 | 1,h=>exact .inl h
 | 2,h=>exact .inl h
 | 3,h=>exact .inl h
 | 4,h=>exact q b h
 | 5,h=>exact .inl h
 | 6,h=>exact .inl h
 | _+7,h=>exact h.elim
def cN3(q:A9)(k:Int):B6 prog 26 [(0,p6 q),(1,.int .i64 k)]=some (.agg (p8.cells (⟨q,k,0,e0⟩:Vx)).toArray):=by
 have h:p8.cells (⟨q,k,0,e0⟩:Vx)=[p6 q,.int .i64 k,.int .i64 0,p6 e0]:=rfl;rw[h];simp[B6,bJ4,J9,Instr.fill,Value.cells,p6,e0];rfl
def cN4(q:A9)(k:Int)(n:A9):B6 prog 26 [(0,p6 q),(1,.int .i64 k),(3,p6 n)]=some (.agg (p8.cells (⟨q,k,0,n⟩:Vx)).toArray):=by
 have h:p8.cells (⟨q,k,0,n⟩:Vx)=[p6 q,.int .i64 k,.int .i64 0,p6 n]:=rfl;rw[h];simp[B6,bJ4,J9,Instr.fill,Value.cells,p6]
def cc6(g r:Nat)(x:WX)(b:Nat):Prop:=∃i,U0 g r x i b
def cW2{p:Pg}(s:WS w1 w g r ab vP x c)(hb:At (m8 w1) ab (i4 p))(hr:D3 p)(hw:B7 p<=1000000)(aD:∀v∈c.V,v.id=0\/(1<=v.id/\v.id<=(d9 p).l.length))(hn:c.V.length<=1000000)(hE:c.E.length<=1000000000):
  o9 prog 78 #[.pointer (some ⟨g,0,none⟩)] w λ_ a=>(∃Y,WS w1 a g r ab vP {x with vE:=Y} {c with E:=c.E++c.V.flatMap (i4 p).joinOf}):=by
 refine p9 [.pointer (some ⟨g,0,none⟩)] func78 rfl ?_;obtain⟨sh,_,_,_,_,_,has,_,_,_,_,_,a7,aS⟩:=hb.book rfl;obtain⟨vl,_,_,al,_,_,_,a8,aT⟩:=has.sh;have lV:=s.ld (i:=2) (u:=x.vV) rfl ab9;have aB:=s.oV.isS;have aG:=s.oV.vlen;have aW:=H7 hr.may;simp only[i5,n9,simprocAttr,lV,aB,aG];refine A6 [0,8,9] (σ:=Nat×Value) (λt f a=>f 10 = .int .i64 t.1/\t.1<=c.V.length/\WS w1 a g r ab vP {x with vE:=t.2} {c with E:=c.E++(c.V.take t.1).flatMap (i4 p).joinOf}) (λt=>c.V.length-t.1) (0,x.vE) ?_ ?_
 .simp only[B3,simprocAttr];exact⟨by trivial,eg3 _,by simpa using s⟩
 rintro⟨k,n⟩ f w2 ⟨Z,k8,k9,_⟩ ⟨o,aF,X⟩;simp only at o aF X;simp only[i5,n9,simprocAttr,o,k9];refine y5 (λF=>?_) ?_;rotate_left
 .rintro rfl;rw[eg4]at X;simp only[i5,simprocAttr];refine bS5 results78 ?_;exact⟨n,X⟩
 have hV:=X.rV;simp only at hV;have T:=hV.inS F;obtain⟨sv,ah,D⟩:=F5 (P:=prog) (t:=26) hV (n7 _) (ef1 F) ar8 as0 am4 N6;rw[N6]at D;have aj:=I9 (i4 p).joinOf c.V F;have J:=aD _ (eg2 F);generalize c.V[k]=y at ah aj J;obtain rfl:=ah.N;obtain⟨a3,wz,w3,O,W,aJ,ad⟩:=ap9 (w:=w2) (cc6 g r {x with vE:=n}) (SV.ofN (m8 w2) y) λb ⟨i,hb⟩=>X.lt hb;obtain⟨ap,au⟩:=I6.vx (SV.ofN (m8 w2) y) ad;obtain⟨a9,aU⟩:=I6.vx_v (SV.ofN (m8 w2) y) ad;have s3:=X.more aJ;have ly:=ap w3 (A8 _ _);generalize an:c.E++(c.V.take k).flatMap (i4 p).joinOf=xs at X s3;have a4:xs.length<=1001000000:=by
  have h1:=P4 (i4 p).joinOf 1 (c.V.take k) λz _=>cj5 z;rw[eg0]at h1;rw[<-an,ef4];have H:min k c.V.length<=1000000:=by omega
  omega
 have B:c.E++(c.V.take (k+1)).flatMap (i4 p).joinOf=xs++(i4 p).joinOf y:=by rw[aj,<-an,ei0]
 have V:(i4 p).joinOf y=[]->∀a,WS w1 a g r ab vP {x with vE:=n} {c with E:=xs}->WS w1 a g r ab vP {x with vE:=n} {c with E:=c.E++(c.V.take (k+1)).flatMap (i4 p).joinOf}:=λh a s=>by rw[B,h,ei5];exact s
 rcases ef2 (decide (y.id=0))with h0|h0
 .have hj:(i4 p).joinOf y=[]:=by unfold Bk.joinOf;rw[if_pos (.inl (ef3 h0))]
  simp only[i5,n9,y4,simprocAttr,o,k8,T,D,O,W,ly,h0];exact T4 (k+1,n) (V hj _ s3)
 have ac:=ef7 h0;obtain⟨aK,aL⟩:=J.resolve_left ac;obtain⟨j,aE⟩:∃j:Nat,y.id=(j:Int)+1:=⟨(y.id-1).toNat,by omega⟩;have U:j<(d9 p).l.length:=by omega
 have aI:IntKind.i64.wrap (y.id-1)=(j:Int):=by rw[M2 _ (by omega)];omega
 have af:=al.inS (k:=j) U;have C:=al.at_ (i:=j) (x:=(d9 p).l[j]) (ef1 U);have ao:A3.sz It=17:=rfl;rw[ao]at C;have ag:(i4 p).s.it y.id=(d9 p).l[j]:=by
  have hs:(i4 p).s=d9 p:=rfl;rw[hs,aE];unfold Sh.it;rw[show((j:Int)+1-1).toNat=j by omega,List.getD,ef1 U];rfl
 have q:(i4 p).joinOf y=if y.id=0\/(i4 p).isCall y.id=false then[]else if y.kind=2 then[⟨y,⟨(d9 p).l[j].s.proc,1,0,e0⟩,4⟩]else if y.kind=5 then[⟨y,⟨(d9 p).l[j].s.proc,3,0,y.slot⟩,5⟩]else if y.kind=6 then[⟨⟨(d9 p).l[j].s.proc,4,0,y.slot⟩,y,6⟩]else[]:=by
  unfold Bk.joinOf;rw[ag]
 generalize(d9 p).l[j]=it at C q;obtain⟨ae,_,_⟩:=C.it;obtain⟨_,_,_,_,_,_,_,_,_,aN,_⟩:=ae.st;have A:=λa (s':WS w1 a g r ab vP {x with vE:=n} {c with E:=xs})=>cL2 s' hb hr hw aK aL;generalize(i4 p).isCall y.id=ic at q A;rcases ef2 ic with h1|h1<;>subst h1;rotate_left
 .rw[if_pos (.inr rfl)]at q;simp only[i5,n9,y4,simprocAttr,o,Z,k8,T,D,O,W,ly,h0];refine B2 (A w3 s3) (λl G=>?_);simp only[i5,n9,simprocAttr,o];exact T4 (k+1,n) (V q _ (s3.more G))
 rw[if_neg (by simpa using ac)]at q;simp only[i5,n9,y4,simprocAttr,o,Z,k8,T,D,O,W,ly,h0];refine B2 (A w3 s3) (λl G=>?_);have s4:=(s3.more G).more (o6.drew l);have am:=G.trans (o6.drew l);have Q:B8 (m8 w1) (m8 l.drew):=s4.base;have R:B8 (C1 w3 (cc6 g r {x with vE:=n})) (m8 l.drew):=p7 (A8 _ _) (b7 am);have t0:∀K f d m,F7 prog (λa=>a=l.drew) (Instr.loadAt 87 (.pointer (some ⟨g,0,none⟩))) K f d m=K (C9 f d (.pointer (some ab))) m:=λK f d m=>C0 (w0:=l.drew) rfl λa h=>by subst h;exact s4.ld rfl aF9
 have t1:=aS (λa=>a=l.drew) l.drew rfl λa h=>by subst h;exact Q
 have t2:=aT (λa=>a=l.drew) l.drew rfl λa h=>by subst h;exact Q
 have t3:=au (λa=>a=l.drew) l.drew rfl λa h=>by subst h;exact R
 have aO:=aN l.drew Q;have aQ:=ap l.drew R;simp only[i5,n9,simprocAttr];refine B9 (λa=>a=l.drew) 13 (A5 [0,1,2,3,4,5,6,7,8,9,10,11,12]) ?_;simp only[D0,A5,i5,n9,y4,simprocAttr,Z,t0,t1,t2,t3,aI,af,aO,aQ];have hm:∀a,o8 (A0 n) l.drew.drew a->B8 (C1 w3 (cc6 g r {x with vE:=n})) (m8 a):=λa h=>H2 (p7 R (b7 (o6.drew l.drew))) h λb hb=>F9 ⟨3,hb⟩;have s5:=s4.more (o6.drew l.drew);have u1:=aU (λa=>o8 (A0 n) l.drew.drew a) l.drew.drew (o8.refl _) hm;have u2:=au (λa=>o8 (A0 n) l.drew.drew a) l.drew.drew (o8.refl _) hm;have aH:=cN3 it.s.proc 1;have ak:=cN4 it.s.proc;have S:=bA5;rcases ef2 (decide (y.kind=2))with H|H
 .rw[if_pos (ef3 H)]at q;obtain⟨p1,I,Y,w6,w7,L,p3,N,M,_⟩:=s5.pushE ⟨y,⟨it.s.proc,1,0,e0⟩,4⟩ (by simp only[];omega) (e:=54);simp only at L I M N;have u0:∀K f d m,F7 prog (λa=>o8 (A0 n) l.drew.drew a) (Instr.loadAt 54 (.pointer (some ⟨g,3,none⟩))) K f d m=K (C9 f d n) m:=λK f d m=>C0 (w0:=l.drew.drew) (o8.refl _) I;simp only[i5,simprocAttr,H];refine B9 (λa=>o8 (A0 n) l.drew.drew a) 11 (A5 [0,1,2,3,4,5,6,7,8,9,10]) ?_;simp only[D0,A5,i5,n9,simprocAttr,Z,u0,u1,aH,S,p1,L,F2];refine⟨o8.up (o6.alloc _ _),M,?_⟩;simp only[i5,n9,simprocAttr,p3,o];exact T4 (k+1,Y) (by simp only[];rw[B,q];exact N)
 rw[if_neg (ef7 H)]at q;rcases ef2 (decide (y.kind=5))with h5|h5
 .rw[if_pos (ef3 h5)]at q;obtain⟨p1,I,Y,w6,w7,L,p3,N,M,_⟩:=s5.pushE ⟨y,⟨it.s.proc,3,0,y.slot⟩,5⟩ (by simp only[];omega) (e:=54);simp only at L I M N;have u0:∀K f d m,F7 prog (λa=>o8 (A0 n) l.drew.drew a) (Instr.loadAt 54 (.pointer (some ⟨g,3,none⟩))) K f d m=K (C9 f d n) m:=λK f d m=>C0 (w0:=l.drew.drew) (o8.refl _) I;simp only[i5,n9,simprocAttr,H,h5];refine B9 (λa=>o8 (A0 n) l.drew.drew a) 13 (A5 [0,1,2,3,4,5,6,7,8,9,10,11,12]) ?_;simp only[D0,A5,i5,n9,simprocAttr,Z,u0,u1,u2,ak,S,p1,L,F2];refine⟨o8.up (o6.alloc _ _),M,?_⟩;simp only[i5,n9,simprocAttr,p3,o];exact T4 (k+1,Y) (by simp only[];rw[B,q];exact N)
 rw[if_neg (ef7 h5)]at q;rcases ef2 (decide (y.kind=6))with h6|h6
 .rw[if_pos (ef3 h6)]at q;obtain⟨p1,I,Y,w6,w7,L,p3,N,M,_⟩:=s5.pushE ⟨⟨it.s.proc,4,0,y.slot⟩,y,6⟩ (by simp only[];omega) (e:=54);simp only at L I M N;have u0:∀K f d m,F7 prog (λa=>o8 (A0 n) l.drew.drew a) (Instr.loadAt 54 (.pointer (some ⟨g,3,none⟩))) K f d m=K (C9 f d n) m:=λK f d m=>C0 (w0:=l.drew.drew) (o8.refl _) I;simp only[i5,n9,simprocAttr,H,h5,h6];refine B9 (λa=>o8 (A0 n) l.drew.drew a) 13 (A5 [0,1,2,3,4,5,6,7,9,8,10,11,12]) ?_;simp only[D0,A5,i5,n9,simprocAttr,Z,u0,u1,u2,ak,S,p1,L,F2];refine⟨o8.up (o6.alloc _ _),M,?_⟩;simp only[i5,n9,simprocAttr,p3,o];exact T4 (k+1,Y) (by simp only[];rw[B,q];exact N)
 rw[if_neg (ef7 h6)]at q;simp only[i5,n9,simprocAttr,H,h5,h6,o];exact T4 (k+1,n) (V q _ s4)
end
def cm5(a:Addr)(p:Pg)(w:World)(ha:At (m8 w) a (i4 p))(hr:D3 p)(hw:B7 p<=1000000):
  o9 prog 74 #[.pointer (some a)] w λu j=>(B0 (m8 w) j 9 u (i4 p).reached/\o6 w j):=by
 refine p9 [.pointer (some a)] func74 rfl ?_;have K:=hr.toKnown;have bt:=bZ9 hr.may;obtain⟨sh,vw,_,_,_,_,has,aM,_,_,_,_,a9,aS⟩:=ha.book rfl;have hF:(i4 p).reached=W8 (R5 (i4 p).calledBy 1000 0 [L5]):=rfl;have aA:=λm hm=>aH3 K (n:=m) hm;have hG:∀m,(i4 p).calledBy m=(((d9 p).of ((d9 p).pr m)).filter λit=>decide (it.s.kind=4)&&((i4 p).way ((d9 p).pr m)).lives it.s.id).map (·.s.proc):=λm=>rfl;have ak:=aZ9 K;generalize(i4 p).calledBy=gg at hF aA hG;have aH:(p.procs.map (·.name)).length=p.procs.length:=eg5 _;obtain⟨u1,wl,aF,a4,a6,_⟩:=lit (P:=prog) (w:=w) (h:=m8 w) (α:=A9) (xs:=[p6 L5]) (ys:=[L5]) (parts:=#[(0,p6 L5)]) (n:=1) az7 rfl (aE0.2 rfl) (by simp[p6,Value.cells]) rfl rfl (by simp) (by simp) (n7 _);have a5:Value.string {data:=#[109,97,105,110]}=p6 L5:=rfl;simp only[i5,n9,simprocAttr,a5,aF];refine A6 [0] (σ:=Nat×Value×List A9) (λs f j=>f 4 = .int .i64 s.1/\f 3=s.2.1/\s.1<=s.2.2.length/\B0 (m8 w) j 9 s.2.1 s.2.2/\s.2.2.Nodup/\(∀x∈s.2.2,x∈p.procs.map (·.name))/\R5 gg 1000 0 [L5]=R5 gg (1000-s.1) s.1 s.2.2/\o6 w j) (λs=>1000-s.1) (0,u1,[L5]) ?_ ?_
 .exact⟨rfl,rfl,eg3 _,a4,by simp,by simpa using ak,by simp,a6⟩
 rintro⟨i,u,F⟩ f w2 ⟨aj,_⟩ ⟨h4,h3,a0,ho,am,I,B,aO⟩;simp only at h4 h3 a0 ho am I B;have bs:F.length<=p.procs.length:=by rw[<-aH];exact J6 am I
 simp only[i5,n9,simprocAttr,h4,h3,ho.isS,ho.vlen];refine y5 (λY=>?_) ?_;rotate_left
 .rintro rfl;rw[bA7 gg _ _ _ (eg6 _)]at B;simp only[i5,simprocAttr,h3];refine t8 (ao2 ho (by omega)) ?_;rintro _ w4 ⟨ao,a2⟩;simp only[i5,simprocAttr,h3];exact o7 results74 ⟨by rw[hF,B];exact ao,ho.ext2 aO a2⟩
 have W:=ho.inS Y;have al:=I _ (eg2 Y);have L:=aO.trans (o6.drew w2);have aJ:=ho.ext (o6.drew w2);have N:=ldS (aJ.rw_ (b7 L)) (n7 _) Y;rw[show 1000-i=(999-i)+1 by omega,bO0 gg _ _ _ Y]at B;generalize F[i]=m at N al B;obtain⟨c,V,aK,br⟩:=T3 al;obtain⟨xx,pt⟩:=I1 hr.may hw c V;have Q:=pt.ids;have aq:=O8 pt;generalize xx+A7 p.procs[c].body=y at pt aq Q;have bh:=H7 hr.may;obtain⟨aw,aZ,az⟩:=as5 (hv:=aM) (k:=c) (p:=⟨D7 (d9 p) c⟩) (by show((J2 p).map λw=>(⟨w⟩:Ptr Wy))[c]?=_;rw[ei9,V6 V];rfl);simp only at az;have aD:=aM.inS (k:=c) (by show c<((J2 p).map λw=>(⟨w⟩:Ptr Wy)).length;unfold J2;simpa using V);have U:=hG m;rw[aK,L9 V]at U;have ad:=aA m al;have t1:∀K f d ar,F7 prog (λj=>j=w2.drew) (Instr.loadAt 9 (.pointer (some (G9 u i)))) K f d ar=K (C9 f d (p6 m)) ar:=λK f d ar=>C0 (w0:=w2.drew) rfl λj h=>by subst h;exact N
 have t2:=aS (λj=>j=w2.drew) w2.drew rfl λj h=>by subst h;exact b7 L
 simp only[i5,simprocAttr];refine B9 (λj=>j=w2.drew) 8 (A5 [0,1,2,3,4,5,6,7]) ?_;simp only[D0,A5,i5,n9,y4,simprocAttr,aj,h3,h4,W,t1,t2];refine B2 (ai7 sh (d9 p) m w2.drew (has.mono (b7 L)) (by rw[K5];omega)) (λw3 aP=>?_);have T:=L.trans aP;have a8:=a9 w3 (b7 T);rw[aK];simp only[i5,n9,simprocAttr,aj,a8];refine t8 (aF6 (m8 w) sh (d9 p) c xx y w3 has (b7 T) pt.ok) ?_;rintro ui w4 ⟨S,aQ⟩;have aN:=T.trans aQ;have ao:=aJ.ext (aP.trans aQ);have aE:((d9 p).of (c:Int)).length<=1000000:=by
  rw[pt.ok.of_,el6,eg0];omega
 generalize(d9 p).of (c:Int)=l at S U Q aE;have aX:=S.isS;have a3:=S.vlen;generalize gg m=G at U B ad;subst U;simp only[i5,n9,simprocAttr,aX,a3];refine A6 [0,4,5,29,30] (σ:=Nat×Value×List A9) (λs f j=>f 31 = .int .i64 s.1/\f 3=s.2.1/\s.1<=l.length/\B0 (m8 w) j 9 s.2.1 s.2.2/\s.2.2.Nodup/\(∀x∈s.2.2,x∈p.procs.map (·.name))/\F.length<=s.2.2.length/\U3 F ((l.filter λit=>decide (it.s.kind=4)&&(D7 (d9 p) c).lives it.s.id).map (·.s.proc))=U3 s.2.2 (((l.drop s.1).filter λit=>decide (it.s.kind=4)&&(D7 (d9 p) c).lives it.s.id).map (·.s.proc))/\o6 w j) (λs=>l.length-s.1) (0,u,F) ?_ ?_
 .simp only[B3,simprocAttr];exact⟨by trivial,by trivial,eg3 _,ao,am,I,eg6 _,by rw[en9],aN⟩
 rintro⟨k,u5,o⟩ f5 w5 ⟨g0,g4,g5,au,aW,_⟩ ⟨A,D,a1,ap,r,g,X,q,aa⟩;simp only at A D a1 ap r g X q;rw[aj]at g0;have bl:o.length<=p.procs.length:=by rw[<-aH];exact J6 r g
 simp only[i5,n9,simprocAttr,A,aW];refine y5 (λH=>?_) ?_;rotate_left
 .rintro rfl;rw[eo9,List.filter_nil,List.map_nil,U3]at q;rw[q]at B;rw[h4]at g4;simp only[i5,n9,simprocAttr,g4];refine nx2 (i+1,u5,o) ⟨D,by simp only[];omega,ap,r,g,?_,aa⟩;simp only[];rw[B]
  congr 1
  omega
 have W:=S.inS H;obtain⟨sv,aL,N⟩:=F5 (P:=prog) (t:=150) S (b7 aa) (ef1 H) aa7 aa9 Z3 J3;rw[J3]at N;have ae:=eg2 H;have aC:=Q _ ae;rw[ej8 H]at q;have M:(decide (l[k].s.kind=4)&&(D7 (d9 p) c).lives l[k].s.id)=true->l[k].s.proc∈p.procs.map (·.name):=λh=>ad _ (eh4.2 ⟨_,eh8.2 ⟨ae,h⟩,rfl⟩);generalize l[k]=it at aL q aC M;obtain⟨d,bH,O,ac,af,a7,ax⟩:=ap8 (aL.mono (b7 aa)) (n7 _);obtain⟨ay,_,_⟩:=ax.it;obtain⟨_,_,_,_,_,_,_,_,_,ba,bd⟩:=ay.st;have ag:=a7.trans (o6.drew O);have J:=aa.trans ag;have aI:=ap.ext ag;have aB:∀j,o6 O.drew j->B8 (m8 w) (m8 j):=λj h=>b7 (J.trans h);have r1:=bd (λj=>o6 O.drew j) O.drew (o8.refl _) λj h=>b7 ((o6.drew O).trans h);have r2:=aS (λj=>o6 O.drew j) O.drew (o8.refl _) aB;have r3:=bH2 (P:=prog) (t:=114) aZ as8 (λj=>o6 O.drew j) O.drew (o8.refl _) aB;have v:(decide (it.s.kind=4)&&(D7 (d9 p) c).lives it.s.id)=false->U3 F ((l.filter λit=>decide (it.s.kind=4)&&(D7 (d9 p) c).lives it.s.id).map (·.s.proc))=U3 o (((l.drop (k+1)).filter λit=>decide (it.s.kind=4)&&(D7 (d9 p) c).lives it.s.id).map (·.s.proc)):=λh=>by
  rw[q,List.filter_cons,h];rfl
 have E:(decide (it.s.kind=4)&&(D7 (d9 p) c).lives it.s.id)=true->U3 F ((l.filter λit=>decide (it.s.kind=4)&&(D7 (d9 p) c).lives it.s.id).map (·.s.proc))=U3 (if o.contains it.s.proc then o else o++[it.s.proc]) (((l.drop (k+1)).filter λit=>decide (it.s.kind=4)&&(D7 (d9 p) c).lives it.s.id).map (·.s.proc)):=λh=>by
  rw[q,List.filter_cons,h];rfl
 clear q;rcases ef2 (decide (it.s.kind=4))with hq|hq;rotate_left
 .rw[hq,Bool.false_and]at v;simp only[i5,n9,y4,simprocAttr,A,au,W,N,ac,af];refine B9 (λj=>o6 O.drew j) 22 (A5 [0,1,2,3,4,5,6,7,8,9,10,11,12,13,14,15,16,17,18,19,20,21]) ?_;simp only[D0,A5,i5,n9,simprocAttr,r1,hq,A];exact nx2 (k+1,u5,o) ⟨D,by simp only[];omega,aI,r,g,X,v rfl,J⟩
 rw[hq,em1]at v E M;simp only[i5,n9,y4,simprocAttr,A,au,W,N,ac,af];refine B9 (λj=>o6 O.drew j) 22 (A5 [0,1,2,3,4,5,6,7,8,9,10,11,12,13,14,15,16,17,18,19,20,21]) ?_;simp only[D0,A5,i5,n9,y4,simprocAttr,g0,g5,r1,r2,r3,hq,aD];refine B2 (aS6 aw (D7 (d9 p) c) p c xx y it.s.id O.drew (az.mono (b7 J)) aq.toWyOk aC aq.live) (λw7 ab=>⟨ab,?_⟩);have C:=J.trans ab;have R:=aI.ext ab;generalize(D7 (d9 p) c).lives it.s.id=lv at v E M;rcases ef2 lv with aG|aG<;>subst aG;rotate_left
 .simp only[D0,i5,n9,simprocAttr,A];exact nx2 (k+1,u5,o) ⟨D,by simp only[];omega,R,r,g,X,v rfl,C⟩
 have bb:=ba w7 (b7 ((o6.drew O).trans ab));have Z:=E rfl;have M:=M rfl;simp only[D0,i5,n9,simprocAttr,D,r1];refine E6 (S1 u5 o it.s.proc w7 (R.rw_ (b7 C)) (by omega)) ?_;rcases ef2 (o.contains it.s.proc)with hq2|hq2
 .rw[if_pos hq2]at Z;simp only[i5,n9,simprocAttr,hq2,A];exact nx2 (k+1,u5,o) ⟨D,by simp only[];omega,R,r,g,X,Z,C⟩
 rw[if_neg (by rw[hq2];simp)]at Z;obtain⟨p1,u8,w8,p2,p3,p4,p5⟩:=push (P:=prog) (t:=31) (e:=31) az7 rfl R (x:=p6 it.s.proc) (y:=it.s.proc) rfl (by omega) (by omega) (b7 C);simp only[i5,n9,simprocAttr,hq2,A,D,bb,p1,p2];refine nx4 (k+1,u8,o++[it.s.proc]) ⟨p3,?_,λz hz=>?_,by simp only[ef4];omega,Z,R.ext2 C p4⟩
 .simp only[];rw[ek2];refine⟨r,by simp,λa ha b hb=>?_⟩;simp only[eh2]at hb;subst hb;rintro rfl;rw[eg7.2 ha]at hq2;cases hq2
 .rcases eg1.1 hz with h|h
  .exact g z h
  .simp only[eh2]at h;subst h;exact M
section
variable {w1 w:World} {g r:Nat} {ab:Addr} {vP:Value} {x:WX} {c:WC}
def de3:∃a,prog.info? 89=some a/\a.size=1:=aA6 dT9 dT5
def WS.putN(s:WS w1 w g r ab vP x c){f:Value}{n:Nat}(A:B0 hZ w TAs f (List.replicate n D2))(a:∀b,A0 f b->w1.heap.size<=b/\∀i,¬U0 g r x i b):
  ∃p,(Instr.storeAt 89 (.pointer (some ⟨g,6,none⟩)) f).run prog w = .ok () p/\WS w1 p g r ab vP {x with vn:=f,un:=List.replicate n D2} {c with N:=List.replicate n []}/\o8 (λb=>b=g) w p:=by
 obtain⟨G,t,y⟩:=de3;obtain⟨p,D,E,l⟩:=cq2 (k:=6) s.cb (by decide +kernel:6<8) A.isS t y;have F:=o8.ext_of s.ext l λb d=>by subst d;exact s.new 0 _ rfl
 have z:∀j b,U0 g r {x with vn:=f,un:=List.replicate n D2} j b->(j≠5/\U0 g r x j b)\/(j=5/\A0 f b):=λj b h=>by
  match j,h with
  | 0,h=>exact .inl ⟨by decide,h⟩
  | 1,h=>exact .inl ⟨by decide,h⟩
  | 2,h=>exact .inl ⟨by decide,h⟩
  | 3,h=>exact .inl ⟨by decide,h⟩
  | 4,h=>exact .inl ⟨by decide,h⟩
  | 5,h=>first|exact .inl ⟨by decide,h⟩|exact .inr ⟨rfl,ah1 h⟩
  | 6,h=>first|exact .inl ⟨by decide,h⟩|exact .inr ⟨rfl,ah1 h⟩
  | _+7,h=>exact h.elim
 have q:∀{i b:Nat},i≠0->U0 g r x i b->¬b=g:=λC h=>s.off (j:=0) C h;have m:E2 hZ p TAs TAr f (List.replicate n D2) (List.replicate n ([]:List (Int×Int))):=ak0 (A.mod l λb d v=>(a b d).2 0 v);have o:∀j b,U0 g r {x with vn:=f,un:=List.replicate n D2} j b->w1.heap.size<=b:=λj b h=>by
  rcases z j b h with⟨_,h⟩|⟨_,h⟩
  .exact s.new j b h
  .exact(a b h).1
 have u:∀i j b,U0 g r {x with vn:=f,un:=List.replicate n D2} i b->U0 g r {x with vn:=f,un:=List.replicate n D2} j b->i=j:=λi j b h k=>by
  rcases z i b h with⟨_,h⟩|⟨e,h⟩<;>rcases z j b k with⟨_,k⟩|⟨B,k⟩
  .exact s.apart i j b h k
  .exact absurd h ((a b k).2 i)
  .exact absurd k ((a b h).2 j)
  .rw[e,B]
 have oV:=s.oV.mod l λb d=>q (i:=2) (by decide) d;have oE:=s.oE.mod l λb d=>q (i:=3) (by decide) d;have oS:=s.oS.mod l λb d=>q (i:=4) (by decide) d;have rp:=s.rp.mod l λb d=>q (i:=6) (by decide) d;exact⟨p,D,{ext:=F,cb:=E,map:=(s.map.mod l (q (i:=1) (by decide) rfl)),oV:=oV,oE:=oE,oS:=oS,rn:=by first|exact m|exact rn,rp:=by first|exact m|exact rp,new:=o,apart:=u},l⟩
def WS.putP(s:WS w1 w g r ab vP x c){f:Value}{n:Nat}(A:B0 hZ w TAs f (List.replicate n D2))(a:∀b,A0 f b->w1.heap.size<=b/\∀i,¬U0 g r x i b):
  ∃p,(Instr.storeAt 89 (.pointer (some ⟨g,7,none⟩)) f).run prog w = .ok () p/\WS w1 p g r ab vP {x with vp:=f,up:=List.replicate n D2} {c with P:=List.replicate n []}/\o8 (λb=>b=g) w p:=by
 obtain⟨G,t,y⟩:=de3;obtain⟨p,D,E,l⟩:=cq2 (k:=7) s.cb (by decide +kernel:7<8) A.isS t y;have F:=o8.ext_of s.ext l λb d=>by subst d;exact s.new 0 _ rfl
 have z:∀j b,U0 g r {x with vp:=f,up:=List.replicate n D2} j b->(j≠6/\U0 g r x j b)\/(j=6/\A0 f b):=λj b h=>by
  match j,h with
  | 0,h=>exact .inl ⟨by decide,h⟩
  | 1,h=>exact .inl ⟨by decide,h⟩
  | 2,h=>exact .inl ⟨by decide,h⟩
  | 3,h=>exact .inl ⟨by decide,h⟩
  | 4,h=>exact .inl ⟨by decide,h⟩
  | 5,h=>first|exact .inl ⟨by decide,h⟩|exact .inr ⟨rfl,ah1 h⟩
  | 6,h=>first|exact .inl ⟨by decide,h⟩|exact .inr ⟨rfl,ah1 h⟩
  | _+7,h=>exact h.elim
 have q:∀{i b:Nat},i≠0->U0 g r x i b->¬b=g:=λC h=>s.off (j:=0) C h;have m:E2 hZ p TAs TAr f (List.replicate n D2) (List.replicate n ([]:List (Int×Int))):=ak0 (A.mod l λb d v=>(a b d).2 0 v);have o:∀j b,U0 g r {x with vp:=f,up:=List.replicate n D2} j b->w1.heap.size<=b:=λj b h=>by
  rcases z j b h with⟨_,h⟩|⟨_,h⟩
  .exact s.new j b h
  .exact(a b h).1
 have u:∀i j b,U0 g r {x with vp:=f,up:=List.replicate n D2} i b->U0 g r {x with vp:=f,up:=List.replicate n D2} j b->i=j:=λi j b h k=>by
  rcases z i b h with⟨_,h⟩|⟨e,h⟩<;>rcases z j b k with⟨_,k⟩|⟨B,k⟩
  .exact s.apart i j b h k
  .exact absurd h ((a b k).2 i)
  .exact absurd k ((a b h).2 j)
  .rw[e,B]
 have oV:=s.oV.mod l λb d=>q (i:=2) (by decide) d;have oE:=s.oE.mod l λb d=>q (i:=3) (by decide) d;have oS:=s.oS.mod l λb d=>q (i:=4) (by decide) d;have rn:=s.rn.mod l λb d=>q (i:=5) (by decide) d;exact⟨p,D,{ext:=F,cb:=E,map:=(s.map.mod l (q (i:=1) (by decide) rfl)),oV:=oV,oE:=oE,oS:=oS,rn:=by first|exact m|exact rn,rp:=by first|exact m|exact rp,new:=o,apart:=u},l⟩
def WS.moreV(s:WS w1 w g r ab vP x c){w0:World}{u:Value}{ys:List Vx}(m:B0 (m8 w0) w 26 u ys)(o:∀b,A0 x.vV b->b<w0.heap.size)(p:c.V.length+ys.length<=1000000000000){e:TypeId}:
  ∃f i a,(Builtin.append_ #[22,22] e #[x.vV,u]).run prog w = .ok f i/\(Instr.storeAt 22 (.pointer (some ⟨g,2,none⟩)) f).run prog i = .ok () a/\WS w1 a g r ab vP {x with vV:=f} {c with V:=c.V++ys}/\o8 (A0 x.vV) w i:=by
 obtain⟨v,d,k⟩:=aA6 (P:=prog) dm4 dl4;have q:B0 (C1 w (A0 x.vV)) w 26 x.vV c.V:=s.oV.up (S8 _) λb j=>F9 j;have l:R (C1 w (A0 x.vV)) u ys:=m.flatRN λb j=>E4 λh=>by
  have:=o b h;have:=D1 (m.free j);omega
 obtain⟨f,i,y,z,n,A⟩:=W2 (P:=prog) (t:=22) (e:=e) at7 rfl q l p (by omega) (A8 _ _);obtain⟨a,B,C,_⟩:=s.putV n (z.downN (S8 _)) A d k;exact⟨f,i,a,y,B,C,n⟩
def WS.moreE(s:WS w1 w g r ab vP x c){w0:World}{u:Value}{ys:List Eg}(m:B0 (m8 w0) w 66 u ys)(o:∀b,A0 x.vE b->b<w0.heap.size)(p:c.E.length+ys.length<=1000000000000){e:TypeId}:
  ∃f i a,(Builtin.append_ #[54,54] e #[x.vE,u]).run prog w = .ok f i/\(Instr.storeAt 54 (.pointer (some ⟨g,3,none⟩)) f).run prog i = .ok () a/\WS w1 a g r ab vP {x with vE:=f} {c with E:=c.E++ys}/\o8 (A0 x.vE) w i:=by
 obtain⟨v,d,k⟩:=aA6 (P:=prog) dD0 dC5;have q:B0 (C1 w (A0 x.vE)) w 66 x.vE c.E:=s.oE.up (S8 _) λb j=>F9 j;have l:R (C1 w (A0 x.vE)) u ys:=m.flatRN λb j=>E4 λh=>by
  have:=o b h;have:=D1 (m.free j);omega
 obtain⟨f,i,y,z,n,A⟩:=W2 (P:=prog) (t:=54) (e:=e) bT1 rfl q l p (by omega) (A8 _ _);obtain⟨a,B,C,_⟩:=s.putE n (z.downN (S8 _)) A d k;exact⟨f,i,a,y,B,C,n⟩
end
def Wh(w0 w:World)(p:Pg)(u:Value)(C S:List Eg):Prop:=∃(a:World) (g r:Nat) (b:Addr) (c:Value) (x:WX),u = .pointer (some ⟨g,0,none⟩)/\o6 w0 a/\At (m8 a) b (i4 p)/\R (m8 a) c (i4 p).reached /\
 WS a w g r b c x ⟨(i4 p).wv,(i4 p).we,S,as4 (i4 p).wv,Z6 (i4 p).wv ((i4 p).we++C),X5 (i4 p).wv ((i4 p).we++C)⟩
def cZ6(a:Addr)(b:Value)(r:Nat)(hS:isS b=true):B6 prog 91 [(0,.pointer (some a)),(1,b),(5,.map (some r))]=some (.agg (wcs a b r ⟨.slice none 0 0,.slice none 0 0,.slice none 0 0,.slice none 0 0,[],.slice none 0 0,[]⟩)):=by
 have c:(Value.pointer (some a)).cells=#[.pointer (some a)]:=rfl;have d:(Value.map (some r)).cells=#[.map (some r)]:=rfl;simp[B6,dT2,J9,Instr.fill,F0 hS,c,d,wcs]
def wc0:WC:=⟨[],[],[],[],[],[]⟩
def wx0:WX:=⟨.slice none 0 0,.slice none 0 0,.slice none 0 0,.slice none 0 0,[],.slice none 0 0,[]⟩
def WS.start(a:World)(c:Addr)(d:Value)(t:TypeId):(Instr.makeMap t none).run prog a = .ok (.map (some a.heap.size)) (a.alloc (.map #[] 0)) /\
  (Instr.box 91 (.agg (wcs c d a.heap.size wx0))).run prog (a.alloc (.map #[] 0)) = .ok (.pointer (some ⟨a.heap.size+1,0,none⟩)) ((a.alloc (.map #[] 0)).alloc (.cells (wcs c d a.heap.size wx0) TWh)) /\
  WS a ((a.alloc (.map #[] 0)).alloc (.cells (wcs c d a.heap.size wx0) TWh)) (a.heap.size+1) a.heap.size c d wx0 wc0:=by
 obtain⟨q,r,s⟩:=ax0.new (P:=prog) (enc:=Vx.enc) a t;have g:(a.alloc (.map #[] 0)).heap.size=a.heap.size+1:=by simp
 have f:(Instr.box 91 (.agg (wcs c d a.heap.size wx0))).run prog (a.alloc (.map #[] 0)) = .ok (.pointer (some ⟨(a.alloc (.map #[] 0)).heap.size,0,none⟩)) ((a.alloc (.map #[] 0)).alloc (.cells (wcs c d a.heap.size wx0) TWh)):=rfl;rw[g]at f;have l:=o6.alloc (a.alloc (.map #[] 0)) (.cells (wcs c d a.heap.size wx0) TWh);have o:=ej0 (a.alloc (.map #[] 0)) (.cells (wcs c d a.heap.size wx0) TWh);rw[g]at o;have m:∀j b,U0 (a.heap.size+1) a.heap.size wx0 j b->(j=0/\b=a.heap.size+1)\/(j=1/\b=a.heap.size):=λj b h=>by
  match j,h with
  | 0,h=>exact .inl ⟨rfl,h⟩
  | 1,h=>exact .inr ⟨rfl,h⟩
  | 2,h=>exact absurd h D5
  | 3,h=>exact absurd h D5
  | 4,h=>exact absurd h D5
  | 5,h=>
   rcases h with h|⟨u,n,_⟩
   .exact absurd h D5
   .cases n
  | 6,h=>
   rcases h with h|⟨u,n,_⟩
   .exact absurd h D5
   .cases n
  | _+7,h=>exact h.elim
 refine⟨q,f,s.trans l,o,r.mod l id,B0.nil _ _ _,B0.nil _ _ _,B0.nil _ _ _,E2.nil _ _ _ _,E2.nil _ _ _ _,λj b h=>?_,λi j b h k=>?_⟩
 .rcases m j b h with⟨_,rfl⟩|⟨_,rfl⟩<;>omega
 .rcases m i b h with⟨e,h⟩|⟨e,h⟩<;>rcases m j b k with⟨p,k⟩|⟨p,k⟩<;>omega
def WS.keyN{f w:World}{g r:Nat}{b:Addr}{d:Value}{x:WX}{c:WC}(s:WS f w g r b d x c){a:Vx}(h:al6 c.kv a=none)(v:Value):
  ∃e,(Instr.mapUpdate 88 (.map (some r)) (.agg (p8.cells a).toArray) v).run prog w = .ok () e/\WS f e g r b d x {c with kv:=c.kv++[(a,v)]}:=s.key h v
def du0{V:List Vx}{k:Nat}(a:k<V.length):as4 (V.take (k+1))=as4 (V.take k)++[(V[k],.int .i64 (k:Int))]:=by
 rw[ef8 a,dt9,eg0,el2 (Nat.le_of_lt a)]
def dU3{p:Pg}(b:D3 p)(hw:B7 p<=1000000):∀v∈(i4 p).wv,v.id=0\/(1<=v.id/\v.id<=(d9 p).l.length):=λv j=>by
 obtain⟨i,g,_,_,d⟩:=aM9 b.toKnown j;obtain⟨y,k⟩:=I1 b.may hw i g;have c:∀it∈(d9 p).of (i:Int),1<=it.s.id/\it.s.id<=(d9 p).l.length:=λit a=>by
  obtain⟨e,_,l⟩:=bt3 b.may (aW9 k a);have:=(ef6.1 e).1;omega
 have h:(i4 p).s=d9 p:=rfl;rcases N4.1 d with rfl|⟨_,_,rfl⟩|⟨_,_,rfl⟩|⟨it,a,f⟩
 .exact .inl rfl
 .exact .inl rfl
 .exact .inl rfl
 .rw[h]at a;rcases f with rfl|⟨_,⟨n,_,rfl⟩|⟨n,_,rfl⟩⟩<;>exact .inr (c it a)
def cS9{g r:Nat}{x:WX}{a:Value}{n i b:Nat}(h:U0 g r {x with vn:=a,un:=List.replicate n D2} i b):U0 g r x i b\/A0 a b:=by
 match i,h with
 | 0,h=>exact .inl h
 | 1,h=>exact .inl h
 | 2,h=>exact .inl h
 | 3,h=>exact .inl h
 | 4,h=>exact .inl h
 | 5,h=>exact .inr (ah1 h)
 | 6,h=>exact .inl h
 | _+7,h=>exact h.elim
def mkA{w:World}{n:Nat}(hn:n<=1000000):∃v a,(Instr.makeSlice 89 (.int .i64 n) (.int .i64 n)).run prog w = .ok v a/\B0 hZ a TAs v (List.replicate n D2)/\o6 w a/\(∀b,A0 v b->w.heap.size<=b):=by
 have g:A3.enc hZ (Value.slice none 0 0).cells.toList D2:=⟨rfl,rfl⟩;obtain⟨v,a,c,d,e,f,_⟩:=mk (P:=prog) (w:=w) (h:=hZ) dR2 dm3 (α:=X9) (y:=D2) g (n:=n) (by omega) (by omega) (S8 _);exact⟨v,a,c,d,e,f⟩
def aq3(v:Value)(p:Pg)(w:World)(hv:SV (m8 w) v p)(hw:B7 p<=1000000):
  o9 prog 46 #[v] w λu a=>((E0 p=false->u = .pointer none)/\(E0 p=true->Wh w a p u [] [])/\o6 w a):=by
 refine p9 [v] func46 rfl ?_;obtain⟨cb,wa,b5,cn,bu⟩:=Q4 hv (n7 _);obtain⟨sp,ch,bK,_⟩:=bu.pg_v;have l1:=bK wa (n7 _);simp only[i5,n9,simprocAttr,b5,l1];refine t8 (dp1 sp p wa ch hw) ?_;rintro u w2 ⟨hf,ht,cj⟩;have aN:=cn.trans cj;cases hR:E0 p
 .obtain rfl:=hf hR;simp only[i5,n9,simprocAttr,dg5];exact o7 results46 ⟨λ_=>rfl,λh=>(by cases h),aN⟩
 obtain⟨O,rfl,br⟩:=ht hR;have L:=G6 hR;have K:=L.toKnown;have bw:=aB4 L;have aa:=bB6 L hw;have cS:=at1 L hw;have cd:=aA2 L hw;have bD:=ag5 K;have bJ:=dU3 L hw;have cC:=cK3 L hw;have cR:=bp6 L hw;have ah:=λn hn=>Y9 K (n:=n) hn;have aD:(i4 p).wv=(i4 p).reached.flatMap λn=>(i4 p).verts ((i4 p).s.pr n):=rfl;have ae:(i4 p).we0=((i4 p).reached.flatMap λn=>(i4 p).edges ((i4 p).s.pr n))++(i4 p).wv.flatMap (i4 p).joinOf:=rfl;have b0:(i4 p).we=aC5 (i4 p).we0:=rfl;have hs:(i4 p).s=d9 p:=rfl;have b9:(d9 p).p.procs.length<=1000000000:=by
  rw[K5];have:=bZ9 L.may;omega
 simp only[i5,n9,simprocAttr,dg5];refine t8 (cm5 O p w2 br L hw) ?_;rintro W F ⟨cf,a8⟩;have aO:=aN.trans a8;have G:=br.mono (b7 a8);have U:R (m8 F) W (i4 p).reached:=cf.rw_ (b7 a8);have bn:=U.isS;have ca:=U.vlen;obtain⟨m1,m2,s0⟩:=WS.start F O W 88;have aZ:=cZ6 O W F.heap.size bn;have ci:(⟨.slice none 0 0,.slice none 0 0,.slice none 0 0,.slice none 0 0,[],.slice none 0 0,[]⟩:WX)=wx0:=rfl;rw[ci]at aZ;have l4:=s0.ld (i:=1) (u:=W) rfl P8;generalize(F.alloc (.map #[] 0)).alloc (.cells (wcs O W F.heap.size wx0) TWh)=w4 at m2 s0 l4;generalize hg:F.heap.size+1=g at m2 s0 l4;generalize cP:F.heap.size=r at m1 m2 s0 aZ;obtain⟨sh,_,_,_,_,_,has,_,_,_,_,_,cr,_⟩:=G.book rfl;simp only[i5,n9,simprocAttr,aJ6,m1,aZ,m2,l4,bn,ca];generalize bp:(λn=>(i4 p).verts ((i4 p).s.pr n))=Vn at aD;generalize bk:(λn=>(i4 p).edges ((i4 p).s.pr n))=En at ae aa;have af:∀n,Vn n=(i4 p).verts ((d9 p).pr n):=λn=>by rw[<-bp];rfl
 have ab:∀n,En n=(i4 p).edges ((d9 p).pr n):=λn=>by rw[<-bk];rfl
 have aE:∀n∈(i4 p).reached,(Vn n).length<=30000:=λn hn=>by
  obtain⟨i,Y,e,_⟩:=ah n hn;rw[af,<-hs,e];exact aW0 L hw Y
 have aC:∀n∈(i4 p).reached,(En n).length<=60000000:=λn hn=>by
  obtain⟨i,Y,e,_⟩:=ah n hn;rw[ab,<-hs,e];exact bO7 L hw Y
 generalize b2:(i4 p).reached=D at U aD ae aa bw aE aC ah;refine A6 [3,4,25,26] (σ:=Nat×Value×Value) (λt f a=>f 27 = .int .i64 t.1/\t.1<=D.length/\WS F a g r O W {wx0 with vV:=t.2.1,vE:=t.2.2} {wc0 with V:=(D.take t.1).flatMap Vn,E:=(D.take t.1).flatMap En}) (λt=>D.length-t.1) (0,.slice none 0 0,.slice none 0 0) ?_ ?_
 .simp only[B3,simprocAttr];exact⟨by trivial,eg3 _,s0⟩
 clear s0;rintro⟨k,Z,ve⟩ f w5 ⟨e3,e4,bV,bW,_⟩ ⟨aB,a0,S⟩;simp only at aB a0 S;simp only[i5,n9,simprocAttr,aB,bW];refine y5 (λl=>?_) ?_
 .have ak:=U.inS l;have H:=ldS U S.base l;have al:=eg2 l;have aX:=I9 Vn D l;have aT:=I9 En D l;have bo:((D.take k).flatMap Vn).length<=480000:=by
   have h1:=P4 Vn 30000 (D.take k) λz hz=>aE z (em8 hz);rw[eg0]at h1;have h2:min k D.length<=16:=by omega
   omega
  have bj:((D.take k).flatMap En).length<=960000000:=by
   have h1:=P4 En 60000000 (D.take k) λz hz=>aC z (em8 hz);rw[eg0]at h1;have h2:min k D.length<=16:=by omega
   omega
  have bq:=aE _ al;have bl:=aC _ al;obtain⟨i,Y,aG,_⟩:=ah _ al;rw[hs]at aG;have ag:=af D[k];have ac:=ab D[k];rw[aG]at ag ac;generalize D[k]=n at H aX aT bq bl aG ag ac;generalize cM:(D.take k).flatMap Vn=VV at S aX bo;generalize bY:(D.take k).flatMap En=EE at S aT bj;have cq:=cr w5 S.base;simp only[i5,n9,y4,simprocAttr,aB,e3,bV,ak,H,cq];refine B2 (ai7 sh (d9 p) n w5 (has.mono S.base) b9) (λw6 ck=>?_);have s6:=(S.more ck).more (o6.drew w6);rw[aG];have t1:∀K f d c,F7 prog (λa=>o8 (A0 Z) w6.drew a) (Instr.loadAt 22 (.pointer (some ⟨g,2,none⟩))) K f d c=K (C9 f d Z) c:=λK f d c=>C0 (w0:=w6.drew) (o8.refl _) λa h=>E7 ((h.block g (s6.lt (i:=0) rfl) (s6.off (i:=0) (j:=2) (by decide) rfl)).trans s6.cb) rfl ab9;simp only[i5,simprocAttr];refine B9 (λa=>o8 (A0 Z) w6.drew a) 9 (A5 [0,1,2,3,4,5,6,7,8]) ?_;simp only[D0,A5,i5,n9,simprocAttr,e3,e4,t1];refine t8 (bd1 O p i w6.drew (G.mono s6.base) L hw Y) ?_;rintro uv w7 ⟨bG,aq⟩;refine⟨o8.up aq,?_⟩;rw[<-ag]at bG;have s7:=s6.more aq;obtain⟨v8,w8,B,p1,p2,s9,p3⟩:=s7.moreV bG (λb o=>s6.lt (i:=2) o) (by simp only[];omega) (e:=22);simp only at p1 s9 p3;rw[<-aX]at s9;simp only[D0,i5,n9,simprocAttr,p1,F2];refine⟨(o8.up aq).trans p3,?_⟩;have M:=s9.more (o6.drew B);have t2:∀K f d c,F7 prog (λa=>o8 (A0 ve) B.drew a) (Instr.loadAt 54 (.pointer (some ⟨g,3,none⟩))) K f d c=K (C9 f d ve) c:=λK f d c=>C0 (w0:=B.drew) (o8.refl _) λa h=>E7 ((h.block g (M.lt (i:=0) rfl) (M.off (i:=0) (j:=3) (by decide) rfl)).trans M.cb) rfl bj4;simp only[i5,simprocAttr,p2];refine B9 (λa=>o8 (A0 ve) B.drew a) 9 (A5 [0,1,2,3,4,5,6,7,8]) ?_;simp only[D0,A5,i5,n9,simprocAttr,e3,e4,t2];refine t8 (cL4 O p i B.drew (G.mono M.base) L hw Y) ?_;rintro ue c6 ⟨bF,ap⟩;refine⟨o8.up ap,?_⟩;rw[<-ac]at bF;have I:=M.more ap;obtain⟨cv,c7,c8,q1,q2,J,q3⟩:=I.moreE bF (λb o=>M.lt (i:=3) o) (by simp only[];omega) (e:=54);simp only at q1 J q3;rw[<-aT]at J;simp only[D0,i5,n9,simprocAttr,q1,F2];refine⟨(o8.up ap).trans q3,?_⟩;simp only[i5,n9,simprocAttr,q2,aB];exact T4 (k+1,v8,cv) J
 rintro rfl;rw[eg4,<-aD]at S;generalize bY:D.flatMap En=EE at S ae aa;clear aD aE aC ah bp bk af ab;generalize b1:(i4 p).wv.flatMap (i4 p).joinOf=Jn at ae;have l5:=S.ld (i:=2) (u:=Z) rfl ab9;have aW:=S.oV.isS;have a2:=S.oV.vlen;simp only at aW a2;generalize hV:(i4 p).wv=V at *;simp only[i5,n9,simprocAttr,e4,l5,aW,a2];refine A6 [3,4,63,64] (σ:=Nat) (λk f a=>f 65 = .int .i64 k/\k<=V.length/\WS F a g r O W {wx0 with vV:=Z,vE:=ve} {wc0 with V:=V,E:=EE,kv:=as4 (V.take k)}) (λk=>V.length-k) 0 ?_ ?_
 .simp only[B3,simprocAttr];exact⟨by trivial,eg3 _,S⟩
 clear S l5;rintro k f6 w6 ⟨a3,a4,bS,bT,_⟩ ⟨aS,cB,s6⟩;rw[e3]at a3;rw[e4]at a4;simp only[i5,n9,simprocAttr,aS,bT];refine y5 (λl=>?_) ?_
 .have aV:=s6.rV;simp only at aV;have ak:=aV.inS l;obtain⟨sv,ao,H⟩:=F5 (P:=prog) (t:=26) aV (n7 _) (ef1 l) ar8 as0 am4 N6;rw[N6]at H;have bz:=du0 l;have ce:V[k]∉V.take k:=λh=>by
   have h2:=ef8 l;have h3:(V.take (k+1)).Nodup:=cd.sublist (List.take_sublist _ _);rw[h2,ek2]at h3;exact h3.2.2 _ h _ (by simp) rfl
  have bC:=dF1 ce;generalize V[k]=y at ao bz bC;obtain rfl:=ao.N;obtain⟨d7,db,w7,aY,a6,aq,bs⟩:=ap9 (w:=w6) (λ_=>False) (SV.ofN (m8 w6) y) λb o=>o.elim;have s7:=s6.more (aq.trans (o6.drew w7));have t1:=(I6.vx_v (SV.ofN (m8 w6) y) bs).2 (λa=>a=w7.drew) w7.drew rfl λa h=>by subst h;exact A8 w7 _
  have t2:∀K f d c,F7 prog (λa=>a=w7.drew) (Instr.loadAt 88 (.pointer (some ⟨g,5,none⟩))) K f d c=K (C9 f d (.map (some r))) c:=λK f d c=>C0 (w0:=w7.drew) rfl λa h=>by subst h;exact s7.ld rfl cp5
  obtain⟨w8,q1,s8⟩:=s7.keyN bC (.int .i64 (k:Int));simp only at s8;rw[<-bz]at s8;simp only[i5,n9,y4,simprocAttr,aS,bS,ak,H,aY,a6];refine B9 (λa=>a=w7.drew) 6 (A5 [0,1,2,3,4,5]) ?_;simp only[D0,A5,i5,n9,simprocAttr,a4,aS,t1,t2,aJ7,q1];exact T4 (k+1) s8
 rintro rfl;rw[eg4]at s6;simp only[i5,simprocAttr,a4];refine t8 (cW2 s6 G L hw bJ (by simp only[];omega) (by simp only[];omega)) ?_;rintro _ w7 ⟨v7,s7⟩;simp only at s7;rw[b1,<-ae]at s7;have l7:=s7.ld (i:=3) (u:=v7) rfl bj4;simp only[i5,n9,simprocAttr,a4,l7];refine t8 (aY8 s7.oE (by simp only[];omega) (S8 _)) ?_;rintro u8 w8 ⟨a5,bA,bv⟩;simp only at a5 bA bv;rw[<-b0]at a5;obtain⟨cT,bx,b8⟩:=ci9;obtain⟨B,q1,s9,_⟩:=s7.putE bA a5 (λb o=>.inl (bv b o)) bx b8;simp only at s9;have M:=s9.more (o6.drew B);have am:V.length<=1000000:=by omega
 generalize aH:({wx0 with vV:=Z,vE:=u8}:WX)=xA at M;have lA:(Instr.loadAt 22 (.pointer (some ⟨g,2,none⟩))).run prog B.drew = .ok Z B.drew:=M.ld (by rw[<-aH];rfl) ab9;have t2:∀K f d c,F7 prog (λa=>o8 (λb=>b=g) B.drew a/\(Instr.loadAt 22 (.pointer (some ⟨g,2,none⟩))).run prog a = .ok Z a) (Instr.loadAt 22 (.pointer (some ⟨g,2,none⟩))) K f d c=K (C9 f d Z) c:=λK f d c=>C0 (w0:=B.drew) ⟨o8.refl _,lA⟩ λa h=>h.2;simp only[i5,n9,simprocAttr,q1];refine bB5 [4] (λa=>o8 (λb=>b=g) B.drew a/\(Instr.loadAt 22 (.pointer (some ⟨g,2,none⟩))).run prog a = .ok Z a) 17 (.op 0 (.op 1 (.op 2 (.op 3 (.op 4 (.op 5 (.op 6 (.op 8 (.op 9 (.op 10 (.op 11 (.op 12 (.fork [7,13] (λi=>if i=7 then(.op 14 (.op 15 (.fork [13,16] (λi=>if i=13 then(A5 [16])else(A5 [13])))))else(A5 [7,14,15,16])))))))))))))))
  (λf' a=>∃m x,f' 100=x/\f' 88 = .pointer (some ⟨g,0,none⟩)/\WS F a g r O W {xA with vn:=m,un:=List.replicate V.length D2} {wc0 with V:=V,E:=(i4 p).we,kv:=as4 V,N:=List.replicate V.length []}/\B0 hZ a TAs x (List.replicate V.length D2)/\(∀b,A0 x b->F.heap.size<=b/\∀i,¬U0 g r {xA with vn:=m,un:=List.replicate V.length D2} i b))
  (by decide +kernel) (by decide +kernel) ⟨o8.refl _,lA⟩ ?_ ?_
 .have C:∀a,WS F a g r O W xA {wc0 with V:=V,E:=(i4 p).we,kv:=as4 V}->(Instr.loadAt 22 (.pointer (some ⟨g,2,none⟩))).run prog a = .ok Z a:=λa s=>s.ld (by rw[<-aH];rfl) ab9;have q:∀a m,WS F a g r O W {xA with vn:=m,un:=List.replicate V.length D2} {wc0 with V:=V,E:=(i4 p).we,kv:=as4 V,N:=List.replicate V.length []}->(Instr.loadAt 22 (.pointer (some ⟨g,2,none⟩))).run prog a = .ok Z a:=λa m s=>s.ld (by rw[<-aH];rfl) ab9;have hE:∀a,o6 B.drew a->o8 (λb=>b=g) B.drew a:=λa h=>h.weaken λ_ _ h=>h.elim;have an:∀(m:Value),(∀b,A0 m b->B.drew.heap.size<=b)->∀b,A0 m b->F.heap.size<=b/\∀i,¬U0 g r xA i b:=λm bH b o=>⟨ef9 M.ext.size (bH b o),λi h=>by have:=M.lt h;have:=bH b o;omega⟩;have aj:∀(m x:Value),(∀b,A0 x b->B.drew.heap.size<=b)->(∀b,A0 m b->¬A0 x b)->∀b,A0 x b->F.heap.size<=b/\∀i,¬U0 g r {xA with vn:=m,un:=List.replicate V.length D2} i b:=λm x bI hd b o=>⟨(an x bI b o).1,λi h=>by
   rcases cS9 h with h|h
   .exact(an x bI b o).2 i h
   .exact hd b h o⟩
  simp only[D0,A5,i5,n9,simprocAttr,a4,t2,aW,a2];refine V1 (by decide +kernel) (λi Y=>?_);simp only[eh0,ek1,eq2]at Y;rcases Y with rfl|rfl
  .obtain⟨m,wA,m1,oa,X,fa⟩:=mkA (w:=B.drew) am;have I:=M.more X;simp only[D0,i5,n9,simprocAttr,m1,F2];refine⟨⟨hE _ X,C _ I⟩,?_⟩;refine V1 (by decide +kernel) (λi Y=>?_);simp only[eh0,ek1,eq2]at Y;rcases Y with rfl|rfl
   .obtain⟨x,wB,m2,ob,T,fb⟩:=mkA (w:=wA) am;have J:=I.more T;obtain⟨wC,q3,sD,A⟩:=J.putN (oa.ext T) (an m fa);have aF:∀b,A0 x b->B.drew.heap.size<=b:=λb o=>ef9 X.size (fb b o);simp only[D0,i5,simprocAttr,m2,q3,F2];refine⟨⟨hE _ (X.trans T),C _ J⟩,⟨(hE _ (X.trans T)).trans A,q _ _ sD⟩,m,x,by trivial,by trivial,sD,ob.mod A λb o b3=>?_,aj m x aF λb h1 h2=>?_⟩
    .have:=M.lt (i:=0) rfl;have:=aF b o;omega
    .have:=oa.lt h1;have:=fb b h2;omega
   .obtain⟨wB,q3,sD,A⟩:=I.putN oa (an m fa);obtain⟨x,wC,m2,ob,T,fb⟩:=mkA (w:=wB) am;have aF:∀b,A0 x b->B.drew.heap.size<=b:=λb o=>ef9 X.size (ef9 A.size (fb b o));simp only[D0,i5,simprocAttr,m2,q3,F2];refine⟨⟨(hE _ X).trans A,q _ _ sD⟩,⟨((hE _ X).trans A).trans (T.weaken λ_ _ h=>h.elim),q _ _ (sD.more T)⟩,m,x,by trivial,by trivial,sD.more T,ob,aj m x aF λb h1 h2=>?_⟩;have:=oa.lt h1;have:=fb b h2;have:=A.size;omega
  .obtain⟨x,wA,m2,ob,T,fb⟩:=mkA (w:=B.drew) am;obtain⟨m,wB,m1,oa,X,fa⟩:=mkA (w:=wA) am;have I:=M.more T;have J:=I.more X;have b6:∀b,A0 m b->B.drew.heap.size<=b:=λb o=>ef9 T.size (fa b o);obtain⟨wC,q3,sD,A⟩:=J.putN oa (an m b6);simp only[D0,i5,n9,simprocAttr,m1,m2,q3,F2];refine⟨⟨hE _ T,C _ I⟩,⟨hE _ (T.trans X),C _ J⟩,⟨(hE _ (T.trans X)).trans A,q _ _ sD⟩,m,x,by trivial,by trivial,sD,(ob.ext X).mod A λb o b3=>?_,aj m x fb λb h1 h2=>?_⟩
   .have:=M.lt (i:=0) rfl;have:=fb b o;omega
   .have:=ob.lt h2;have:=fa b h1;omega
 rintro fA wA hk ⟨m,x,bi,bX,I,ob,cc⟩;simp only[ei3,B3,simprocAttr]at hk;obtain⟨b4,_⟩:=hk;obtain⟨wC,q3,J,_⟩:=I.putP ob cc;simp only at J;generalize cl:({xA with vn:=m,un:=List.replicate V.length D2,vp:=x,up:=List.replicate V.length D2}:WX)=xC at J;have a7:xC.vE=u8:=by rw[<-cl,<-aH]
 have lC:=J.ld (i:=3) (u:=u8) (by rw[<-a7];rfl) bj4;have bm:=J.oE.isS;have a1:=J.oE.vlen;rw[a7]at bm a1;simp only at a1;generalize bZ:(i4 p).we=Es at *;have bL:WS F wC g r O W xC {wc0 with V:=V,E:=Es,kv:=as4 V,N:=Z6 V (Es.take 0),P:=X5 V (Es.take 0)}:=by
  rw[ep6,cS8,cT5];exact J
 simp only[D0,i5,n9,simprocAttr,b4,a4,bi,bX,q3,lC,bm,a1];refine A6 [4,108,109] (σ:=Nat×List X9×List X9) (λt f a=>f 110 = .int .i64 t.1/\t.1<=Es.length/\WS F a g r O W {xC with un:=t.2.1,up:=t.2.2} {wc0 with V:=V,E:=Es,kv:=as4 V,N:=Z6 V (Es.take t.1),P:=X5 V (Es.take t.1)}) (λt=>Es.length-t.1) (0,xC.un,xC.up) ?_ ?_
 .simp only[B3,simprocAttr];exact⟨by trivial,eg3 _,bL⟩
 clear J bL;rintro⟨k,un,up⟩ fB wB ⟨c4,bf,bg,_⟩ ⟨Q,a0,I⟩;simp only at Q a0 I;rw[b4,a4]at c4;simp only[i5,n9,simprocAttr,Q,bg];refine y5 (λl=>?_) ?_;rotate_left
 .rintro rfl;rw[eg4]at I;simp only[i5,simprocAttr,c4];refine o7 results46 ?_;simp only[B3,simprocAttr];refine⟨λh=>(by cases h),λ_=>⟨F,g,r,O,W,{xC with un:=un,up:=up},rfl,aO,G,(by rw[b2];exact U),?_⟩,aO.trans I.ext⟩;rw[hV,bZ,ei5];exact I
 have aU:=I.rE;simp only[a7]at aU;have ak:=aU.inS l;obtain⟨sv,ao,H⟩:=F5 (P:=prog) (t:=66) aU (n7 _) (ef1 l) bv5 bv8 aY1 an3;rw[an3]at H;have bE:=ef8 l;generalize Es[k]=e at ao bE;obtain rfl:=ao.N;obtain⟨d,wz,wD,aY,a6,cm,bt⟩:=cc3 (w:=wB) (λ_=>False) (SV.ofN (m8 wB) e) λb o=>o.elim;have sD:=I.more cm;have lD:=(I6.eg_v (SV.ofN (m8 wB) e) bt).1 wD (A8 _ _);simp only[i5,n9,y4,simprocAttr,Q,c4,bf,ak,H,aY,a6,lD];refine t8 (cG8 sD rfl (Es.take k) rfl rfl bD (by simp only[];omega) (by rw[eg0];omega) e) ?_;rintro _ wE ⟨u1,u2,sE,_,_⟩;simp only at sE;rw[<-bE]at sE;simp only[i5,n9,simprocAttr,Q];exact T4 (k+1,_,_) sE
def dU2{P:Program}{α:Type}[A3 α]{h:Hp}{w:World}{N:Nat->Prop}{T:TypeId}{v:Value}{x:α}(hv:SV h v x)(hN:∀b,N b->b<w.heap.size){z:Value}(k:H3 P T=some z)(c:z.cells.size=N0 P T)(j:N0 P T=A3.sz α):
  ∃a e d,(Instr.alloc T true (.tuple #[])).run P w = .ok (.pointer (some a)) e/\(Instr.storeAt T (.pointer (some a)) v).run P e = .ok () d/\o6 w e/\o6 w d/\I6 (C1 d N) a v:=by
 obtain⟨cs,rfl,f⟩:=hv;obtain⟨g,i⟩:=aA5 (P:=P) (w:=w) (T:=T) k c (cs:=List.toArray cs) (by simpa[j]using A3.len f) (by simpa using A3.one f);exact⟨_,_,_,g,i,o6.alloc w _,o6.alloc w _,bV8 hN⟩
def cj8{h:Hp}{w:World}{v:Value}{V:List Vx}(c:R h v V)(hw:B8 h (m8 w)){k:Nat}{y:Vx}(d:V[k]?=some y):(Instr.loadAt 26 (.pointer (some (G9 v (k*4))))).run prog w = .ok (.agg (p8.cells y).toArray) w:=by
 obtain⟨e,b,a⟩:=F5 (P:=prog) (t:=26) c hw d ar8 as0 am4 N6;rw[N6]at a;obtain rfl:=b.N;exact a
def wcC(p:Pg)(C S:List Eg):WC:=⟨(i4 p).wv,(i4 p).we,S,as4 (i4 p).wv,Z6 (i4 p).wv ((i4 p).we++C),X5 (i4 p).wv ((i4 p).we++C)⟩
structure HS (p:Pg) (w1 w:World) (g r:Nat) (ab:Addr) (vP:Value) (rh:Nat) (x:WX) (C:List Eg):Prop where
 ws:WS w1 w g r ab vP x (wcC p C C)
 has:ax0 ct8 w rh (be8 (i4 p).wv C)
 ge:w1.heap.size<=rh
 off:∀i,¬U0 g r x i rh
 sum:bw3 p C
def hN(g r a:Nat)(x:WX)(b:Nat):Prop:=b=a\/cc6 g r x b
section
variable {p:Pg} {w1 w:World} {g r:Nat} {ab:Addr} {vP:Value} {rh:Nat} {x:WX} {C:List Eg}
def HS.lt(s:HS p w1 w g r ab vP rh x C){b:Nat}(h:hN g r rh x b):b<w.heap.size:=by
 rcases h with rfl|⟨i,h⟩
 .exact s.has.lt
 .exact s.ws.lt h
def HS.more(s:HS p w1 w g r ab vP rh x C){b:World}(a:o6 w b):HS p w1 b g r ab vP rh x C:=⟨s.ws.more a,s.has.mod a id,s.ge,s.off,s.sum⟩
def HS.kinds(s:HS p w1 w g r ab vP rh x C):∀e∈C,e.kind=3/\e.src∈(i4 p).wv/\e.dst∈(i4 p).wv:=λe a=>⟨(s.sum.kind a).1,(s.sum.kind a).2.1,(s.sum.kind a).2.2.1⟩
end
def bs9(V:List Vx)(a:A9)(t:Int×Int)(e:Eg):Prop:=t.2=6/\∃v,V[t.1.toNat]?=some v/\(⟨v.proc,5,v.id,a⟩:Vx)∈V/\e=⟨⟨v.proc,5,v.id,a⟩,v,3⟩
def dd1{V:List Vx}{L:List Eg}{b:Nat}{a:A9}{c e:Eg}(k:c∈L)(j:e∈ax9 V b a c):∃t∈(L.filter λe=>decide (E5 V e.src=b)).map (λe=>(((E5 V e.dst:Nat):Int),e.kind)),bs9 V a t e:=by
 obtain⟨⟨d,f⟩,v,g,h,i⟩:=aE7.1 j;exact⟨_,eh4.2 ⟨c,eh8.2 ⟨k,by simpa using f⟩,rfl⟩,d,v,by simpa using g,h,i⟩
def dd2{V:List Vx}{L:List Eg}{b:Nat}{a:A9}{e:Eg}{t:Int×Int}(l:t∈(L.filter λe=>decide (E5 V e.src=b)).map (λe=>(((E5 V e.dst:Nat):Int),e.kind)))(h:bs9 V a t e):∃d∈L,e∈ax9 V b a d:=by
 obtain⟨d,c,rfl⟩:=eh4.1 l;obtain⟨c,g⟩:=eh8.1 c;obtain⟨f,v,i,j,k⟩:=h;exact⟨d,c,aE7.2 ⟨⟨f,ef3 g⟩,v,by simpa using i,j,k⟩⟩
def dd3{p:Pg}{w1 w:World}{g r:Nat}{ab:Addr}{vP:Value}{D:Nat}{x:WX}{C:List Eg}(s:HS p w1 w g r ab vP D x C)(hR:E0 p=true)(hw:B7 p<=1000000)(al m:Nat){vi vo:Vx}(ba:(i4 p).wv[al]?=some vi)(cb:vi.kind=3)(aK:(i4 p).wv[m]?=some vo)(ce:vo.kind=4)
  (bI:Z5 (R4 (i4 p).wv ((i4 p).we++C) [1,2,3]) (al:Int) (m:Int)) :
  o9 prog 82 #[.pointer (some ⟨g,0,none⟩),.int .i64 al,.int .i64 m,.map (some D)] w λu j=>(∃(y:Bool) (x':WX) (X:List Eg),u = .bool y/\HS p w1 j g r ab vP D x' X/\(∀e∈C,e∈X)/\(y=false->X=C)/\(y=true->C.length<X.length) /\
   (∀xe∈(i4 p).we++C,∀e∈ax9 (i4 p).wv m vi.slot xe,e∈X)/\o8 (hN g r D x) w j/\(∀i b,U0 g r x' i b->U0 g r x i b\/w.heap.size<=b)/\x'.vV=x.vV):=by
 refine p9 [.pointer (some ⟨g,0,none⟩),.int .i64 al,.int .i64 m,.map (some D)] func82 rfl ?_;have hr:=G6 hR;have h0:=ag5 hr.toKnown;have hn:=at1 hr hw;have cp:=bp6 hr hw;have ck:m<(i4 p).wv.length:=(ef6.1 aK).1;have b3:al<(i4 p).wv.length:=(ef6.1 ba).1;have aU:∀{a:Nat} {v:Vx},(i4 p).wv[a]?=some v->E5 (i4 p).wv v=a:=λh=>cI0 (aA2 hr hw) h;have cs:A3.sz Vx=4:=rfl;have ax:∀X,bw3 p X->(Z6 (i4 p).wv ((i4 p).we++X))[m]?=some (((i4 p).we.filter λe=>decide (E5 (i4 p).wv e.src=m)).map λe=>(((E5 (i4 p).wv e.dst:Nat):Int),e.kind)):=λX h=>by
  rw[bR4 ck,el7];have:X.filter (λe=>decide (E5 (i4 p).wv e.src=m))=[]:=List.filter_eq_nil_iff.2 λe A=>by
   obtain⟨_,h2,_,h4⟩:=h.kind A;simp only[ei8];intro hh;have h5:=ar0 h2;rw[hh,aK]at h5;rw[<-eh1 h5]at h4;omega
  rw[this,ei5]
 have bG:∀t e,t∈((i4 p).we.filter λe=>decide (E5 (i4 p).wv e.src=m)).map (λe=>(((E5 (i4 p).wv e.dst:Nat):Int),e.kind))->bs9 (i4 p).wv vi.slot t e->∃xe∈(i4 p).we,e∈ax9 (i4 p).wv m vi.slot xe:=λt e ht h=>dd2 ht h;have bx:∀xe e,xe∈(i4 p).we++C->e∈ax9 (i4 p).wv m vi.slot xe->∃t∈((i4 p).we.filter λe=>decide (E5 (i4 p).wv e.src=m)).map (λe=>(((E5 (i4 p).wv e.dst:Nat):Int),e.kind)),bs9 (i4 p).wv vi.slot t e:=λxe e hx A=>by
  rcases eg1.1 hx with h|h
  .exact dd1 h A
  .have:=(s.sum.kind h).1;have:=(aE7.1 A).1.1;omega
 have bB:∀t∈((i4 p).we.filter λe=>decide (E5 (i4 p).wv e.src=m)).map (λe=>(((E5 (i4 p).wv e.dst:Nat):Int),e.kind)),∃T:Nat,t.1=(T:Int)/\T<(i4 p).wv.length:=λt ht=>by
  obtain⟨e,_,rfl⟩:=eh4.1 ht;exact⟨_,rfl,aU4 h0 _⟩
 have cm:(((i4 p).we.filter λe=>decide (E5 (i4 p).wv e.src=m)).map (λe=>(((E5 (i4 p).wv e.dst:Nat):Int),e.kind))).length<=960480000:=by
  rw[eg5];exact ef9 (eh9 _ _) cp
 generalize((i4 p).we.filter λe=>decide (E5 (i4 p).wv e.src=m)).map (λe=>(((E5 (i4 p).wv e.dst:Nat):Int),e.kind))=row at ax bG bx bB cm;obtain⟨u0,aJ⟩:∃u,x.un[m]?=some u:=by
  have h1:=s.ws.rn.len;have h2:(wcC p C C).N.length=(i4 p).wv.length:=aU3;exact⟨_,ef1 (by omega)⟩
 have cg:=aK2 (P:=prog) (t:=216) s.ws.rn aJ cb7;have bz:=s.ws.rn.row m u0 row aJ (ax C s.sum);simp only[i5,n9,y4,simprocAttr,s.ws.ld (i:=6) (u:=x.vn) rfl bj5,s.ws.rn.outer.inS (ef6.1 aJ).1,cg,bz.isS,bz.vlen];refine D9 [0,1,2,3,21,22] (σ:=(Nat×Bool)×(WX×List Eg)) (λt f j=>f 23 = .int .i64 t.1.1/\f 8 = .bool t.1.2/\t.1.1<=row.length/\HS p w1 j g r ab vP D t.2.1 t.2.2/\t.2.1.un[m]?=some u0/\(∀e∈C,e∈t.2.2)/\(t.1.2=false->t.2.2=C)/\(t.1.2=true->C.length<t.2.2.length) /\
  (∀q∈row.take t.1.1,∀e,bs9 (i4 p).wv vi.slot q e->e∈t.2.2)/\o8 (hN g r D x) w j/\(∀i b,U0 g r t.2.1 i b->U0 g r x i b\/w.heap.size<=b)/\t.2.1.vV=x.vV) (λt=>row.length-t.1.1) ((0,false),(x,C)) ?_ ?_
 .simp only[B3,simprocAttr];exact⟨by trivial,by trivial,eg3 _,s,aJ,λ_ h=>h,λ_=>by trivial,λh=>(by cases h),λq hq=>(by simp at hq),o8.refl _,λi b h=>.inl h,by trivial⟩
 rintro⟨⟨k,y⟩,o,B⟩ f w2 hk ⟨Y,h8,cd,s2,ak,E,ah,aj,J,bs,W,I⟩;simp only at Y h8 cd s2 ak E ah aj J W I;simp only[ei3,B3,simprocAttr]at hk;obtain⟨e0,e1,e2,e3,bh,bY,_⟩:=hk;simp only[i5,n9,simprocAttr,Y,bY];refine y5 (λar=>?_) ?_;rotate_left
 .rintro rfl;rw[eg4]at J;simp only[i5,simprocAttr,h8];refine o7 results82 ⟨y,o,B,rfl,s2,E,ah,aj,λxe hx e A=>?_,bs,W,I⟩;obtain⟨t,ht,h⟩:=bx xe e hx A;exact J t ht e h
 have bH:R (m8 w2) u0.v row:=(s2.ws.rn.row m u0 row ak (ax B s2.sum)).flatRN λ_ _=>rfl;have aS:=bH.inS ar;have ae:=dA2 bH (n7 _) (ef1 ar);obtain⟨T,a2,a3⟩:=bB _ (eg2 ar);have bE:=ef8 ar;have bF:=eg2 ar;generalize row[k]=t at ae a2 bE bF;obtain⟨t1,q⟩:=t;simp only at a2;subst a2;simp only at ae;have L:∀X:List Eg,(∀e∈B,e∈X)->(∀e,bs9 (i4 p).wv vi.slot ((T:Int),q) e->e∈X)->∀q'∈row.take (k+1),∀e,bs9 (i4 p).wv vi.slot q' e->e∈X:=λX h1 h2 q' hq e A=>by
  rw[bE]at hq;rcases eg1.1 hq with h|h
  .exact h1 e (J q' h e A)
  .simp only[eh2]at h;subst h;exact h2 e A
 obtain⟨ca,dg,S,aO,aW,bJ,a5,cK⟩:=dn1 (w:=w2) (T:Int) q;obtain⟨c4,bN⟩:=aG1 a5 (o8.refl (M:=λ_=>False) S) id;have s3:=s2.more bJ;have bt:o8 (hN g r D x) w S:=bs.trans (o8.up bJ);rcases ef2 (!decide (q=6))with hq|hq
 .have aI:¬q=6:=by simpa using hq
  have cl:decide (q=6)=false:=by simpa using aI
  simp only[i5,n9,y4,simprocAttr,Y,h8,bh,aS,ae,aO,aW,bN,cl];exact nx4 ((k+1,y),(o,B)) ⟨s3,ak,E,ah,aj,L B (λ_ h=>h) λe A=>absurd A.1 aI,bt,W,I⟩
 have aI:q=6:=by simpa using hq
 subst aI;have aL:=s3.more (o6.drew S);have a1:R (m8 S.drew) o.vV (i4 p).wv:=aL.ws.rV;have ao:(i4 p).wv[T]?=some (i4 p).wv[T]:=ef1 a3;have aH:=aU ao;have bb:=eg2 a3;have bq:=a1.inS a3;have aq:=a1.inS b3;generalize co:(i4 p).wv[T]=v at ao aH bb;clear co;obtain⟨d,dh,z,bl,aX,bL,bK,aP⟩:=dU2 (P:=prog) (w:=S.drew) (N:=hN g r D o) (T:=26) (SV.ofN (m8 S.drew) v) (λb G=>aL.lt G) aS3 rfl N6;have k1:∀K f d c,F7 prog (λj=>o6 S.drew j) (Instr.loadAt 22 (.pointer (some ⟨g,2,none⟩))) K f d c=K (C9 f d o.vV) c:=λK f d c=>C0 (w0:=S.drew) (o8.refl _) λj h=>(aL.more h).ws.ld (u:=o.vV) rfl ab9;have k2:∀K f d c,F7 prog (λj=>o6 S.drew j) (Instr.loadAt 3 (.pointer (some ⟨ca,0,none⟩))) K f d c=K (C9 f d (.int .i64 (T:Int))) c:=λK f d c=>C0 (w0:=S.drew) (o8.refl _) λj h=>(aG1 a5 ((o6.drew S).trans h) id).1;have k3:∀K f d c,F7 prog (λj=>o6 S.drew j) (Instr.loadAt 26 (.pointer (some (G9 o.vV (T*4))))) K f d c=K (C9 f d (.agg (p8.cells v).toArray)) c:=λK f d c=>C0 (w0:=S.drew) (o8.refl _) λj h=>cj8 a1 (b7 h) ao;have cL:decide ((6:Int)=6)=true:=rfl;simp only[i5,n9,y4,simprocAttr,Y,bh,aS,ae,aO,aW,bN];refine B9 (λj=>o6 S.drew j) 9 (A5 [0,1,2,3,4,5,6,7,8]) ?_;simp only[D0,A5,i5,n9,y4,simprocAttr,e0,k1,k2,k3,bq,bl,F2];refine⟨bL,?_⟩;have s5:=(aL.more bK).more (o6.drew z);have aY:o6 S z.drew:=((o6.drew S).trans bK).trans (o6.drew z);have aE:o8 (hN g r D x) w z.drew:=bt.trans (o8.up aY);have bk:R (m8 z.drew) o.vV (i4 p).wv:=s5.ws.rV;have aQ:=bk.at_ ba;rw[cs]at aQ;obtain⟨_,cB⟩:=aQ.vx;have m1:∀K f d c,F7 prog (λj=>j=z.drew) (Instr.loadAt 88 (.pointer (some ⟨g,5,none⟩))) K f d c=K (C9 f d (.map (some r))) c:=λK f d c=>C0 (w0:=z.drew) rfl λj h=>by subst h;exact s5.ws.ld rfl cp5
 have m2:=(I6.vx (SV.ofN (m8 S.drew) v) aP).2 (λj=>j=z.drew) z.drew rfl λj h=>by subst h;exact A8 z _
 have m3:∀K f d c,F7 prog (λj=>j=z.drew) (Instr.loadAt 22 (.pointer (some ⟨g,2,none⟩))) K f d c=K (C9 f d o.vV) c:=λK f d c=>C0 (w0:=z.drew) rfl λj h=>by subst h;exact s5.ws.ld (u:=o.vV) rfl ab9
 have m4:=cB (λj=>j=z.drew) z.drew rfl λj h=>by subst h;exact n7 _
 have V:=s5.ws.lookOk ⟨v.proc,5,v.id,vi.slot⟩;have cf:(wcC p B B).kv=as4 (i4 p).wv:=rfl;rw[cf,aT4]at V;have aD:=cf0 v.proc 5 v.id vi.slot;generalize ad:(⟨v.proc,5,v.id,vi.slot⟩:Vx)=l at V aD;have a6:∀e,bs9 (i4 p).wv vi.slot ((T:Int),6) e->l∈(i4 p).wv/\e=⟨l,v,3⟩:=λe A=>by
  obtain⟨_,v',h1,h2,h3⟩:=A;rw[eh6,ao]at h1;obtain rfl:=eh1 h1;rw[ad]at h2 h3;exact⟨h2,h3⟩
 cases hak:atV (i4 p).wv l with
 | none=>
  rw[hak]at V;simp only[Option.map_none,Option.getD_none,Option.isSome_none]at V;have m5:∀K f d c,F7 prog (λj=>j=z.drew) (Instr.lookup 88 (.map (some r)) (.agg (p8.cells l).toArray) true) K f d c=K (C9 f d (.tuple #[.int .i64 0,.bool false])) c:=λK f d c=>C0 (w0:=z.drew) rfl λj h=>by subst h;exact V
  simp only[i5,simprocAttr,aX];refine B9 (λj=>j=z.drew) 22 (A5 [0,1,2,3,4,5,6,7,8,9,10,11,12,13,14,15,16,17,18,19,20,21]) ?_;simp only[D0,A5,i5,n9,y4,simprocAttr,e0,e1,m1,m2,m3,m4,m5,aq,aD,Y,h8];exact⟨((k+1,y),(o,B)),by simp only[];omega,by simp only[];rw[H8 k],by trivial,by simp only[];omega,s5,ak,E,ah,aj,L B (λ_ h=>h) λe A=>(by
   have:=ab2.2 (a6 e A).1;rw[hak]at this;cases this),aE,W,I⟩
 | some F=>
  rw[hak]at V;simp only[el5,ek4,Option.isSome_some]at V;have an:=bd4 hak;have b0:=cY3 hak;have aG:=aU an;have a7:l∈(i4 p).wv:=eh3 an;have m5:∀K f d c,F7 prog (λj=>j=z.drew) (Instr.lookup 88 (.map (some r)) (.agg (p8.cells l).toArray) true) K f d c=K (C9 f d (.tuple #[.int .i64 (F:Int),.bool true])) c:=λK f d c=>C0 (w0:=z.drew) rfl λj h=>by subst h;exact V
  have aR:=cG2 s5.kinds a7 bb;rw[aG,aH]at aR;have Z:=s5.has.lookup (P:=prog) dN9 Tryz.underlying143 W5 ((F:Int),(T:Int));rw[aR]at Z;have Z:(Instr.lookup 143 (.map (some D)) (.agg #[.int .i64 (F:Int),.int .i64 (T:Int)]) false).run prog z.drew = .ok (.bool (decide ((⟨l,v,3⟩:Eg)∈B))) z.drew:=Z;have bn:=bW2 (F:Int) (T:Int);obtain⟨bO,_⟩:=aG1 a5 aY id;simp only[i5,simprocAttr,aX];refine B9 (λj=>j=z.drew) 22 (A5 [0,1,2,3,4,5,6,7,8,9,10,11,12,13,14,15,16,17,18,19,20,21]) ?_;rcases ef2 (decide ((⟨l,v,3⟩:Eg)∈B))with hmem|hmem
  .rw[hmem]at Z;simp only[D0,A5,i5,n9,y4,simprocAttr,e0,e1,e3,m1,m2,m3,m4,m5,aq,aD,Y,h8,bO,bn,Z];exact nx4 ((k+1,y),(o,B)) ⟨s5,ak,E,ah,aj,L B (λ_ h=>h) λe A=>(by rw[(a6 e A).2];exact ef3 hmem),aE,W,I⟩
  rw[hmem]at Z;have bv:=ef7 hmem;have bw:=dd6 s5.kinds a7 bb bv;rw[aG,aH]at bw;obtain⟨H,q8,a8,au⟩:=s5.has.push (P:=prog) dN9 Tryz.underlying143 bw (.bool true);have q8:(Instr.mapUpdate 143 (.map (some D)) (.agg #[.int .i64 (F:Int),.int .i64 (T:Int)]) (.bool true)).run prog z.drew = .ok () H:=q8;have cD:=s5.ws.mod au λb G=>by subst G;exact⟨s5.ge,s5.off⟩
  simp only[D0,A5,i5,n9,y4,simprocAttr,e0,e1,e3,m1,m2,m3,m4,m5,aq,aD,bO,bn,Z,aJ7,q8];have aA:=cD.more (o6.drew H);have aN:R (m8 H.drew) o.vV (i4 p).wv:=aA.rV;have bp:=aN.inS b0;have aC:B8 (C1 z (hN g r D o)) (m8 H.drew):=H2 (p7 (A8 z _) (b7 (o6.drew z))) (au.trans (o8.up (o6.drew H))) λb G=>by subst G;exact F9 (.inl rfl)
  obtain⟨bW,bU,n,ap,a9,ay,ag,a4⟩:=dU2 (P:=prog) (w:=H.drew) (N:=hN g r D o) (T:=66) (SV.ofN (m8 H.drew) (⟨l,v,3⟩:Eg)) (λb G=>el8 (s5.lt G) au.size) cJ6 rfl an3;have n1:∀K f d c,F7 prog (λj=>o6 H.drew j) (Instr.loadAt 22 (.pointer (some ⟨g,2,none⟩))) K f d c=K (C9 f d o.vV) c:=λK f d c=>C0 (w0:=H.drew) (o8.refl _) λj h=>(aA.more h).ld (u:=o.vV) rfl ab9;have n2:∀K f d c,F7 prog (λj=>o6 H.drew j) (Instr.loadAt 26 (.pointer (some (G9 o.vV (F*4))))) K f d c=K (C9 f d (.agg (p8.cells l).toArray)) c:=λK f d c=>C0 (w0:=H.drew) (o8.refl _) λj h=>cj8 aN (b7 h) an;have n3:=(I6.vx_v (SV.ofN (m8 S.drew) v) aP).2 (λj=>o6 H.drew j) H.drew (o8.refl _) λj h=>p7 aC (b7 h);have bm:=bA5 l v 3;refine bB5 [0,8,23] (λj=>o6 H.drew j) 10 (.op 0 (.op 1 (.op 2 (.op 3 (.op 4 (.op 5 (.op 6 (.op 7 (.fork [8,9] (λi=>if i=8 then(A5 [9])else(A5 [8])))))))))))
   (λf' j=>f' 14 = .pointer (some bW)/\f' 82 = .agg (p8.cells (⟨l,v,3⟩:Eg)).toArray/\j=bU) (by decide +kernel) (by decide +kernel) (o8.refl _) ?_ ?_
  .simp only[D0,A5,i5,n9,y4,simprocAttr,e0,n1,n2,n3,bp];refine V1 (by decide +kernel) (λi hi=>?_);simp only[eh0,ek1,eq2]at hi;rcases hi with rfl|rfl
   .simp only[D0,i5,simprocAttr,bm,ap,F2];exact⟨ay,by trivial,by trivial,by trivial⟩
   .simp only[D0,i5,simprocAttr,bm,ap,F2];exact⟨ay,by trivial,by trivial,by trivial⟩
  rintro f9 _ hk ⟨aZ,bZ,rfl⟩;simp only[ei3,B3,simprocAttr]at hk;obtain⟨j0,j8,cu,_⟩:=hk;have bS:=(aA.more ag).more (o6.drew n);have cM:=s2.sum.few hr hw;obtain⟨p1,hS,v',df,be,p2,p3,bT,p4,af,av⟩:=bS.pushS (⟨l,v,3⟩:Eg) (by show B.length<=_;omega) (e:=54);have o1:∀K f d c,F7 prog (λj=>o8 (A0 o.vS) n.drew j) (Instr.loadAt 54 (.pointer (some ⟨g,4,none⟩))) K f d c=K (C9 f d o.vS) c:=λK f d c=>C0 (w0:=n.drew) (o8.refl _) hS;have U:B8 (C1 n (hN g r D o)) (m8 n.drew):=p7 (A8 n _) (b7 (o6.drew n));have bo:=I6.eg_v (SV.ofN (m8 H.drew) (⟨l,v,3⟩:Eg)) a4;have o2:=bo.2 (λj=>o8 (A0 o.vS) n.drew j) n.drew (o8.refl _) λj h=>H2 U h λb G=>F9 (.inr ⟨4,G⟩);have bM:=bo.1 be (H2 U af λb G=>by
   rcases G with G|G
   .exact F9 (.inr ⟨0,G⟩)
   .exact F9 (.inr ⟨4,G⟩))
  rw[e0]at j0;simp only[D0,i5,simprocAttr,aZ,bZ,a9];refine B9 (λj=>o8 (A0 o.vS) n.drew j) 8 (A5 [0,1,2,3,4,5,6,7]) ?_;simp only[D0,A5,i5,n9,simprocAttr,j0,aZ,o1,o2,p1,p2,F2];refine⟨o8.up (o6.alloc _ _),p4,?_⟩;simp only[i5,simprocAttr,j0,aZ,p3,bM];refine t8 (cG8 bT rfl ((i4 p).we++B) rfl rfl h0 (by show(i4 p).wv.length<=_;omega) (by rw[ef4];omega) ⟨l,v,3⟩) ?_;rintro _ aM ⟨u1,u2,az,aT,Q⟩;have cc:l.kind=5:=by rw[<-ad]
  have b1:F≠m:=λh=>by
   rw[h,aK]at an;rw[<-eh1 an]at cc;omega
  have cQ:w.heap.size<=z.drew.heap.size:=aE.size;have cR:z.drew.heap.size<=H.drew.heap.size:=(au.trans (o8.up (o6.drew H))).size;have cn:H.drew.heap.size<=n.drew.heap.size:=(ag.trans (o6.drew n)).size;have cP:D<z.drew.heap.size:=s5.has.lt;have O:∀i,¬U0 g r {o with vS:=v'} i D:=λi h=>by
   rcases av i D h with h|h
   .exact s2.off i h
   .omega
  have aw:∀i b,U0 g r {o with vS:=v'} i b->U0 g r x i b\/w.heap.size<=b:=λi b h=>by
   rcases av i b h with h|h
   .exact W i b h
   .exact .inr (by omega)
  have cO:C.length<=B.length:=by
   cases y with
   | false=>rw[ah rfl];exact eg6 _
   | true=>exact Nat.le_of_lt (aj rfl)
  have bC:(⟨l,v,3⟩:Eg)∈(i4 p).sums:=by
   obtain⟨xe,cr,A⟩:=bG _ (⟨l,v,3⟩:Eg) bF ⟨rfl,v,by simpa using ao,by rw[ad];exact a7,by rw[ad]⟩;refine cV6 s2.sum.le ⟨m,vo,(al:Int),vi,aK,ce,bK1 (λe A=>?_) bI,by simpa using ba,cb,xe,ei1 _ cr,A⟩;rcases eg1.1 A with h|h
   .exact ei1 _ h
   .exact ej4 _ (E e h)
  have ch:o8 (hN g r D x) w H.drew:=aE.trans ((au.weaken λb _ G=>.inl G).trans (o8.up (o6.drew H)));have ci:o8 (hN g r D x) w n.drew:=ch.trans (o8.up (ag.trans (o6.drew n)));have bu:o8 (hN g r D x) w be:=ci.chain af λb G h=>by
   rcases h with h|h
   .exact .inr ⟨0,(W 0 b h).resolve_right (by omega)⟩
   .exact .inr ⟨4,(W 4 b h).resolve_right (by omega)⟩
  have cj:o8 (hN g r D x) w aM:=bu.chain aT λb G h=>by
   rcases h with h|h
   .exact .inr ⟨5,(aw 5 b h).resolve_right (by omega)⟩
   .exact .inr ⟨6,(aw 6 b h).resolve_right (by omega)⟩
  obtain⟨ac,bd,bc,az,Q⟩:∃ac:WX,ac.vV=x.vV/\ac.un[m]?=some u0/\WS w1 aM g r ab vP ac (wcC p (B++[⟨l,v,3⟩]) (B++[⟨l,v,3⟩]))/\∀i b,U0 g r ac i b->U0 g r {o with vS:=v'} i b\/be.heap.size<=b:=by
   refine⟨{o with vS:=v',un:=o.un.set (E5 (i4 p).wv l) u1,up:=o.up.set (E5 (i4 p).wv v) u2},I,?_,by unfold wcC;rw[<-ei0];exact az,Q⟩;show(o.un.set (E5 (i4 p).wv l) u1)[m]?=some u0;rw[aG,eo1 b1];exact ak
  have aF:ax0 ct8 aM D (be8 (i4 p).wv (B++[⟨l,v,3⟩])):=by
   have e:be8 (i4 p).wv (B++[⟨l,v,3⟩])=be8 (i4 p).wv B++[(((F:Int),(T:Int)),.bool true)]:=by
    unfold be8;rw[ei4,ej9,List.map_nil,aG,aH]
   rw[e];refine((a8.mod ((o6.drew H).trans (ag.trans (o6.drew n))) id).mod af λh=>?_).mod aT λh=>?_
   .rcases h with h|h
    .exact s2.off 0 h
    .exact s2.off 4 h
   .rcases h with h|h
    .exact O 5 h
    .exact O 6 h
  have b2:HS p w1 aM g r ab vP D ac (B++[⟨l,v,3⟩]):=⟨az,aF,s2.ge,λi h=>by
   rcases Q i D h with h|h
   .exact O i h
   .have:=af.size;omega,⟨by
   rw[ek2];refine⟨s2.sum.nd,by simp,λa ha b G=>?_⟩;simp only[eh2]at G;subst G;rintro rfl;exact bv ha,λe A=>by
   rcases eg1.1 A with h|h
   .exact s2.sum.le e h
   .simp only[eh2]at h;subst h;exact bC⟩⟩
  simp only[i5,n9,simprocAttr,cu,Y];have b4:row.length-(k+1)<row.length-k:=by omega
  have b5:IntKind.i64.wrap ((k:Int)+1)=((k+1:Nat):Int):=H8 k;have b6:k+1<=row.length:=by omega
  have b8:C.length<(B++[(⟨l,v,3⟩:Eg)]).length:=by rw[ef4,ei6];omega
  have b9:=L (B++[⟨l,v,3⟩]) (λe h=>ei1 _ h) (λe A=>by rw[(a6 e A).2];exact ej4 _ (eh2.2 rfl));refine⟨((k+1,true),(ac,B++[⟨l,v,3⟩])),b4,by rw[b5],(by first|exact True.intro|rfl),b6,b2,bc,λe A=>ei1 _ (E e A),λh=>Bool.noConfusion h,λ_=>b8,b9,cj,λi b h=>?_,bd⟩;rcases Q i b h with h|h
  .exact aw i b h
  .exact .inr (ef9 bu.size h)
def by7(V:List Vx)(L C:List Eg)(o i:Nat):Prop:=∀(a:Vx),Z5 (R4 V L [1,2,3]) (i:Int) (o:Int)->V[i]?=some a->a.kind=3->∀x∈L,∀e∈ax9 V o a.slot x,e∈C
def dr7{V:List Vx}{L C:List Eg}{o:Nat}(f:0<V.length)(h:∀i,i<V.length->by7 V L C o i):by8 V L C o:=λq e l i n j c d=>by
 have k:I2 V.length i=true:=by
  have m:=(ef6.1 e).1;have g:=(X4 f).1 j;have:=cc7 (ar1 (V:=V) (L:=L) (ks:=[1,2,3]) f) (a:=(o:Int)) (b:=i) (by rw[ah0];exact B4.2 ⟨by omega,by omega⟩) g;rw[ah0]at this;exact this
 obtain⟨g,p⟩:=B4.1 k;obtain⟨I,rfl⟩:∃I:Nat,i=(I:Int):=⟨i.toNat,by omega⟩;rw[eh6]at c;exact h I (by omega) n j c d
def cM5{V:List Vx}{L:List Eg}{o i:Nat}(b:0<V.length)(k:o<V.length)(j:i<V.length):(I3 (ab7 V L [1,2,3]) (T7 V.length [(o:Int)]))[i]?=some true↔Z5 (R4 V L [1,2,3]) (i:Int) (o:Int):=by
 have e:(I3 (ab7 V L [1,2,3]) (T7 V.length [(o:Int)])).length=V.length:=by rw[K7,G2]
 have h:B1 (I3 (ab7 V L [1,2,3]) (T7 V.length [(o:Int)])) (i:Int)=true↔Z5 (R4 V L [1,2,3]) (i:Int) (o:Int):=by
  rw[R1 (ar1 b) (by rw[ah0,G2])];constructor
  .rintro⟨a,g,c⟩;obtain⟨_,d⟩:=ay4.1 g;simp only[eh2]at d;subst d;exact(X4 b).2 c
  .intro c;exact⟨_,ay4.2 ⟨B4.2 ⟨by omega,by omega⟩,by simp⟩,(X4 b).1 c⟩
 rw[<-h];unfold B1;have f:I2 (I3 (ab7 V L [1,2,3]) (T7 V.length [(o:Int)])).length (i:Int)=true:=B4.2 ⟨by omega,by rw[e];omega⟩;rw[f,em1,eh6,List.getD_eq_getElem?_getD];rw[ef1 (by rw[e];exact j)];simp
def bz8{p:Pg}{w1 w:World}{g r:Nat}{ab:Addr}{vP:Value}{x:WX}(s:WS w1 w g r ab vP x (wcC p [] []))(hR:E0 p=true)(hw:B7 p<=1000000):
  o9 prog 49 #[.pointer (some ⟨g,0,none⟩)] w λu K=>(∃(x':WX) (C:List Eg),u = .pointer (some ⟨g,0,none⟩)/\WS w1 K g r ab vP x' (wcC p C (aC5 C))/\bw3 p C/\(∀e,e∈C↔e∈(i4 p).sums)/\o8 (cc6 g r x) w K):=by
 refine p9 [.pointer (some ⟨g,0,none⟩)] func49 rfl ?_;have hr:=G6 hR;have h0:=ag5 hr.toKnown;have hn:=at1 hr hw;have cr:=bp6 hr hw;have bY:=λe (S:e∈(i4 p).we)=>cK4 hR hw S;have U:=λ(C:List Eg) (h:bw3 p C)=>h.few hr hw;have b0:A3.sz Vx=4:=rfl;obtain⟨aG,be,aK⟩:=ax0.new (P:=prog) (enc:=ct8) w 143;have sI:bw3 p []:=⟨by simp,λe S=>by cases S⟩;have am:HS p w1 (w.alloc (.map #[] 0)) g r ab vP w.heap.size x []:=⟨s.more aK,be,s.ext.size,λi h=>by have:=s.lt h;omega,sI⟩;generalize w.alloc (.map #[] 0)=wm at aG be aK am;generalize cq:w.heap.size=rh at am aG;have bT:∀C,bw3 p C->OkA (X5 (i4 p).wv ((i4 p).we++C)).length (X5 (i4 p).wv ((i4 p).we++C)):=λC h=>by
  rw[aU8];refine cl4 h0 (λe S=>?_) (by rw[ef4];have:=U C h;omega);rcases eg1.1 S with d|d
  .exact bY e d
  .have:=(h.kind d).1;omega
 simp only[i5,n9,simprocAttr,aJ6,aG];refine A6 [0,3] (σ:=Bool×WX×List Eg) (λt f K=>f 4 = .bool t.1/\HS p w1 K g r ab vP rh t.2.1 t.2.2/\(t.1=false->∀o,o<(i4 p).wv.length->by8 (i4 p).wv ((i4 p).we++t.2.2) t.2.2 o)/\o8 (cc6 g r x) w K/\(∀i b,U0 g r t.2.1 i b->U0 g r x i b\/w.heap.size<=b)) (λt=>2*(15840000-t.2.2.length)+if t.1 then 1 else 0) (true,x,[]) ?_ ?_
 .simp only[B3,simprocAttr];exact⟨by trivial,am,λh=>(by cases h),o8.up aK,λi b h=>.inl h⟩
 clear am sI;rintro⟨bt,x2,C⟩ f w2 ⟨e0,e3,_⟩ ⟨h4,M,z,aa,G⟩;simp only at h4 M z G;have cn:=U C M.sum;cases bt with
 | false=>
  have J:=cV5 M.sum (z rfl);simp only[i5,n9,simprocAttr,h4,e0,M.ws.ld (i:=4) (u:=x2.vS) rfl bj4];refine t8 (aY8 M.ws.oS (by show C.length<=_;omega) (S8 _)) ?_;rintro u3 w3 ⟨bS,bf,bL⟩;obtain⟨cs,a8,bO⟩:=ci9;obtain⟨w4,q1,s4,bQ⟩:=M.ws.putS bf bS (λb I=>.inl (bL b I)) a8 bO;simp only[i5,n9,simprocAttr,q1,e0];exact o7 results49 ⟨_,C,rfl,s4,M.sum,J,(aa.chain bf λb I h=>⟨4,(G 4 b h).resolve_right (by omega)⟩).chain bQ λb I h=>⟨0,h⟩⟩
 | true=>
 have l2:=M.ws.ld (i:=2) (u:=x2.vV) rfl ab9;have bR:vlen x2.vV=(i4 p).wv.length:=M.ws.oV.vlen;simp only[i5,n9,simprocAttr,h4,e0,l2,M.ws.oV.isS,bR];refine A6 [0,3,15,16] (σ:=(Nat×Bool)×(WX×List Eg)) (λt f K=>f 17 = .int .i64 t.1.1/\f 4 = .bool t.1.2/\t.1.1<=(i4 p).wv.length/\HS p w1 K g r ab vP rh t.2.1 t.2.2/\t.2.1.vV=x2.vV/\(t.1.2=false->t.2.2=C/\∀o,o<t.1.1->by8 (i4 p).wv ((i4 p).we++C) C o)/\(t.1.2=true->C.length<t.2.2.length)/\o8 (cc6 g r x) w K/\(∀i b,U0 g r t.2.1 i b->U0 g r x i b\/w.heap.size<=b)) (λt=>(i4 p).wv.length-t.1.1) ((0,false),(x2,C)) ?_ ?_
 .simp only[B3,simprocAttr];exact⟨by trivial,by trivial,eg3 _,M,(by first|exact True.intro|rfl),λ_=>⟨(by first|exact True.intro|rfl),λo ho=>by omega⟩,λh=>(by cases h),aa,G⟩
 clear M l2 z aa G;rintro⟨⟨o,mo⟩,x3,j⟩ f3 w3 ⟨g0,g3,aB,aX,_⟩ ⟨N,ah,bU,s3,an,B,Z,E,n⟩;simp only at N ah bU s3 an B Z n;rw[e0]at g0;rw[e3]at g3;simp only[i5,n9,simprocAttr,N,aX];refine y5 (λak=>?_) ?_;rotate_left
 .rintro rfl;have b9:=U j s3.sum;simp only[i5,simprocAttr,ah];refine⟨(mo,x3,j),?_,by trivial,s3,λh=>?_,E,n⟩
  .simp only[];cases mo with
   | false=>rw[(B rfl).1];simp
   | true=>
    have:=Z rfl;simp only[em4];omega
  .obtain⟨rfl,J⟩:=B h;exact J
 have al:(i4 p).wv[o]?=some (i4 p).wv[o]:=ef1 ak;have a0:R (m8 w3) x2.vV (i4 p).wv:=by rw[<-an];exact s3.ws.rV
 have a7:=a0.inS ak;have aE:=cj8 a0 (n7 _) al;generalize bX:(i4 p).wv[o]=vo at al aE;clear bX;obtain⟨d6,cw,w4,a4,bm,ao,bK⟩:=ap9 (w:=w3) (λ_=>False) (SV.ofN (m8 w3) vo) λb I=>I.elim;have lk:=(I6.vx (SV.ofN (m8 w3) vo) bK).1 w4 (A8 _ _);have s4:=s3.more ao;have aw:by8 (i4 p).wv ((i4 p).we++C) C o->mo=false->j=C/\∀o',o'<o+1->by8 (i4 p).wv ((i4 p).we++C) C o':=λJ h=>⟨(B h).1,λo' cp=>by
  rcases ej6 o' o with d|d
  .exact(B h).2 o' d
  .obtain rfl:o'=o:=by omega
   exact J⟩
 rcases ef2 (decide (vo.kind=4))with h4k|h4k;rotate_left
 .have J:by8 (i4 p).wv ((i4 p).we++C) C o:=λv d h2=>by
   rw[al]at d;rw[<-eh1 d]at h2;exact absurd h2 (ef7 h4k)
  simp only[i5,n9,y4,simprocAttr,N,ah,aB,a7,aE,a4,bm,lk,h4k];exact nx4 ((o+1,mo),(x3,j)) ⟨s4,an,aw J,Z,E.trans (o8.up ao),n⟩
 have bP:=ef3 h4k;simp only[i5,n9,y4,simprocAttr,N,g0,aB,a7,aE,a4,bm,lk,h4k];refine t8 (cL0 s4.ws o ak (bT j s4.sum) aU8 (by show(i4 p).wv.length<=_;omega)) ?_;rintro ua w5 ⟨l,aJ⟩;have l:B0 (m8 w4) w5 4 ua (I3 (ab5 (X5 (i4 p).wv ((i4 p).we++j)) [1,2,3]) (T7 (i4 p).wv.length [(o:Int)])):=l;rw[bQ0]at l;have au:=λi hi=>cM5 (L:=(i4 p).we++j) h0 ak (i:=i) hi;have ar:(I3 (ab7 (i4 p).wv ((i4 p).we++j) [1,2,3]) (T7 (i4 p).wv.length [(o:Int)])).length=(i4 p).wv.length:=by rw[K7,G2]
 generalize I3 (ab7 (i4 p).wv ((i4 p).we++j) [1,2,3]) (T7 (i4 p).wv.length [(o:Int)])=A at l au ar;have s5:=s4.more aJ;have bV:∀b,A0 ua b->w4.heap.size<=b/\b<w5.heap.size:=λb I=>⟨D1 (l.free I),l.lt I⟩;have aZ:∀b,hN g r rh x3 b->b<w4.heap.size:=λb I=>s4.lt I;have aH:w.heap.size<=w5.heap.size:=ef9 E.size (ao.trans aJ).size;have bJ:=l.isS;have bh:=l.vlen;have bk:B0 hZ w5 4 ua A:=l.down (S8 _);have aY:C.length<=j.length:=by
  cases mo with
  | false=>rw[(B rfl).1];exact eg6 _
  | true=>exact Nat.le_of_lt (Z rfl)
 rw[ar]at bh;simp only[i5,n9,simprocAttr,bJ,bh];refine D9 [0,3,5,15,16,17,28,29] (σ:=(Nat×Bool)×(WX×List Eg)) (λt f K=>f 30 = .int .i64 t.1.1/\f 4 = .bool t.1.2/\t.1.1<=(i4 p).wv.length/\HS p w1 K g r ab vP rh t.2.1 t.2.2/\t.2.1.vV=x2.vV/\B0 hZ K 4 ua A/\w5.heap.size<=K.heap.size/\(∀i b,U0 g r t.2.1 i b->U0 g r x3 i b\/w5.heap.size<=b) /\
  (∀e∈j,e∈t.2.2)/\j.length<=t.2.2.length/\(t.1.2=false->t.2.2=j/\mo=false)/\(t.1.2=true->C.length<t.2.2.length)/\(∀i,i<t.1.1->by7 (i4 p).wv ((i4 p).we++j) t.2.2 o i)/\o8 (cc6 g r x) w K) (λt=>(i4 p).wv.length-t.1.1) ((0,mo),(x3,j)) ?_ ?_
 .simp only[B3,simprocAttr];exact⟨by trivial,ah,eg3 _,s5,an,bk,eg6 _,λi b h=>.inl h,λ_ h=>h,eg6 _,λh=>⟨(by first|exact True.intro|rfl),h⟩,Z,λi hi=>by omega,E.trans (o8.up (ao.trans aJ))⟩
 rintro⟨⟨i,m⟩,x6,C6⟩ f6 w6 hk ⟨y,O,bN,s6,q,ac,H,c,a,k,T,ae,aC,F⟩;simp only at y O bN s6 q c a k T ae aC;simp only[ei3,B3,simprocAttr]at hk;obtain⟨j0,j3,j5,b2,b3,bq,aL,b4,_⟩:=hk;rw[g0]at j0;rw[g3]at j3;rw[aB]at b2;rw[aX]at b3;rw[N]at bq;have bi:∀b,A0 ua b->¬hN g r rh x6 b:=λb I h=>by
  obtain⟨d,h2⟩:=bV b I;rcases h with h|⟨i,h⟩
  .have:=aZ b (.inl h);omega
  .rcases c i b h with h|h
   .have:=aZ b (.inr ⟨i,h⟩);omega
   .omega
 simp only[i5,n9,simprocAttr,y,b4];refine y5 (λY=>?_) ?_;rotate_left
 .rintro rfl;simp only[i5,n9,simprocAttr,bq,O];refine nx4 ((o+1,m),(x6,C6)) ⟨s6,q,λh=>?_,ae,F,λi b h=>?_⟩
  .obtain⟨rfl,bg⟩:=T h;obtain⟨rfl,_⟩:=B bg;exact aw (dr7 h0 aC) bg
  .rcases c i b h with h|h
   .exact n i b h
   .exact .inr (ef9 aH h)
 have X:i<A.length:=by omega
 have W:=ac.inS X;have D:(Instr.loadAt 4 (.pointer (some (G9 ua i)))).run prog w6 = .ok (.bool A[i]) w6:=D6 (P:=prog) ac (ef1 X) ah3;have aj:=au i Y;rw[ef1 X]at aj;generalize A[i]=ai at D aj;have aD:∀C',(∀e∈C6,e∈C')->by7 (i4 p).wv ((i4 p).we++j) C' o i->∀i',i'<i+1->by7 (i4 p).wv ((i4 p).we++j) C' o i':=λC' d h2 i' co=>by
  rcases ej6 i' i with h|h
  .intro vi a1 a2 a3 xe hx e S;exact d e (aC i' h vi a1 a2 a3 xe hx e S)
  .obtain rfl:i'=i:=by omega
   exact h2
 rcases ef2 ai with d|d<;>subst d;rotate_left
 .have J:by7 (i4 p).wv ((i4 p).we++j) C6 o i:=λvi aI=>by
   have:=aj.2 aI;simp at this
  simp only[i5,n9,y4,simprocAttr,y,O,aL,W,D];exact nx4 ((i+1,m),(x6,C6)) ⟨s6,q,ac,H,c,a,k,T,ae,aD C6 (λ_ h=>h) J,F⟩
 have bp:=aj.1 rfl;have V:(i4 p).wv[i]?=some (i4 p).wv[i]:=ef1 Y;have aq:R (m8 w6) x2.vV (i4 p).wv:=by rw[<-q];exact s6.ws.rV
 have br:=s6.ws.ld (i:=2) (u:=x2.vV) (by rw[<-q];rfl) ab9;have av:=aq.inS Y;have Q:=aq.at_ V;rw[b0]at Q;generalize bW:(i4 p).wv[i]=vi at V Q;clear bW;have bs:=Q.vx.1 w6 (n7 _);rcases ef2 (decide (vi.kind=3))with h3k|h3k;rotate_left
 .have J:by7 (i4 p).wv ((i4 p).we++j) C6 o i:=λv aI d h2=>by
   rw[V]at d;rw[<-eh1 d]at h2;exact absurd h2 (ef7 h3k)
  simp only[i5,n9,y4,simprocAttr,y,O,j0,aL,W,D,br,av,bs,h3k];exact nx4 ((i+1,m),(x6,C6)) ⟨s6,q,ac,H,c,a,k,T,ae,aD C6 (λ_ h=>h) J,F⟩
 simp only[i5,n9,y4,simprocAttr,y,j0,j3,j5,aL,W,D,br,av,bs,h3k];refine t8 (dd3 s6 hR hw i o V (ef3 h3k) al bP (bK1 (λe S=>?_) bp)) ?_
 .rcases eg1.1 S with h|h
  .exact ei1 _ h
  .exact ej4 _ (a e h)
 rintro _ w7 ⟨mh,x7,C7,rfl,s7,ad,a6,bn,bM,aF,bl,bo⟩;have bj:=ac.mod aF bi;have bc:C6.length<=C7.length:=by
  cases mh with
  | false=>rw[a6 rfl];exact eg6 _
  | true=>exact Nat.le_of_lt (bn rfl)
 have J:by7 (i4 p).wv ((i4 p).we++j) C7 o i:=λv aI d h2 xe hx e S=>by
  rw[V]at d;obtain rfl:=eh1 d;refine bM xe ?_ e S;rcases eg1.1 hx with h|h
  .exact ei1 _ h
  .exact ej4 _ (a xe h)
 have az:w5.heap.size<=w7.heap.size:=ef9 H aF.size;have ay:∀i b,U0 g r x7 i b->U0 g r x3 i b\/w5.heap.size<=b:=λi b h=>by
  rcases bl i b h with h|h
  .exact c i b h
  .exact .inr (ef9 H h)
 have a5:=aD C7 ad J;have ax:o8 (cc6 g r x) w w7:=F.chain aF λb I h=>by
  rcases h with h|⟨i,h⟩
  .omega
  .exact⟨i,(n i b ((c i b h).resolve_right (by omega))).resolve_right (by omega)⟩
 have a9:(i4 p).wv.length-(i+1)<(i4 p).wv.length-i:=by omega
 have ba:IntKind.i64.wrap ((i:Int)+1)=((i+1:Nat):Int):=H8 i;have bb:i+1<=(i4 p).wv.length:=by omega
 cases mh with
 | true=>
  have bd:=bn rfl;simp only[i5,n9,simprocAttr,y];exact⟨((i+1,true),(x7,C7)),a9,by rw[ba],(by first|exact True.intro|rfl),bb,s7,bo.trans q,bj,az,ay,λe h=>ad e (a e h),ef9 k bc,λh=>Bool.noConfusion h,λ_=>Nat.lt_of_le_of_lt (ef9 aY k) bd,a5,ax⟩
 | false=>
  obtain rfl:=a6 rfl;simp only[i5,n9,simprocAttr,y,O];exact⟨((i+1,m),(x7,C7)),a9,by rw[ba],(by first|exact True.intro|rfl),bb,s7,bo.trans q,bj,az,ay,a,k,T,ae,a5,ax⟩
def cU3(a:Addr)(s:Sh)(id:Int)(w:World)(h:At (m8 w) a s):o9 prog 87 #[.pointer (some a),.int .i64 id] w λu m=>(u = .bool (decide (1<=id)&&decide (id<=(s.l.length:Nat)))/\m=w):=by
 refine p9 [.pointer (some a),.int .i64 id] func87 rfl ?_;obtain⟨o,l,k,b,f,e,d,j,n⟩:=h.sh;have i:=j w (n7 _);have c:=b.isS;have g:=b.vlen;cases h1:decide (1<=id)
 .simp only[n8,n9,simprocAttr,h1];exact o7 results87 ⟨rfl,rfl⟩
 .simp only[n8,n9,simprocAttr,h1,i,c,g];exact o7 results87 ⟨rfl,rfl⟩
def aC4(x:Option Addr):C4 prog .eql 85 (.pointer x) (.pointer none)=some (.bool x.isNone):=aO5 rfl (by kernel_rfl)
def bR6(x:Option Addr):C4 prog .neq 85 (.pointer x) (.pointer none)=some (.bool (!x.isNone)):=by
 have h:eqT prog 85=2:=by kernel_rfl
 cases x<;>simp[C4,h]
theorem bK2(p:Pg):(⟨(i4 p).wv,(i4 p).we,[],as4 (i4 p).wv,Z6 (i4 p).wv ((i4 p).we++[]),X5 (i4 p).wv ((i4 p).we++[])⟩:WC)=wcC p [] []:=rfl
def cX0{w1 w:World}{g r:Nat}{I:Addr}{vP:Value}{x:WX}{p:Pg}(s:WS w1 w g r I vP x (wcC p [] []))(hb:At (m8 w1) I (i4 p))(hr:D3 p)(hw:B7 p<=1000000)(id:Int):
  o9 prog 56 #[.pointer (some ⟨g,0,none⟩),.int .i64 id] w λu b=>((∀y,(i4 p).crit id=some y->u = .tuple #[.int .i64 ((E5 (i4 p).wv y:Nat):Int),.bool true])/\((i4 p).crit id=none->∃z,u = .tuple #[z,.bool false])/\o6 w b):=by
 refine p9 [.pointer (some ⟨g,0,none⟩),.int .i64 id] func56 rfl ?_;have hs:(i4 p).s=d9 p:=rfl;obtain⟨sh,vw,_,_,_,_,has,aa,_,_,_,_,av,ae⟩:=hb.book rfl;obtain⟨vl,_,_,Y,_,_,W,ax,_⟩:=has.sh;rw[K5]at W;obtain⟨vg,vp,aM,Z,aN,aA⟩:=W.pg;have l0:=s.ld (i:=0) (u:=.pointer (some I)) rfl aF9;have lb:=av w s.base;simp only[i5,n9,simprocAttr,l0,lb];refine E6 (cU3 sh (d9 p) id w (has.mono s.base)) ?_;by_cases hin:1<=id/\id<=(d9 p).l.length;rotate_left
 .have J:(decide (1<=id)&&decide (id<=((d9 p).l.length:Nat)))=false:=by
   rw[Bool.and_eq_false_iff];by_cases h:1<=id
   .exact .inr (el3 λL=>hin ⟨h,L⟩)
   .exact .inl (el3 h)
  have al:(i4 p).crit id=none:=by
   unfold Bk.crit;rw[if_neg λh=>hin ⟨h.1,h.2.1⟩]
  simp only[i5,n9,simprocAttr,J];exact W7 results56 ⟨λy h=>(by rw[al]at h;cases h),λ_=>⟨_,rfl⟩,o8.refl _⟩
 obtain⟨J,L⟩:=hin;have hd:(decide (1<=id)&&decide (id<=((d9 p).l.length:Nat)))=true:=by rw[ek5 J,ek5 L];rfl
 obtain⟨i,B,V,n,C⟩:=bx3 hr.may hw J L;obtain⟨xx,pt⟩:=I1 hr.may hw i B;have c:=pt.ids _ V;have E:=O8 pt;generalize xx+A7 p.procs[i].body=y at pt E c;have aB:=H7 hr.may;obtain⟨aw,am,N⟩:=as5 (hv:=aa) (k:=i) (p:=⟨D7 (d9 p) i⟩) (by show((J2 p).map λw=>(⟨w⟩:Ptr Wy))[i]?=_;rw[ei9,V6 B];rfl);simp only at N;have S:=aa.inS (k:=i) (by show i<((J2 p).map λw=>(⟨w⟩:Ptr Wy)).length;unfold J2;simpa using B);have R:=Z.inS B;have v:=Z.at_ (ef1 B);have au:A3.sz Pr=5:=rfl;rw[au]at v;obtain⟨_,_,_,_,_,_,_,_,_,ag⟩:=v.pr;obtain⟨j,rfl⟩:∃j:Nat,id=(j:Int)+1:=⟨(id-1).toNat,by omega⟩;have D:j<(d9 p).l.length:=by omega
 have ar:IntKind.i64.wrap ((j:Int)+1-1)=(j:Int):=by rw[M2 _ (by omega)];omega
 have Q:=Y.inS (k:=j) D;have T:(d9 p).it ((j:Int)+1)=(d9 p).l[j]:=by
  unfold Sh.it;rw[show((j:Int)+1-1).toNat=j by omega,List.getD,ef1 D];rfl
 have q:(i4 p).crit ((j:Int)+1)=if(D7 (d9 p) i).lives ((j:Int)+1)=true then(if(atV (i4 p).wv ⟨p.procs[i].name,2,(j:Int)+1,e0⟩).isSome then some ⟨p.procs[i].name,2,(j:Int)+1,e0⟩else none)else none:=by
  have an:((d9 p).fn (i:Int)).name=p.procs[i].name:=by have:=M3 (p:=p) B;rw[hs]at this;rw[this]
  unfold Bk.crit;rw[hs,n,L9 B,an];by_cases hl:(D7 (d9 p) i).lives ((j:Int)+1)=true
  .rw[if_pos ⟨J,L,hl⟩,if_pos hl]
  .rw[if_neg λh=>hl h.2.2,if_neg hl]
 rw[T]at n c C;have ls:=ax w s.base;obtain⟨sv,X,U⟩:=F5 (P:=prog) (t:=150) Y s.base (ef1 D) aa7 aa9 Z3 J3;rw[J3]at U;generalize(d9 p).l[j]=it at X n c C;obtain⟨d,wz,m,ak,aq,ad,M⟩:=ap8 (X.mono s.base) (n7 _);obtain⟨_,_,af⟩:=M.it;have s3:=s.more (ad.trans (o6.drew m));have ac:∀b,o6 m.drew b->B8 (m8 w1) (m8 b):=λb h=>p7 s3.base (b7 h);have t0:∀K f d l,F7 prog (λb=>o6 m.drew b) (Instr.loadAt 87 (.pointer (some ⟨g,0,none⟩))) K f d l=K (C9 f d (.pointer (some I))) l:=λK f d l=>C0 (w0:=m.drew) (o8.refl _) λb h=>(s3.more h).ld rfl aF9;have t2:=af (λb=>o6 m.drew b) m.drew (o8.refl _) λb h=>b7 ((o6.drew m).trans h);have t3:=ae (λb=>o6 m.drew b) m.drew (o8.refl _) ac;have t4:=bH2 (P:=prog) (t:=114) am as8 (λb=>o6 m.drew b) m.drew (o8.refl _) ac;rw[n]at t2;simp only[i5,n9,y4,simprocAttr,hd,l0,lb,ls,ar,Q,U,ak,aq];refine B9 (λb=>o6 m.drew b) 12 (A5 [0,1,2,3,4,5,6,7,8,9,10,11]) ?_;simp only[D0,A5,i5,n9,y4,simprocAttr,t0,t2,t3,t4,S];refine B2 (aS6 aw (D7 (d9 p) i) p i xx y ((j:Int)+1) m.drew (N.mono s3.base) E.toWyOk (by rw[C]at c;exact c) E.live) (λe F=>?_);have o:=(ad.trans (o6.drew m)).trans F;generalize(D7 (d9 p) i).lives ((j:Int)+1)=lv at q;cases lv with
 | false=>
  rw[if_neg (by simp)]at q;simp only[i5,n9,simprocAttr];exact W7 results56 ⟨λy h=>(by rw[q]at h;cases h),λ_=>⟨_,rfl⟩,o⟩
 | true=>
  rw[if_pos rfl]at q;have s7:=(s3.more F).more (o6.drew e);have G:∀b,o6 e.drew b->B8 (m8 w1) (m8 b):=λb h=>p7 s7.base (b7 h);have q0:∀K f d l,F7 prog (λb=>o6 e.drew b) (Instr.loadAt 87 (.pointer (some ⟨g,0,none⟩))) K f d l=K (C9 f d (.pointer (some I))) l:=λK f d l=>C0 (w0:=e.drew) (o8.refl _) λb h=>(s7.more h).ld rfl aF9;have q1:=ae (λb=>o6 e.drew b) e.drew (o8.refl _) G;have q2:=af (λb=>o6 e.drew b) e.drew (o8.refl _) λb h=>b7 ((((o6.drew m).trans F).trans (o6.drew e)).trans h);have q3:=aA (λb=>o6 e.drew b) e.drew (o8.refl _) G;have q4:=ag (λb=>o6 e.drew b) e.drew (o8.refl _) G;rw[n]at q2;have O:B6 prog 26 [(0,p6 p.procs[i].name),(1,.int .i64 2),(2,.int .i64 ((j:Int)+1))]=some (.agg (p8.cells (⟨p.procs[i].name,2,(j:Int)+1,e0⟩:Vx)).toArray):=by
   have h:p8.cells (⟨p.procs[i].name,2,(j:Int)+1,e0⟩:Vx)=[p6 p.procs[i].name,.int .i64 2,.int .i64 ((j:Int)+1),p6 e0]:=rfl;rw[h];simp[B6,bJ4,J9,Instr.fill,Value.cells,p6,e0];rfl
  generalize(⟨p.procs[i].name,2,(j:Int)+1,e0⟩:Vx)=key at q O;have A:E5 (i4 p).wv key=(atV (i4 p).wv key).getD 0:=rfl;have ao:(wcC p [] []).kv=as4 (i4 p).wv:=rfl;have hA:=λ(s:WS w1 e.drew g r I vP x (wcC p [] []))=>bU9 s key;simp only[i5,n9,simprocAttr];refine B9 (λb=>o6 e.drew b) 22 (A5 [0,1,2,3,4,5,6,7,8,9,10,11,12,13,14,15,16,17,18,19,20,21]) ?_;simp only[D0,A5,i5,n9,y4,simprocAttr,q0,q1,q2,q3,q4,R,O];refine t8 (hA s7) ?_;rintro _ w8 ⟨rfl,H⟩;refine⟨H,?_⟩;rw[ao,aT4];cases hak:atV (i4 p).wv key with
  | none=>
   rw[hak]at q;simp only[D0,i5,n9,simprocAttr];exact W7 results56 ⟨λy h=>(by rw[q]at h;cases h),λ_=>⟨_,rfl⟩,(o.trans (o6.drew e)).trans H⟩
  | some a=>
   rw[hak]at q A;simp only[D0,i5,n9,simprocAttr];refine W7 results56 ?_;simp only[B3,simprocAttr];refine⟨λy h=>?_,λh=>(by rw[q]at h;cases h),(o.trans (o6.drew e)).trans H⟩;rw[q]at h;obtain rfl:=eh1 h;rw[A];rfl
section
variable {p:Pg}
def bE9(b:E0 p=true)(hw:B7 p<=1000000){C:List Eg}(a:∀e,e∈C↔e∈(i4 p).sums){ks:List Int}{S:List Bool}(hS:S.length=(i4 p).wv.length):I3 (ab5 (X5 (i4 p).wv ((i4 p).we++C)) ks) S=I3 (ab7 (i4 p).wv (i4 p).all ks) S:=by
 rw[bQ0];exact(bA8 (ag5 (G6 b).toKnown) (λe=>by unfold Bk.all;rw[eg1,eg1,a]) hS).1
def ba0(b:E0 p=true)(hw:B7 p<=1000000){C:List Eg}(a:∀e,e∈C↔e∈(i4 p).sums){ks:List Int}{S:List Bool}(hS:S.length=(i4 p).wv.length):I3 (ab5 (Z6 (i4 p).wv ((i4 p).we++C)) ks) S=I3 (R4 (i4 p).wv (i4 p).all ks) S:=by
 rw[cR1];exact(bA8 (ag5 (G6 b).toKnown) (λe=>by unfold Bk.all;rw[eg1,eg1,a]) hS).2
def bZ2(d:E0 p=true)(hw:B7 p<=1000000){C:List Eg}(h:bw3 p C):OkA (X5 (i4 p).wv ((i4 p).we++C)).length (X5 (i4 p).wv ((i4 p).we++C))/\OkA (Z6 (i4 p).wv ((i4 p).we++C)).length (Z6 (i4 p).wv ((i4 p).we++C)):=by
 have b:=G6 d;have c:=ag5 b.toKnown;have f:∀e∈(i4 p).we++C,1<=e.kind/\e.kind<=6:=λe i=>by
  rcases eg1.1 i with a|a
  .exact cK4 d hw a
  .have:=(h.kind a).1;omega
 have g:((i4 p).we++C).length<=1000000000:=by
  have:=bp6 b hw;have:=h.few b hw;rw[ef4];omega
 rw[aU8,aU3];exact⟨cl4 c f g,dh2 c f g⟩
def cI1(b:E0 p=true){vs:List Vx}{l:List Int}(h:N8 (i4 p).wv vs=some l):(∀a∈l,I2 (i4 p).wv.length a=true)/\l.length=vs.length:=by
 obtain⟨_,rfl⟩:=bF6 h;refine⟨λa c=>?_,by simp⟩;obtain⟨v,_,rfl⟩:=eh4.1 c;exact aJ5 (ag5 (G6 b).toKnown) v
def K6(v G:Value)(vs:List Vx)(w:World)(hv:SV (m8 w) v p)(hw:B7 p<=1000000)(O:R (m8 w) G vs)(hl:vs.length<=1000000):
  o9 prog 18 #[v,G] w λu Z=>(∃X,u = .tuple #[X,.int .i64 (ab3 p vs).2]/\R (m8 Z) X (ab3 p vs).1/\(ab3 p vs).1.length<=480000/\o6 w Z):=by
 refine p9 [v,G] func18 rfl ?_;obtain⟨c,wa,J,E,m⟩:=Q4 hv (n7 _);obtain⟨sp,M,F,_⟩:=m.pg_v;simp only[i5,n9,simprocAttr,J,F wa (n7 _)];refine t8 (aq3 sp p wa M hw) ?_;rintro u w2 ⟨hf,ht,Q⟩;have d:=E.trans Q;cases hR:E0 p
 .obtain rfl:=hf hR;have n:ab3 p vs=([],1):=by unfold ab3;rw[if_pos hR]
  simp only[i5,n9,simprocAttr,aC4];refine W7 results18 ?_;simp only[B3,simprocAttr];rw[n];exact⟨_,rfl,(B0.nil (m8 w2) w2 0).rw_ (n7 _),eg3 _,d⟩
 obtain⟨w1,g,r,ab,vP,x,rfl,P,af,ak,s⟩:=ht hR;rw[bK2]at s;have al:=at1 (G6 hR) hw;simp only[i5,n9,simprocAttr,aC4];refine t8 (bq3 s rfl G vs (A3.mono (b7 d) O) (by omega)) ?_;rintro u3 w3 ⟨q,a,B⟩;have z:=d.trans B;have K:(wcC p [] []).V=(i4 p).wv:=rfl;rw[K]at q a;cases hnm:N8 (i4 p).wv vs with
 | none=>
  obtain rfl:=q hnm;have n:ab3 p vs=([],9):=by unfold ab3;rw[if_neg (by rw[hR];simp),hnm]
  simp only[i5,n9,simprocAttr];refine W7 results18 ?_;simp only[B3,simprocAttr];rw[n];exact⟨_,rfl,(B0.nil (m8 w3) w3 0).rw_ (n7 _),eg3 _,z⟩
 | some l=>
  obtain⟨Y,rfl,t⟩:=a l hnm;obtain⟨o,ah⟩:=cI1 hR hnm;have n:ab3 p vs=(E8 (i4 p).wv ((i4 p).backB l),0):=by unfold ab3;rw[if_neg (by rw[hR];simp),hnm]
  simp only[i5,n9,simprocAttr];refine t8 (bz8 (s.more B) hR hw) ?_;rintro _ T ⟨x4,C,rfl,S,y,U,L⟩;have A:o6 w T:=E.trans (P.trans S.ext);have N:R (m8 T) Y l:=(t.mod L λb H ⟨i,h⟩=>by
   have:=s.lt h;have:=D1 (t.free H);omega).flatR λ_ _=>rfl
  simp only[i5,simprocAttr];refine t8 (bV0 S Y l N o (by omega) (bZ2 hR hw y).1 aU8 (by show(i4 p).wv.length<=_;omega)) ?_;rintro V w5 ⟨j,k⟩;dsimp only[wcC]at j;rw[bE9 hR hw U (by rw[K7,G2]),bE9 hR hw U G2]at j;have H:B0 (m8 T) w5 4 V ((i4 p).backB l):=j;have I:((i4 p).backB l).length=(i4 p).wv.length:=by unfold Bk.backB;rw[K7,K7,G2]
  have s5:=S.more k;simp only[i5,simprocAttr];refine t8 (bz2 s5 V _ (H.rw_ (b7 k)) I (by show(i4 p).wv.length<=_;omega)) ?_;rintro W w6 ⟨e,D⟩;have e:B0 (m8 w5) w6 26 W (E8 (i4 p).wv ((i4 p).backB l)):=e;have f:(E8 (i4 p).wv ((i4 p).backB l)).length<=480000:=by
   have h1:(E8 (i4 p).wv ((i4 p).backB l)).length<=(af0 ((i4 p).backB l)).length:=List.length_filterMap_le _ _;have h2:(af0 ((i4 p).backB l)).length<=((i4 p).backB l).length:=by
    unfold af0;rw[eg5];refine ef9 (eh9 _ _) ?_;rw[ek6];exact eg6 _
   omega
  rw[n];generalize E8 (i4 p).wv ((i4 p).backB l)=LL at e f;simp only[i5,simprocAttr];exact W7 results18 ⟨W,rfl,e.rw_ (b7 D),f,(A.trans k).trans D⟩
def N5(v G:Value)(vs:List Vx)(w:World)(hv:SV (m8 w) v p)(hw:B7 p<=1000000)(O:R (m8 w) G vs)(hl:vs.length<=1000000):
  o9 prog 19 #[v,G] w λu Z=>(∃X,u = .tuple #[X,.int .i64 (ae9 p vs).2]/\R (m8 Z) X (ae9 p vs).1/\(ae9 p vs).1.length<=480000/\o6 w Z):=by
 refine p9 [v,G] func19 rfl ?_;obtain⟨c,wa,J,E,m⟩:=Q4 hv (n7 _);obtain⟨sp,M,F,_⟩:=m.pg_v;simp only[i5,n9,simprocAttr,J,F wa (n7 _)];refine t8 (aq3 sp p wa M hw) ?_;rintro u w2 ⟨hf,ht,Q⟩;have d:=E.trans Q;cases hR:E0 p
 .obtain rfl:=hf hR;have n:ae9 p vs=([],1):=by unfold ae9;rw[if_pos hR]
  simp only[i5,n9,simprocAttr,aC4];refine W7 results19 ?_;simp only[B3,simprocAttr];rw[n];exact⟨_,rfl,(B0.nil (m8 w2) w2 0).rw_ (n7 _),eg3 _,d⟩
 obtain⟨w1,g,r,ab,vP,x,rfl,P,af,ak,s⟩:=ht hR;rw[bK2]at s;have al:=at1 (G6 hR) hw;simp only[i5,n9,simprocAttr,aC4];refine t8 (bq3 s rfl G vs (A3.mono (b7 d) O) (by omega)) ?_;rintro u3 w3 ⟨q,a,B⟩;have z:=d.trans B;have K:(wcC p [] []).V=(i4 p).wv:=rfl;rw[K]at q a;cases hnm:N8 (i4 p).wv vs with
 | none=>
  obtain rfl:=q hnm;have n:ae9 p vs=([],9):=by unfold ae9;rw[if_neg (by rw[hR];simp),hnm]
  simp only[i5,n9,simprocAttr];refine W7 results19 ?_;simp only[B3,simprocAttr];rw[n];exact⟨_,rfl,(B0.nil (m8 w3) w3 0).rw_ (n7 _),eg3 _,z⟩
 | some l=>
  obtain⟨Y,rfl,t⟩:=a l hnm;obtain⟨o,ah⟩:=cI1 hR hnm;have n:ae9 p vs=(E8 (i4 p).wv ((i4 p).forwB l),0):=by unfold ae9;rw[if_neg (by rw[hR];simp),hnm]
  simp only[i5,n9,simprocAttr];refine t8 (bz8 (s.more B) hR hw) ?_;rintro _ T ⟨x4,C,rfl,S,y,U,L⟩;have A:o6 w T:=E.trans (P.trans S.ext);have N:R (m8 T) Y l:=(t.mod L λb H ⟨i,h⟩=>by
   have:=s.lt h;have:=D1 (t.free H);omega).flatR λ_ _=>rfl
  simp only[i5,simprocAttr];refine t8 (cd6 S Y l N o (by omega) (bZ2 hR hw y).2 aU3 (by show(i4 p).wv.length<=_;omega)) ?_;rintro V w5 ⟨j,k⟩;dsimp only[wcC]at j;rw[ba0 hR hw U (by rw[K7,G2]),ba0 hR hw U G2]at j;have H:B0 (m8 T) w5 4 V ((i4 p).forwB l):=j;have I:((i4 p).forwB l).length=(i4 p).wv.length:=by unfold Bk.forwB;rw[K7,K7,G2]
  have s5:=S.more k;simp only[i5,simprocAttr];refine t8 (bz2 s5 V _ (H.rw_ (b7 k)) I (by show(i4 p).wv.length<=_;omega)) ?_;rintro W w6 ⟨e,D⟩;have e:B0 (m8 w5) w6 26 W (E8 (i4 p).wv ((i4 p).forwB l)):=e;have f:(E8 (i4 p).wv ((i4 p).forwB l)).length<=480000:=by
   have h1:(E8 (i4 p).wv ((i4 p).forwB l)).length<=(af0 ((i4 p).forwB l)).length:=List.length_filterMap_le _ _;have h2:(af0 ((i4 p).forwB l)).length<=((i4 p).forwB l).length:=by
    unfold af0;rw[eg5];refine ef9 (eh9 _ _) ?_;rw[ek6];exact eg6 _
   omega
  rw[n];generalize E8 (i4 p).wv ((i4 p).forwB l)=LL at e f;simp only[i5,simprocAttr];exact W7 results19 ⟨W,rfl,e.rw_ (b7 D),f,(A.trans k).trans D⟩
end
def aj4:B6 prog 26 []=some (.agg (p8.cells ah5).toArray):=by
 have h:p8.cells ah5=[p6 e0,.int .i64 0,.int .i64 0,p6 e0]:=rfl;rw[h];simp[B6,bJ4,J9,Instr.fill,p6,e0];rfl
def cf7{p:Pg}{id:Int}{y:Vx}(h:(i4 p).crit id=some y):y∈(i4 p).wv:=by
 unfold Bk.crit at h;split at h
 .split at h
  .next a=>
   obtain rfl:=eh1 h;exact ab2.1 a
  .cases h
 .cases h
section
variable {p:Pg}
def as7(v:Value)(id:Int)(w:World)(hv:SV (m8 w) v p)(hw:B7 p<=1000000):
  o9 prog 29 #[v,.int .i64 id] w λu S=>(u = .tuple #[.agg (p8.cells (X3 p id).1).toArray,.int .i64 (X3 p id).2]/\o6 w S):=by
 refine p9 [v,.int .i64 id] func29 rfl ?_;obtain⟨c,C,F,f,j⟩:=Q4 hv (n7 _);obtain⟨Q,G,q,_⟩:=j.pg_v;obtain⟨I,E,n,a⟩:=di6 C;simp only[i5,n9,simprocAttr,F,E,q I (b7 n)];refine t8 (aq3 Q p I (G.mono (b7 n)) hw) ?_;rintro u T ⟨J,L,d⟩;cases hR:E0 p
 .obtain rfl:=J hR;have k:X3 p id=(ah5,1):=by unfold X3;rw[if_pos hR]
  obtain⟨B,t,A,b⟩:=a T ah5 d;simp only[i5,n9,simprocAttr,aC4,aj4,t];refine ao0 results29 (ad:=⟨C.heap.size,0,none⟩) (by simp only[B3,simprocAttr]) A ?_;simp only[B3,simprocAttr];rw[k];exact⟨by trivial,f.trans b⟩
 obtain⟨Z,g,r,V,X,x,rfl,N,D,M,s⟩:=L hR;rw[bK2]at s;simp only[i5,n9,simprocAttr,aC4];refine t8 (cX0 s D (G6 hR) hw id) ?_;rintro W B ⟨O,K,b⟩;cases hc:(i4 p).crit id with
 | none=>
  obtain⟨z,rfl⟩:=K hc;have k:X3 p id=(ah5,9):=by unfold X3;rw[if_neg (by rw[hR];simp),hc]
  obtain⟨U,t,A,e⟩:=a B ah5 (d.trans b);simp only[i5,n9,simprocAttr,aj4,t];refine ao0 results29 (ad:=⟨C.heap.size,0,none⟩) (by simp only[B3,simprocAttr]) A ?_;simp only[B3,simprocAttr];rw[k];exact⟨by trivial,f.trans e⟩
 | some y=>
  obtain rfl:=O y hc;have k:X3 p id=(y,0):=by unfold X3;rw[if_neg (by rw[hR];simp),hc]
  have H:=s.more b;have P:=H.ld (i:=2) (u:=x.vV) rfl ab9;have h:R (m8 B) x.vV (i4 p).wv:=H.rV;have o:=ar0 (cf7 hc);have l:=h.inS (ef6.1 o).1;have m:=cj8 h (n7 _) o;generalize E5 (i4 p).wv y=Y at l m;obtain⟨U,t,A,e⟩:=a B y (d.trans b);simp only[i5,n9,y4,simprocAttr,P,l,m,t];refine ao0 results29 (ad:=⟨C.heap.size,0,none⟩) (by simp only[B3,simprocAttr]) A ?_;simp only[B3,simprocAttr];rw[k];exact⟨by trivial,f.trans e⟩
end
def bi8(l:List Int):List Int:=l.mergeSort λx y=>decide (x<=y)
def bI5(l:List Int):(bi8 l).Perm l:=List.mergeSort_perm _ _
def aV1(l:List Int):(bi8 l).length=l.length:=(bI5 l).length_eq
def ca8(l:List Int):(bi8 l).Pairwise λa b=>a<=b:=by
 have:=List.pairwise_mergeSort (le:=λx y:Int=>decide (x<=y)) (λa b c d e=>by
  simp only[ei8]at *;omega) (λa b=>by
  simp only[eq6,ei8];omega) l
 exact this.imp λh=>ef3 h
def bO5(d:Array Int):∀m,m<=d.size->Lib.compactUpTo d m=I0 (d.toList.take m)
 | 0,_=>by simp[Lib.compactUpTo,I0]
 | m+1,hm=>by
  have i:=bO5 d m (by omega);have f:m<d.toList.length:=by simp;omega
  have c:d[m]! = d.toList[m]:=by
   rw[getElem!_pos d m (by omega)];simp
  rw[ef8 f,aZ3,<-i];have g:Lib.compactUpTo d (m+1)=Lib.compactUpTo d m++(if Lib.keeps d m then[d[m]!]else[]):=by
   simp only[Lib.compactUpTo,eq1,el7,ei4]
   congr 1
   by_cases b:Lib.keeps d m=true
   .simp[b]
   .simp[b]
  rw[g,c];by_cases h0:m=0
  .subst h0;simp[Lib.keeps,Lib.compactUpTo]
  .have a:(d.toList.take m).getLast?=some d[m-1]!:=by
    rw[List.getLast?_eq_getElem?,eg0,el2 (by omega),en1,if_pos (by omega),getElem!_pos d (m-1) (by omega)];simp[show m-1<d.size by omega]
   rw[a];by_cases he:d.toList[m]=d[m-1]!
   .have b:Lib.keeps d m=false:=by simp only[Lib.keeps,es2,c,h0,false_or,ne_eq];exact λh=>h he
    rw[b,if_pos (eg8 some he.symm)];simp
   .have b:Lib.keeps d m=true:=by simp only[Lib.keeps,ei8];rw[c];exact .inr he
    rw[b,if_neg (λe=>he (eh1 e).symm)];simp
def bL6(l:List Int):Lib.compact l=I0 l:=by
 unfold Lib.compact;rw[bO5 l.toArray l.length (by simp)];simp
def bX9(vs:List Vx):List Int:=(vs.filter λv=>decide (v.kind=2)).map (·.id)
def bo0(vs:List Vx):List Int:=I0 (bi8 (bX9 vs))
def cV4{vs:List Vx}{i:Int}:i∈bo0 vs↔i∈bX9 vs:=by
 unfold bo0;rw[an5,(bI5 _).mem_iff]
def cA5(vs:List Vx):(bo0 vs).Pairwise λa b=>a<b:=by
 unfold bo0;exact(cf4 (le:=λa b:Int=>a<=b) (λa b c d e=>Int.le_trans d e) (λa b d e=>Int.le_antisymm d e) (ca8 _)).imp λ⟨d,e⟩=>by omega
def cQ8(l:List Vx){k:Nat}(a:k<l.length):bX9 (l.take (k+1))=bX9 (l.take k)++if l[k].kind=2 then[l[k].id]else[]:=by
 unfold bX9;rw[ef8 a,el7,ei4]
 congr 1
 by_cases h:l[k].kind=2<;>simp[h]
def dd8(l:List Vx)(k:Nat):(bX9 (l.take k)).length<=k:=by
 unfold bX9;rw[eg5];refine ef9 (eh9 _ _) ?_;rw[eg0];omega
def cn0:∀{l m:List Int},l.Pairwise (λa b=>a<b)->m.Pairwise (λa b=>a<b)->(∀x,x∈l↔x∈m)->l=m
 | [],[],_,_,_=>rfl
 | [],b::m,_,_,h=>by have:=(h b).2 (by simp);simp at this
 | a::l,[],_,_,h=>by have:=(h a).1 (by simp);simp at this
 | a::l,b::m,h1,h2,h=>by
  rw[el0]at h1 h2;have g:a=b:=by
   have d:=(h a).1 (by simp);have f:=(h b).2 (by simp);rcases eh0.1 d with e|d
   .exact e
   .rcases eh0.1 f with e|f
    .exact e.symm
    .have:=h1.1 b f;have:=h2.1 a d;omega
  subst g;rw[cn0 h1.2 h2.2 λx=>?_];constructor
  .intro c;rcases eh0.1 ((h x).1 (ek0 _ c))with rfl|h3
   .have:=h1.1 x c;omega
   .exact h3
  .intro c;rcases eh0.1 ((h x).2 (ek0 _ c))with rfl|h3
   .have:=h2.1 x c;omega
   .exact h3
end Go.Proofs.YtggahhenbbgffaaGreat
namespace Go.Proofs
open Go.Shelf
def Tryz.lyI_ren:Go.Shelf.Ren:=⟨fun|189=>38|125=>65|257=>64|128=>100|129=>101|294=>91|295=>92|296=>93|297=>94|298=>95|299=>96|216=>97|300=>98|301=>99|328=>150|329=>151|330=>152|331=>153|332=>154|215=>155|343=>202|n=>n,fun|28=>24|3=>3|46=>129|0=>0|51=>165|53=>167|4=>4|183=>158|182=>157|131=>98|5=>5|9=>9|218=>225|222=>229|228=>271|229=>272|n=>n,fun|n=>n⟩
def Tryz.lyI:Go.Proofs.Lays.n189 Tryz.prog Tryz.lyI_ren:={
 mixed:=by kernel_rfl
 f125:=Tryz.func65.trans (congrArg some (by kernel_rfl))
 f128:=Tryz.func100.trans (congrArg some (by kernel_rfl))
 f129:=Tryz.func101.trans (congrArg some (by kernel_rfl))
 f189:=Tryz.func38.trans (congrArg some (by kernel_rfl))
 f215:=Tryz.func155.trans (congrArg some (by kernel_rfl))
 f216:=Tryz.func97.trans (congrArg some (by kernel_rfl))
 f257:=Tryz.func64.trans (congrArg some (by kernel_rfl))
 f294:=Tryz.func91.trans (congrArg some (by kernel_rfl))
 f295:=Tryz.func92.trans (congrArg some (by kernel_rfl))
 f296:=Tryz.func93.trans (congrArg some (by kernel_rfl))
 f297:=Tryz.func94.trans (congrArg some (by kernel_rfl))
 f298:=Tryz.func95.trans (congrArg some (by kernel_rfl))
 f299:=Tryz.func96.trans (congrArg some (by kernel_rfl))
 f300:=Tryz.func98.trans (congrArg some (by kernel_rfl))
 f301:=Tryz.func99.trans (congrArg some (by kernel_rfl))
 f328:=Tryz.func150.trans (congrArg some (by kernel_rfl))
 f329:=Tryz.func151.trans (congrArg some (by kernel_rfl))
 f330:=Tryz.func152.trans (congrArg some (by kernel_rfl))
 f331:=Tryz.func153.trans (congrArg some (by kernel_rfl))
 f332:=Tryz.func154.trans (congrArg some (by kernel_rfl))
 f343:=Tryz.func202.trans (congrArg some (by kernel_rfl))
 t0:=Tryz.underlying0
 a0:=Tryz.isAgg0
 z0:=Tryz.sizeOf0
 v0:=Tryz.zeroValue0
 t3:=Tryz.underlying3
 a3:=Tryz.isAgg3
 z3:=Tryz.sizeOf3
 v3:=Tryz.zeroValue3
 t4:=Tryz.underlying4
 a4:=Tryz.isAgg4
 z4:=Tryz.sizeOf4
 v4:=Tryz.zeroValue4
 t5:=Tryz.underlying5
 a5:=Tryz.isAgg5
 z5:=Tryz.sizeOf5
 v5:=Tryz.zeroValue5
 t9:=Tryz.underlying9
 a9:=Tryz.isAgg9
 z9:=Tryz.sizeOf9
 v9:=Tryz.zeroValue9
 t28:=Tryz.underlying24
 a28:=Tryz.isAgg24
 z28:=Tryz.sizeOf24
 v28:=Tryz.zeroValue24
 t46:=Tryz.underlying129
 a46:=Tryz.isAgg129
 z46:=Tryz.sizeOf129
 v46:=Tryz.zeroValue129
 t51:=Tryz.underlying165
 a51:=Tryz.isAgg165
 z51:=Tryz.sizeOf165
 v51:=Tryz.zeroValue165
 t53:=Tryz.underlying167
 a53:=Tryz.isAgg167
 z53:=Tryz.sizeOf167
 v53:=Tryz.zeroValue167
 t131:=Tryz.underlying98
 a131:=Tryz.isAgg98
 z131:=Tryz.sizeOf98
 v131:=Tryz.zeroValue98
 t182:=Tryz.underlying157
 a182:=Tryz.isAgg157
 z182:=Tryz.sizeOf157
 v182:=Tryz.zeroValue157
 t183:=Tryz.underlying158
 a183:=Tryz.isAgg158
 z183:=Tryz.sizeOf158
 v183:=Tryz.zeroValue158
 t218:=Tryz.underlying225
 a218:=Tryz.isAgg225
 z218:=Tryz.sizeOf225
 v218:=Tryz.zeroValue225
 t222:=Tryz.underlying229
 a222:=Tryz.isAgg229
 z222:=Tryz.sizeOf229
 v222:=Tryz.zeroValue229
 t228:=Tryz.underlying271
 a228:=Tryz.isAgg271
 z228:=Tryz.sizeOf271
 v228:=Tryz.zeroValue271
 t229:=Tryz.underlying272
 a229:=Tryz.isAgg272
 z229:=Tryz.sizeOf272
 v229:=Tryz.zeroValue272}
def Tryz.lyJ_ren:Go.Shelf.Ren:=⟨fun|20=>39|n=>n,fun|22=>24|3=>3|4=>4|0=>0|n=>n,fun|n=>n⟩
def Tryz.lyJ:Go.Proofs.Lays2.n20 Tryz.prog Tryz.lyJ_ren:={
 mixed:=by kernel_rfl
 f20:=Tryz.func39.trans (congrArg some (by kernel_rfl))
 t0:=Tryz.underlying0
 a0:=Tryz.isAgg0
 z0:=Tryz.sizeOf0
 v0:=Tryz.zeroValue0
 t3:=Tryz.underlying3
 a3:=Tryz.isAgg3
 z3:=Tryz.sizeOf3
 v3:=Tryz.zeroValue3
 t4:=Tryz.underlying4
 a4:=Tryz.isAgg4
 z4:=Tryz.sizeOf4
 v4:=Tryz.zeroValue4
 t22:=Tryz.underlying24
 a22:=Tryz.isAgg24
 z22:=Tryz.sizeOf24
 v22:=Tryz.zeroValue24
 i3:=by kernel_rfl}
end Go.Proofs
namespace Go.Proofs.YtggahhenbbgffaaGreat
open Go Tryz
section
open Go.Sort
def dO5:(Tryz.lyI_ren.f 189)=38:=by kernel_rfl
def dO6:(Tryz.lyJ_ren.f 20)=39:=by kernel_rfl
section
variable {h:Hp} {w:World} {v:Value} {l:List Int}
def cl8(n:B0 h w 3 v l):(v = .slice none 0 0/\l=[])\/∃b c a,v = .slice (some ⟨b,0,none⟩) l.length c/\h b=none/\w.heap[b]?=some (.cells a 3 (0,0))/\l.length<=c/\c<=maxLen/\a.size=c/\a.toList.take l.length=l.map (Value.int .i64):=by
 rcases n with m|⟨b,c,a,rfl,g,i,j,k,d,f⟩
 .exact .inl m
 .have e:A3.sz Int=1:=rfl;rw[e,en3]at d f;exact .inr ⟨b,c,a,rfl,g,i,j,k,d,G4.1 f⟩
def bt8{b c:Nat}{a:Array Value}(d:h b=none)(f:w.heap[b]?=some (.cells a 3 (0,0)))(g:l.length<=c)(i:c<=maxLen)(j:a.size=c)(k:a.toList.take l.length=l.map (Value.int .i64)):
  B0 h w 3 (.slice (some ⟨b,0,none⟩) l.length c) l:=by
 have e:A3.sz Int=1:=rfl;refine .inr ⟨b,c,a,rfl,d,f,g,i,by rw[e,j,en3],?_⟩;rw[e,en3,k];exact G4.2 rfl
def bD3{b:Nat}{a:Array Value}(d:w.heap[b]?=some (.cells a 3 (0,0)))(g:a.toList.take l.length=l.map (Value.int .i64)):Holds (Value.int .i64) w b 0 l.toArray:=λj f=>by
 have c:j<l.length:=by simpa using f
 rw[ej1,en2 w b j a _ (0,0) d];have e:=eg8 (λz=>z[j]?) g;simp only[en1,if_pos c,ei9,ef1 c,el5]at e;refine⟨?_,frozen_of_row w b j a _ d⟩;rw[getElem!_pos _ j f];simpa using e
def cU8(p:B0 h w 3 v l)(A:l.length<=1000000000):
  o9 prog 38 #[v] w λu d=>(B0 h d 3 v (bi8 l)/\o8 (A0 v) w d):=by
 rw[<-dO5];rcases cl8 p with⟨rfl,rfl⟩|⟨b,c,i,rfl,j,f,g,k,z,m⟩
 .refine(Any.slices_Sort_int_none Tryz.lyI none 0 w).mono ?_;rintro e d ⟨rfl,rfl⟩;have e:bi8 []=[]:=by simp[bi8]
  exact⟨_,rfl,by rw[e];exact B0.nil _ _ _,o8.refl _⟩
 .have o:b<w.heap.size:=(ef5.1 f).1;have:=Any.slices_Sort_int Tryz.lyI b 0 c l w (bD3 f m) o (by omega);refine this.mono ?_;rintro e d ⟨rfl,n,t,rfl⟩;have q:(l.mergeSort λx y=>decide (x<=y))=bi8 l:=rfl;rw[q];obtain⟨r,s⟩:=bh3 f (Value.int .i64) (bi8 l).toArray (by simp[aV1];omega) n t;refine⟨_,rfl,?_,s.weaken λ_ _ e=>by subst e;rfl⟩;have a:=aV1 l;rw[<-a]at g ⊢;refine bt8 j r g k ?_ ?_
  .simp[aV1];omega
  .simp only[];rw[el9 (by simp),ej5 (by simp)]
def cO2(p:B0 h w 3 v l)(t:l.length<=1000000000):
  o9 prog 39 #[v] w λu a=>(B0 h a 3 u (I0 l)/\o8 (A0 v) w a):=by
 rw[<-dO6];rcases cl8 p with⟨rfl,rfl⟩|⟨b,c,k,rfl,m,f,r,n,s,o⟩
 .refine(Any.slices_Compact_int_empty Tryz.lyJ none 0 w).mono ?_;rintro e a ⟨rfl,rfl⟩;exact⟨_,rfl,B0.nil _ _ _,o8.refl _⟩
 .have:=Any.slices_Compact_int Tryz.lyJ b 0 c l w (bD3 f o) (by omega) (by omega);refine this.mono ?_;rintro e a ⟨rfl,q,rfl⟩;rw[bL6];have g:=av6 l;have d:((I0 l++List.replicate (l.length-(I0 l).length) 0).toArray).size=l.length:=by simp;omega
  obtain⟨i,j⟩:=bh3 f (Value.int .i64) ((I0 l++List.replicate (l.length-(I0 l).length) 0).toArray) (by rw[d];omega) q #[];rw[grow_empty]at i j;refine⟨_,rfl,?_,j.weaken λ_ _ e=>by subst e;rfl⟩;refine bt8 m i (by omega) n ?_ ?_
  .simp;omega
  .simp only[ei4,ei0];rw[el9 (by simp),ej5 (by simp)]
def bz7(v:Value)(vs:List Vx)(w:World)(hv:R (m8 w) v vs)(V:vs.length<=1000000000):
  o9 prog 12 #[v] w λu A=>(R (m8 A) u (bo0 vs)/\o6 w A):=by
 refine p9 [v] func12 rfl ?_;simp only[i5,n9,simprocAttr,hv.isS,hv.vlen];refine A6 [6,7] (σ:=Nat×Value) (λt f A=>f 8 = .int .i64 t.1/\f 3=t.2/\t.1<=vs.length/\B0 (m8 w) A 3 t.2 (bX9 (vs.take t.1))/\o6 w A) (λt=>vs.length-t.1) (0,.slice none 0 0) ?_ ?_
 .exact⟨rfl,rfl,eg3 _,B0.nil _ _ _,o8.refl _⟩
 rintro⟨k,u⟩ f H ⟨I,O,_⟩ ⟨B,l,D,p,j⟩;simp only at B l D p;have o:=dd8 vs k;simp only[i5,n9,simprocAttr,B,O];refine y5 (λi=>?_) ?_;rotate_left
 .rintro rfl;rw[eg4]at p o;simp only[i5,simprocAttr,l];refine t8 (cU8 p (by omega)) ?_;rintro _ N ⟨a,E⟩;simp only[i5,simprocAttr,l];refine t8 (cO2 a (by rw[aV1];omega)) ?_;rintro M U ⟨G,F⟩;simp only[i5,simprocAttr];refine o7 results12 ?_;simp only[B3,simprocAttr];have z:=a.ext2 (p.ext2 j E) F;exact⟨G.rw_ (b7 z),z⟩
 have n:=hv.inS i;obtain⟨X,r,h⟩:=F5 (P:=prog) (t:=26) hv (b7 j) (ef1 i) ar8 as0 am4 N6;rw[N6]at h;have c:=cQ8 vs i;generalize vs[k]=y at r c;obtain rfl:=r.N;obtain⟨d,Y,N,m,q,s,C⟩:=ap9 (w:=H) (λ_=>False) (SV.ofN (m8 H) y) λb Q=>Q.elim;have J:=(I6.vx (SV.ofN (m8 H) y) C).1 N (A8 _ _);have a:=p.ext s;have g:=j.trans s;rcases ef2 (decide (y.kind=2))with h2|h2
 .rw[if_pos (ef3 h2)]at c;obtain⟨K,M,U,L,S,T,W⟩:=push (P:=prog) (t:=24) (e:=24) V4 rfl a (x:=.int .i64 y.id) (y:=y.id) rfl (by omega) (by omega) (b7 g);simp only[Value.cells]at K L;simp only[i5,n9,y4,simprocAttr,B,l,I,n,h,m,q,J,h2,K,L];exact nx4 (k+1,M) ⟨by rw[c];exact S,a.ext2 g T⟩
 .rw[if_neg (ef7 h2),ei5]at c;simp only[i5,n9,y4,simprocAttr,B,l,I,n,h,m,q,J,h2];exact nx4 (k+1,u) ⟨by rw[c];exact a,g⟩
end
end
def di4{P:Program}{T:TypeId}{z:Value}(l:H3 P T=some z)(c:z.cells.size=N0 P T)(i:∀u∈z.cells.toList,u.oneCell'=true)(q:J5 P T=true)(r:(P.underlying T).isSome=true)(p:(P.info? T).isSome=true)(w:World):
  ∃f,w.heap.size<f.heap.size/\(Instr.alloc T true (.tuple #[])).run P w = .ok (.pointer (some ⟨w.heap.size,0,none⟩)) f/\o6 w f/\∀(e:World) (cs:Array Value),cs.size=N0 P T->(∀u∈cs.toList,u.oneCell'=true)->o6 f e ->
  ∃a,(Instr.storeAt T (.pointer (some ⟨w.heap.size,0,none⟩)) (.agg cs)).run P e = .ok () a/\(Instr.loadAt T (.pointer (some ⟨w.heap.size,0,none⟩))).run P a = .ok (.agg cs) a/\o6 w a/\o8 (λb=>b=w.heap.size) e a:=by
 have o:=(aA5 (P:=P) (w:=w) (T:=T) l c (cs:=z.cells) c i).1;refine⟨_,by simp,o,o6.alloc _ _,λe cs d h k=>?_⟩;have g:e.heap[w.heap.size]?=some (.cells z.cells T (0,0)):=(k.block _ (by simp) id).trans (ej0 w _);obtain⟨a,m,n,j⟩:=ab4 (P:=P) (T:=T) g l c d h;exact⟨a,m,Y5 n q r p d.symm,o8.ext_of ((o6.alloc _ _).trans k) j λb g=>by rw[g];exact eg6 _,j⟩
def di5(w:World):∃d,w.heap.size<d.heap.size/\(Instr.alloc 106 true (.tuple #[])).run prog w = .ok (.pointer (some ⟨w.heap.size,0,none⟩)) d/\o6 w d/\∀(e:World) (c:Array Value),c.size=N0 prog 106->(∀u∈c.toList,u.oneCell'=true)->o6 d e ->
  ∃a,(Instr.storeAt 106 (.pointer (some ⟨w.heap.size,0,none⟩)) (.agg c)).run prog e = .ok () a/\(Instr.loadAt 106 (.pointer (some ⟨w.heap.size,0,none⟩))).run prog a = .ok (.agg c) a/\o6 w a/\o8 (λb=>b=w.heap.size) e a:=
 di4 cB9 (by rw[ai9];rfl) (by simp[Value.cells,Value.oneCell']) bo5 bo9 bc2 w
theorem Z8{k:IntKind}{n:Int}:(Value.int k n).cells=#[.int k n]:=rfl
theorem aZ0{b:Bool}:(Value.bool b).cells=#[.bool b]:=rfl
theorem Z9{s:A9}:(p6 s).cells=#[p6 s]:=rfl
theorem aD7{cs:Array Value}:(Value.agg cs).cells=cs:=rfl
theorem X2:Value.string ⟨#[]⟩=p6 e0:=rfl
def cY7(n:Int):B6 prog 106 [(0,.int .i64 1),(1,.int .i64 n)]=some (.agg #[.int .i64 1,.int .i64 n,p6 e0,.slice none 0 0]):=by
 simp[B6,cB6,J9,Instr.fill,Z8,X2]
def cY8(s:A9):B6 prog 106 [(0,.int .i64 2),(2,p6 s)]=some (.agg #[.int .i64 2,.int .i64 0,p6 s,.slice none 0 0]):=by
 simp[B6,cB6,J9,Instr.fill,Z8,Z9,X2]
def cY9(op:Int)(a:Value)(b:a.cells=#[a]):B6 prog 106 [(0,.int .i64 op),(3,a)]=some (.agg #[.int .i64 op,.int .i64 0,p6 e0,a]):=by
 simp[B6,cB6,J9,Instr.fill,Z8,X2,b]
def bY9(n:Int)(w:World):o9 prog 61 #[.int .i64 n] w λu g=>(u = .agg #[.int .i64 1,.int .i64 n,p6 e0,.slice none 0 0]/\o6 w g):=by
 refine p9 [.int .i64 n] func61 rfl ?_;obtain⟨h,_,b,c,a⟩:=di5 w;obtain⟨i,d,e,f,_⟩:=a h #[.int .i64 1,.int .i64 n,p6 e0,.slice none 0 0] (by rw[ai9];rfl) (by simp[p6,Value.oneCell']) (o8.refl _);simp only[i5,n9,simprocAttr,b,cY7 n,d];refine N9 results61 (ad:=⟨w.heap.size,0,none⟩) (by simp only[B3,simprocAttr]) e ?_;exact⟨rfl,f⟩
def aw1(s:A9)(w:World):o9 prog 62 #[p6 s] w λu g=>(u = .agg #[.int .i64 2,.int .i64 0,p6 s,.slice none 0 0]/\o6 w g):=by
 refine p9 [p6 s] func62 rfl ?_;obtain⟨h,_,b,c,a⟩:=di5 w;obtain⟨i,d,e,f,_⟩:=a h #[.int .i64 2,.int .i64 0,p6 s,.slice none 0 0] (by rw[ai9];rfl) (by simp[p6,Value.oneCell']) (o8.refl _);simp only[i5,n9,simprocAttr,b,cY8 s,d];refine N9 results62 (ad:=⟨w.heap.size,0,none⟩) (by simp only[B3,simprocAttr]) e ?_;exact⟨rfl,f⟩
section
variable {h:Hp}
def aB8{op n:Int}{name:A9}{a:Value}{kids:List Ex}(b:R h a kids):SV h (.agg #[.int .i64 op,.int .i64 n,p6 name,a]) (Ex.mk op n name kids):=⟨_,rfl,bC0.2 ⟨a,rfl,b⟩⟩
def dB7{r:Bool}{name:A9}{a b c d:Value}{x:Ex}(e:SV h (.agg #[a,b,c,d]) x):SV h (.agg #[.bool r,p6 name,a,b,c,d]) (⟨r,name,x⟩:Ar):=⟨_,rfl,[a,b,c,d],rfl,e.enc⟩
def bv3{id kind:Int}{g:Value}{labels:List A9}{name proc:A9}{a b c d:Value}{x:Ex}{has:Bool}{e i f:Value}{args:List Ar}{thn els:List St}
  (l:R h g labels) (n:SV h (.agg #[a,b,c,d]) x) (j:R h e args) (m:R h i thn) (k:R h f els) :
  SV h (.agg #[.int .i64 id,.int .i64 kind,g,p6 name,p6 proc,a,b,c,d,.bool has,e,i,f]) (St.mk id kind labels name proc x has args thn els):=
 ⟨_,rfl,bC1.2 ⟨g,[a,b,c,d],e,i,f,rfl,l,n.enc,j,m,k⟩⟩
def dB8{name:A9}{e f g i:Value}{a:List Pa}{c:List A9}{b:List St}{d:List A9}(j:R h e a)(k:R h f c)(l:R h g b)(m:R h i d):
  SV h (.agg #[p6 name,e,f,g,i]) (⟨name,a,c,b,d⟩:Pr):=⟨_,rfl,e,f,g,i,rfl,j,k,l,m⟩
def dS3{c d:Value}{a:List A9}{b:List Pr}(e:R h c a)(f:R h d b):SV h (.agg #[c,d]) (⟨a,b⟩:Pg):=⟨_,rfl,c,d,rfl,e,f⟩
def K9{α:Type}[A3 α]:R h (.slice none 0 0) ([]:List α):=⟨none,0,0,rfl,rfl,eg6 _,[],rfl,λj v h=>by simp at h⟩
end
def cD1{α:Type}[A3 α](h:Hp):List Value->List α->Prop
 | [],[]=>True
 | x::xs,y::ys=>SV h x y/\cD1 h xs ys
 | _,_=>False
def bS0{α:Type}[A3 α]{h:Hp}:∀{a:List Value} {b:List α},cD1 h a b->Q8 h (a.flatMap (·.cells.toList)) b/\(∀x∈a,x.cells.size=A3.sz α)/\b.length=a.length
 | [],[],_=>⟨rfl,λx d=>(by cases d),rfl⟩
 | x::a,y::b,⟨h1,h2⟩=>by
  obtain⟨e,f,g⟩:=bS0 h2;refine⟨⟨x.cells.toList,_,by simp,h1.enc,e⟩,λz c=>?_,by simp[g]⟩;rcases eh0.1 c with rfl|c
  .have:=A3.len h1.enc;simpa using this
  .exact f z c
def dA5{P:Program}{t T:TypeId}{sz by_:Nat}(o:G0 P t T sz by_=true){α:Type}[A3 α](e:A3.sz α=sz){h:Hp}{w:World}{xs:List Value}{ys:List α}{parts:Array (Nat×Value)}{n:Nat}(m:parts.toList=(xs.zipIdx 0).map λp=>(p.2,p.1))
  (f:cD1 h xs ys) (hn:n=xs.length) (d:xs≠[]) (c:xs.length<=16) (hw:B8 h (m8 w)) :
  ∃v a,(Instr.buildSlice t n parts).run P w = .ok v a/\R (m8 a) v ys/\v.cells=#[v]/\o6 w a/\B0 h a T v ys/\∀b,A0 v b->w.heap.size<=b:=by
 obtain⟨j,k,l⟩:=bS0 f;obtain⟨v,a,q,g,i,r⟩:=lit o m j (by rw[<-e];exact k) hn l d c hw;exact⟨v,a,q,g.rw_ (p7 hw (b7 i)),F0 g.isS,i,g,r⟩
def noE{N:Nat->Prop}{w a:World}(c:o6 w a):B8 (C1 w N) (C1 a N):=K0 c (λ_ h=>h.elim) λb h=>.inl h
def cS0{P:Program}{t T:TypeId}{sz by_:Nat}(m:G0 P t T sz by_=true){α:Type}[A3 α](e:A3.sz α=sz){N:Nat->Prop}{w:World}(hN:∀b,N b->b<w.heap.size){xs:List Value}{ys:List α}{parts:Array (Nat×Value)}{n:Nat}(l:parts.toList=(xs.zipIdx 0).map λp=>(p.2,p.1))
  (f:cD1 (C1 w N) xs ys) (hn:n=xs.length) (d:xs≠[]) (c:xs.length<=16) :
  ∃v a,(Instr.buildSlice t n parts).run P w = .ok v a/\R (C1 a N) v ys/\v.cells=#[v]/\o6 w a/\B0 (C1 w N) a T v ys/\∀b,A0 v b->w.heap.size<=b:=by
 obtain⟨v,a,o,_,q,g,i,j⟩:=dA5 m e l f hn d c (A8 _ _);exact⟨v,a,o,i.ro (noE g) λb k=>E4 λh=>(by have:=hN b h;have:=j b k;omega),q,g,i,j⟩
def dF6(s:A9){N:Nat->Prop}(w:World)(hN:∀b,N b->b<w.heap.size):∃v a,(Instr.buildSlice 31 1 #[(0,p6 s)]).run prog w = .ok v a/\R (C1 a N) v [s]/\v.cells=#[v]/\o6 w a:=by
 obtain⟨v,a,f,c,d,g⟩:=cH1 s w (A8 w N);exact⟨v,a,f,c.ro (noE d) λb e=>E4 λh=>(by have:=hN b h;have:=g b e;omega),F0 c.isS,d⟩
def dR4:G0 prog 104 106 4 56=true:=by kernel_rfl
def dR3:G0 prog 107 124 6 80=true:=by kernel_rfl
def dj2:G0 prog 73 109 13 208=true:=by kernel_rfl
def dR8:G0 prog 72 78 2 24=true:=by kernel_rfl
def dR9:G0 prog 32 75 5 112=true:=by kernel_rfl
def bs1(id kind:Int)(n:A9)(a b c d:Value):B6 prog 109 [(0,.int .i64 id),(1,.int .i64 kind),(3,p6 n),(5,.agg #[a,b,c,d])]=some (.agg #[.int .i64 id,.int .i64 kind,.slice none 0 0,p6 n,p6 e0,a,b,c,d,.bool false,.slice none 0 0,.slice none 0 0,.slice none 0 0]):=by
 simp[B6,bo8,J9,Instr.fill,Z8,Z9,aD7,X2]
def bs2(id kind:Int)(n q:A9)(a:Value)(b:a.cells=#[a]):B6 prog 109 [(0,.int .i64 id),(1,.int .i64 kind),(3,p6 n),(4,p6 q),(7,a)]=some (.agg #[.int .i64 id,.int .i64 kind,.slice none 0 0,p6 n,p6 q,.int .i64 0,.int .i64 0,p6 e0,.slice none 0 0,.bool false,a,.slice none 0 0,.slice none 0 0]):=by
 simp[B6,bo8,J9,Instr.fill,Z8,Z9,X2,b]
def bs3(id kind:Int)(a b c d:Value):B6 prog 109 [(0,.int .i64 id),(1,.int .i64 kind),(5,.agg #[a,b,c,d])]=some (.agg #[.int .i64 id,.int .i64 kind,.slice none 0 0,p6 e0,p6 e0,a,b,c,d,.bool false,.slice none 0 0,.slice none 0 0,.slice none 0 0]):=by
 simp[B6,bo8,J9,Instr.fill,Z8,aD7,X2]
def bs4(id kind:Int)(n:A9):B6 prog 109 [(0,.int .i64 id),(1,.int .i64 kind),(3,p6 n)]=some (.agg #[.int .i64 id,.int .i64 kind,.slice none 0 0,p6 n,p6 e0,.int .i64 0,.int .i64 0,p6 e0,.slice none 0 0,.bool false,.slice none 0 0,.slice none 0 0,.slice none 0 0]):=by
 simp[B6,bo8,J9,Instr.fill,Z8,Z9,X2]
def bs5(id kind:Int)(b c d e a:Value)(f:a.cells=#[a]):B6 prog 109 [(0,.int .i64 id),(1,.int .i64 kind),(5,.agg #[b,c,d,e]),(8,a)]=some (.agg #[.int .i64 id,.int .i64 kind,.slice none 0 0,p6 e0,p6 e0,b,c,d,e,.bool false,.slice none 0 0,a,.slice none 0 0]):=by
 simp[B6,bo8,J9,Instr.fill,Z8,aD7,X2,f]
def bs6(id kind:Int)(a b c d:Value):B6 prog 109 [(0,.int .i64 id),(1,.int .i64 kind),(6,.bool true),(5,.agg #[a,b,c,d])]=some (.agg #[.int .i64 id,.int .i64 kind,.slice none 0 0,p6 e0,p6 e0,a,b,c,d,.bool true,.slice none 0 0,.slice none 0 0,.slice none 0 0]):=by
 simp[B6,bo8,J9,Instr.fill,Z8,aZ0,aD7,X2]
def ba1(a b c d:Value):B6 prog 124 [(2,.agg #[a,b,c,d])]=some (.agg #[.bool false,p6 e0,a,b,c,d]):=by
 simp[B6,dk8,J9,Instr.fill,aD7,X2]
def ba2(n:A9):B6 prog 124 [(0,.bool true),(1,p6 n)]=some (.agg #[.bool true,p6 n,.int .i64 0,.int .i64 0,p6 e0,.slice none 0 0]):=by
 simp[B6,dk8,J9,Instr.fill,aZ0,Z9,X2]
def bp1(n:A9)(a b:Value)(d:a.cells=#[a])(c:b.cells=#[b]):B6 prog 75 [(0,p6 n),(2,a),(3,b)]=some (.agg #[p6 n,.slice none 0 0,a,b,.slice none 0 0]):=by
 simp[B6,dC4,J9,Instr.fill,Z9,X2,d,c]
def bp2(n:A9)(a b c:Value)(f:a.cells=#[a])(d:b.cells=#[b])(e:c.cells=#[c]):B6 prog 75 [(0,p6 n),(1,a),(4,c),(3,b)]=some (.agg #[p6 n,a,.slice none 0 0,b,c]):=by
 simp[B6,dC4,J9,Instr.fill,Z9,X2,f,d,e]
def bq1(n:A9):B6 prog 78 [(0,p6 n)]=some (.agg #[p6 n,.bool false]):=by
 simp[B6,dl0,J9,Instr.fill,Z9,X2]
def bq2(n:A9):B6 prog 78 [(0,p6 n),(1,.bool true)]=some (.agg #[p6 n,.bool true]):=by
 simp[B6,dl0,J9,Instr.fill,aZ0,Z9,X2]
def bg1(a b:Value)(d:a.cells=#[a])(c:b.cells=#[b]):B6 prog 34 [(0,a),(1,b)]=some (.agg #[a,b]):=by
 simp[B6,dT0,J9,Instr.fill,d,c]
def cJ3{N:Nat->Prop}(op:Int)(a b:Ex)(j k l m o p q r:Value)(w:World)(hN:∀b,N b->b<w.heap.size)(z:SV (C1 w N) (.agg #[j,k,l,m]) a)(hb:SV (C1 w N) (.agg #[o,p,q,r]) b):
  o9 prog 63 #[.int .i64 op,.agg #[j,k,l,m],.agg #[o,p,q,r]] w λu i=>(∃g,u = .agg #[.int .i64 op,.int .i64 0,p6 e0,g]/\R (C1 i N) g [a,b]/\o6 w i):=by
 refine bq7 (args:=[.int .i64 op,.agg #[j,k,l,m],.agg #[o,p,q,r]]) hm func63 rfl (by kernel_rfl) (by show 3<=_;decide +kernel) ?_;obtain⟨Z,X,B,d,s⟩:=bx7 (w:=w) (λ_=>False) z (λb h=>h.elim);obtain⟨d2,D,C,e,t⟩:=bx7 (w:=X) (λ_=>False) (hb.mono (noE d)) (λb h=>h.elim);obtain⟨E,Q,A,f,v⟩:=di5 D;have x:∀{w i:World},o6 w i->B8 (C1 w λ_=>False) (m8 i):=fun{w i} hx=>p7 (A8 _ _) (b7 hx);have S:=(I6.ex_v z s).1 E (x (e.trans f));have T:=(I6.ex_v (hb.mono (noE d)) t).1 E (x f);have c:=d.trans e;obtain⟨g,Y,U,_,V,W,H,I⟩:=dA5 (P:=prog) dR4 rfl (w:=E) (h:=C1 D N) (xs:=[.agg #[j,k,l,m],.agg #[o,p,q,r]]) (ys:=[a,b]) (parts:=#[(0,.agg #[j,k,l,m]),(1,.agg #[o,p,q,r])]) (n:=2) rfl ⟨z.mono (noE c),hb.mono (noE c),trivial⟩ rfl (by simp) (by simp) (p7 (A8 _ _) (b7 f));have y:=X1 H.isS;obtain⟨w5,J,K,F,L⟩:=v Y #[.int .i64 op,.int .i64 0,p6 Go.Proofs.YtggahhenbbgffaaGreat.e0,g] (by rw[ai9];rfl) (λu G=>by
  simp only[eh0,ek1,eq2]at G;rcases G with rfl|rfl|rfl|rfl
  .rfl
  .rfl
  .rfl
  .exact y) W
 simp only[i5,n9,simprocAttr,B,C,A,S,T,U,cY9 op g V,J];refine N9 results63 (ad:=⟨D.heap.size,0,none⟩) (by simp only[B3,simprocAttr]) K ?_;refine⟨g,rfl,?_,(d.trans e).trans F⟩;refine(H.mod L λb M h2=>(by have O:=I b M;omega)).ro (noE F) λb hb=>E4 λh=>?_;have O:=I b hb;have h4:=hN b h;have h5:=c.size;omega
def dQ8(w:World):∃d,w.heap.size<d.heap.size/\(Instr.alloc 34 true (.tuple #[])).run prog w = .ok (.pointer (some ⟨w.heap.size,0,none⟩)) d/\o6 w d/\∀(e:World) (c:Array Value),c.size=N0 prog 34->(∀u∈c.toList,u.oneCell'=true)->o6 d e ->
  ∃a,(Instr.storeAt 34 (.pointer (some ⟨w.heap.size,0,none⟩)) (.agg c)).run prog e = .ok () a/\(Instr.loadAt 34 (.pointer (some ⟨w.heap.size,0,none⟩))).run prog a = .ok (.agg c) a/\o6 w a/\o8 (λb=>b=w.heap.size) e a:=
 di4 dC9 (by rw[cp6];rfl) (by simp[Value.cells,Value.oneCell']) dk4 dl8 dk6 w
theorem ec4:Value.string ⟨#[118]⟩=p6 sV:=rfl
theorem ec2:Value.string ⟨#[103]⟩=p6 sG:=rfl
theorem ec3:Value.string ⟨#[112]⟩=p6 sP:=rfl
theorem ec5:Value.string ⟨#[120]⟩=p6 sX:=rfl
theorem ec6:Value.string ⟨#[121]⟩=p6 sY:=rfl
theorem ec1:Value.string ⟨#[101]⟩=p6 sE:=rfl
theorem dQ9:Value.string ⟨#[109,97,105,110]⟩=p6 L5:=rfl
def cX7(w:World):o9 prog 36 #[] w λu y=>(SV (m8 y) u bi7/\o6 w y):=by
 refine p9 [] func36 rfl ?_;obtain⟨w0,bc,Z,bd,D⟩:=dQ8 w;have hN:∀{y:World},o6 w0 y->∀b,b=w.heap.size->b<y.heap.size:=fun{y} hx b hb=>by have:=hx.size;omega
 obtain⟨v1,w1,q1,r1,k1,x1⟩:=dF6 sV (N:=λb=>b=w.heap.size) w0 (hN (o8.refl _));simp only[i5,simprocAttr,Z,ec4,ec2,ec3,ec5,ec6,ec1,dQ9,q1];refine B2 (bY9 2 w1) (λw2 x2=>?_);simp only[i5,simprocAttr,bs1];refine B2 (bY9 3 w2) (λw3 x3=>?_);have y3:=(x1.trans x2).trans x3;obtain⟨v4,w4,q4,r4,k4,x4,_,_⟩:=cS0 (P:=prog) (α:=Ar) dR3 rfl (N:=λb=>b=w.heap.size) (w:=w3) (hN y3) (xs:=[.agg #[.bool false,p6 e0,.int .i64 1,.int .i64 3,p6 e0,.slice none 0 0],.agg #[.bool true,p6 sV,.int .i64 0,.int .i64 0,p6 e0,.slice none 0 0]]) (ys:=[⟨false,e0,br2 3⟩,⟨true,sV,.mk 0 0 e0 []⟩]) (parts:=#[(0,.agg #[.bool false,p6 e0,.int .i64 1,.int .i64 3,p6 e0,.slice none 0 0]),(1,.agg #[.bool true,p6 sV,.int .i64 0,.int .i64 0,p6 e0,.slice none 0 0])]) (n:=2) rfl ⟨dB7 (aB8 K9),dB7 (aB8 K9),trivial⟩ rfl (by simp) (by simp);simp only[i5,simprocAttr,ba1,ba2,q4,bs2 _ _ _ _ _ k4];refine B2 (aw1 sV w4) (λw5 x5=>?_);simp only[i5,simprocAttr,bs3];refine B2 (aw1 sG w5) (λw6 x6=>?_);have y6:=((y3.trans x4).trans x5).trans x6;obtain⟨v7,w7,q7,r7,k7,x7,_,_⟩:=cS0 (P:=prog) (α:=St) dj2 rfl (N:=λb=>b=w.heap.size) (w:=w6) (hN y6) (xs:=[.agg #[.int .i64 1,.int .i64 1,.slice none 0 0,p6 sV,p6 e0,.int .i64 1,.int .i64 2,p6 e0,.slice none 0 0,.bool false,.slice none 0 0,.slice none 0 0,.slice none 0 0],.agg #[.int .i64 2,.int .i64 4,.slice none 0 0,p6 sG,p6 sP,.int .i64 0,.int .i64 0,p6 e0,.slice none 0 0,.bool false,v4,.slice none 0 0,.slice none 0 0],.agg #[.int .i64 3,.int .i64 3,.slice none 0 0,p6 e0,p6 e0,.int .i64 2,.int .i64 0,p6 sV,.slice none 0 0,.bool false,.slice none 0 0,.slice none 0 0,.slice none 0 0],.agg #[.int .i64 4,.int .i64 3,.slice none 0 0,p6 e0,p6 e0,.int .i64 2,.int .i64 0,p6 sG,.slice none 0 0,.bool false,.slice none 0 0,.slice none 0 0,.slice none 0 0]]) (ys:=[.mk 1 1 [] sV e0 (br2 2) false [] [] [],.mk 2 4 [] sG sP (.mk 0 0 e0 []) false [⟨false,e0,br2 3⟩,⟨true,sV,.mk 0 0 e0 []⟩] [] [],.mk 3 3 [] e0 e0 (ai1 sV) false [] [] [],.mk 4 3 [] e0 e0 (ai1 sG) false [] [] []]) (parts:=#[(0,.agg #[.int .i64 1,.int .i64 1,.slice none 0 0,p6 sV,p6 e0,.int .i64 1,.int .i64 2,p6 e0,.slice none 0 0,.bool false,.slice none 0 0,.slice none 0 0,.slice none 0 0]),(1,.agg #[.int .i64 2,.int .i64 4,.slice none 0 0,p6 sG,p6 sP,.int .i64 0,.int .i64 0,p6 e0,.slice none 0 0,.bool false,v4,.slice none 0 0,.slice none 0 0]),(2,.agg #[.int .i64 3,.int .i64 3,.slice none 0 0,p6 e0,p6 e0,.int .i64 2,.int .i64 0,p6 sV,.slice none 0 0,.bool false,.slice none 0 0,.slice none 0 0,.slice none 0 0]),(3,.agg #[.int .i64 4,.int .i64 3,.slice none 0 0,p6 e0,p6 e0,.int .i64 2,.int .i64 0,p6 sG,.slice none 0 0,.bool false,.slice none 0 0,.slice none 0 0,.slice none 0 0])]) (n:=4) rfl ⟨bv3 K9 (aB8 K9) K9 K9 K9,bv3 K9 (aB8 K9) (A3.mono (noE (x5.trans x6)) r4) K9 K9,bv3 K9 (aB8 K9) K9 K9 K9,bv3 K9 (aB8 K9) K9 K9 K9,trivial⟩ rfl (by simp) (by simp);have y7:=y6.trans x7;have c:SV (C1 w7 λb=>b=w.heap.size) (.agg #[p6 L5,.slice none 0 0,v1,v7,.slice none 0 0]) bI3:=dB8 K9 (A3.mono (noE (((((x2.trans x3).trans x4).trans x5).trans x6).trans x7)) r1) r7 K9;obtain⟨d1,bz,w8,B,E,x8,C⟩:=aL4 (w:=w7) (λb=>b=w.heap.size) c (hN y7);have y8:=y7.trans x8;obtain⟨v9,w9,q9,r9,k9,x9,_,_⟩:=cS0 (P:=prog) (α:=Pa) dR8 rfl (N:=λb=>b=w.heap.size) (w:=w8) (hN y8) (xs:=[.agg #[p6 sX,.bool false],.agg #[p6 sY,.bool true]]) (ys:=[⟨sX,false⟩,⟨sY,true⟩]) (parts:=#[(0,.agg #[p6 sX,.bool false]),(1,.agg #[p6 sY,.bool true])]) (n:=2) rfl ⟨⟨_,rfl,rfl⟩,⟨_,rfl,rfl⟩,trivial⟩ rfl (by simp) (by simp);have y9:=y8.trans x9;obtain⟨p,M,ag,am,aa,Q⟩:=dF6 sE (N:=λb=>b=w.heap.size) w9 (hN y9);simp only[i5,simprocAttr,bs3,q7,bp1 _ _ _ k1 k7,B,E,bq1,bq2,q9,ag];refine B2 (aw1 sY M) (λay r=>?_);simp only[i5,simprocAttr];refine B2 (aw1 sX ay) (λaz s=>?_);have S:=((y9.trans Q).trans r).trans s;simp only[i5,simprocAttr];refine t8 (cJ3 (N:=λb=>b=w.heap.size) 8 (ai1 sY) (ai1 sX) _ _ _ _ _ _ _ _ az (hN S) (aB8 K9) (aB8 K9)) ?_;rintro _ aA ⟨J,rfl,an,t⟩;simp only[i5,simprocAttr,bs1];refine B2 (aw1 sY aA) (λaB h=>?_);simp only[i5,simprocAttr];refine B2 (bY9 9 aB) (λaC i=>?_);have T:=((S.trans t).trans h).trans i;simp only[i5,simprocAttr];refine t8 (cJ3 (N:=λb=>b=w.heap.size) 12 (ai1 sY) (br2 9) _ _ _ _ _ _ _ _ aC (hN T) (aB8 K9) (aB8 K9)) ?_;rintro _ aD ⟨K,rfl,ao,j⟩;have U:=T.trans j;obtain⟨L,aE,ah,ap,ab,e,_,_⟩:=cS0 (P:=prog) (α:=St) dj2 rfl (N:=λb=>b=w.heap.size) (w:=aD) (hN U) (xs:=[.agg #[.int .i64 7,.int .i64 10,.slice none 0 0,p6 sE,p6 e0,.int .i64 0,.int .i64 0,p6 e0,.slice none 0 0,.bool false,.slice none 0 0,.slice none 0 0,.slice none 0 0]]) (ys:=[.mk 7 10 [] sE e0 (.mk 0 0 e0 []) false [] [] []]) (parts:=#[(0,.agg #[.int .i64 7,.int .i64 10,.slice none 0 0,p6 sE,p6 e0,.int .i64 0,.int .i64 0,p6 e0,.slice none 0 0,.bool false,.slice none 0 0,.slice none 0 0,.slice none 0 0])]) (n:=1) rfl ⟨bv3 K9 (aB8 K9) K9 K9 K9,trivial⟩ rfl (by simp) (by simp);simp only[i5,simprocAttr,bs4,ah,bs5 _ _ _ _ _ _ _ ab];refine B2 (aw1 sY aE) (λaF a=>?_);have V:=(U.trans e).trans a;have F:=A3.mono (noE ((((h.trans i).trans j).trans e).trans a)) an;obtain⟨q,f,aj,aq,ac,v,_,_⟩:=cS0 (P:=prog) (α:=St) dj2 rfl (N:=λb=>b=w.heap.size) (w:=aF) (hN V) (xs:=[.agg #[.int .i64 5,.int .i64 1,.slice none 0 0,p6 sY,p6 e0,.int .i64 8,.int .i64 0,p6 e0,J,.bool false,.slice none 0 0,.slice none 0 0,.slice none 0 0],.agg #[.int .i64 6,.int .i64 5,.slice none 0 0,p6 e0,p6 e0,.int .i64 12,.int .i64 0,p6 e0,K,.bool false,.slice none 0 0,L,.slice none 0 0],.agg #[.int .i64 8,.int .i64 9,.slice none 0 0,p6 e0,p6 e0,.int .i64 2,.int .i64 0,p6 sY,.slice none 0 0,.bool true,.slice none 0 0,.slice none 0 0,.slice none 0 0]]) (ys:=[.mk 5 1 [] sY e0 (cF7 8 (ai1 sY) (ai1 sX)) false [] [] [],.mk 6 5 [] e0 e0 (cF7 12 (ai1 sY) (br2 9)) false [] [.mk 7 10 [] sE e0 (.mk 0 0 e0 []) false [] [] []] [],.mk 8 9 [] e0 e0 (ai1 sY) true [] [] []]) (parts:=#[(0,.agg #[.int .i64 5,.int .i64 1,.slice none 0 0,p6 sY,p6 e0,.int .i64 8,.int .i64 0,p6 e0,J,.bool false,.slice none 0 0,.slice none 0 0,.slice none 0 0]),(1,.agg #[.int .i64 6,.int .i64 5,.slice none 0 0,p6 e0,p6 e0,.int .i64 12,.int .i64 0,p6 e0,K,.bool false,.slice none 0 0,L,.slice none 0 0]),(2,.agg #[.int .i64 8,.int .i64 9,.slice none 0 0,p6 e0,p6 e0,.int .i64 2,.int .i64 0,p6 sY,.slice none 0 0,.bool true,.slice none 0 0,.slice none 0 0,.slice none 0 0])]) (n:=3) rfl ⟨bv3 K9 (aB8 F) K9 K9 K9,bv3 K9 (aB8 (A3.mono (noE (e.trans a)) ao)) K9 (A3.mono (noE a) ap) K9,bv3 K9 (aB8 K9) K9 K9 K9,trivial⟩ rfl (by simp) (by simp);have W:=V.trans v;have z9:o6 w9 f:=((((((((Q.trans r).trans s).trans t).trans h).trans i).trans j).trans e).trans a).trans v;have aL:o6 M f:=(((((((r.trans s).trans t).trans h).trans i).trans j).trans e).trans a).trans v;have d:SV (C1 f λb=>b=w.heap.size) (.agg #[p6 sP,v9,.slice none 0 0,q,p]) bI4:=dB8 (A3.mono (noE z9) r9) K9 aq (A3.mono (noE aL) am);obtain⟨d2,aU,aG,l,o,x,m⟩:=aL4 (w:=f) (λb=>b=w.heap.size) d (hN W);have X:=W.trans x;obtain⟨au,g,ak,G,ae,k⟩:=dF6 sG (N:=λb=>b=w.heap.size) aG (hN X);have Y:=X.trans k;have z8:o6 w8 g:=((x9.trans z9).trans x).trans k;have l1:=(I6.pr_v c C).1 g (p7 (noE z8) (A8 _ _));have l2:=(I6.pr_v d m).1 g (p7 (noE k) (A8 _ _));obtain⟨av,O,al,I,af,R,_,_⟩:=cS0 (P:=prog) (α:=Pr) dR9 rfl (N:=λb=>b=w.heap.size) (w:=g) (hN Y) (xs:=[.agg #[p6 L5,.slice none 0 0,v1,v7,.slice none 0 0],.agg #[p6 sP,v9,.slice none 0 0,q,p]]) (ys:=[bI3,bI4]) (parts:=#[(0,.agg #[p6 L5,.slice none 0 0,v1,v7,.slice none 0 0]),(1,.agg #[p6 sP,v9,.slice none 0 0,q,p])]) (n:=2) rfl ⟨c.mono (noE (x8.trans z8)),d.mono (noE (x.trans k)),trivial⟩ rfl (by simp) (by simp);have aK:=Y.trans R;have H:=A3.mono (noE R) G;have z:=ae7 G;have A:=ae7 I;obtain⟨aH,e1,e2,e3,e4⟩:=D O #[au,av] (by rw[cp6];rfl) (λu hu=>by
  simp only[eh0,ek1,eq2]at hu;rcases hu with rfl|rfl
  .exact z
  .exact A) aK
 simp only[i5,simprocAttr,bs6,aj,bp2 _ _ _ _ k9 ac aa,l,o,ak,l1,l2,al,bg1 _ _ ae af,e1];refine N9 results36 (ad:=⟨w.heap.size,0,none⟩) (by simp only[B3,simprocAttr]) e2 ?_;refine⟨?_,e3⟩;have hh:B8 (C1 O λb=>b=w.heap.size) (m8 aH):=H2 (A8 _ _) e4 λb hb=>F9 hb;exact dS3 (A3.mono hh H) (A3.mono hh I)
def ca7:B7 bi7<=1000000:=by decide +kernel
def aa6:Vx:=⟨L5,2,3,e0⟩
def co3:X3 bi7 3=(aa6,0):=by decide +kernel
def bT2:((ab3 bi7 [aa6]).2,((ab3 bi7 [aa6]).1.filter λv=>decide (v.kind=2)).map (·.id))=(0,[1,2,3,5]):=by decide +kernel
def bT3:((ae9 bi7 [aa6]).1.length,(ae9 bi7 [aa6]).2)=(1,0):=by decide +kernel
def cz9:bo0 (ab3 bi7 [aa6]).1=[1,2,3,5]:=by
 have h:=eg8 Prod.snd bT2;simp only at h;refine cn0 (cA5 _) (by decide) λx=>?_;rw[cV4];unfold bX9;rw[h]
def bN5(q:A9)(k d:Int):B6 prog 26 [(0,p6 q),(1,.int .i64 k),(2,.int .i64 d)]=some (.agg (p8.cells (⟨q,k,d,e0⟩:Vx)).toArray):=by
 have h:p8.cells (⟨q,k,d,e0⟩:Vx)=[p6 q,.int .i64 k,.int .i64 d,p6 e0]:=rfl;rw[h];simp[B6,bJ4,J9,Instr.fill,Value.cells,p6,e0];rfl
def bf6(y:Vx)(w:World):∃u a,(Instr.buildSlice 22 1 #[(0,.agg (p8.cells y).toArray)]).run prog w = .ok u a/\R (m8 a) u [y]/\o6 w a:=by
 obtain⟨u,a,c,d,b,_⟩:=lit (P:=prog) (t:=22) (w:=w) (h:=m8 w) (α:=Vx) (xs:=[.agg (p8.cells y).toArray]) (ys:=[y]) (parts:=#[(0,.agg (p8.cells y).toArray)]) (n:=1) at7 rfl (aj7 ((p8.iff_ _ _ _).2 (by simp[Value.cells]))) (by simp[Value.cells];rfl) rfl rfl (by simp) (by simp) (n7 _);exact⟨u,a,c,d.rw_ (b7 b),b⟩
def az5(w:World):o9 prog 9 #[] w λu w'=>(u = .bool true/\o6 w w'):=by
 refine p9 [] func9 rfl ?_;have B:Value.string {data:=#[109,97,105,110]}=p6 L5:=rfl;have W:=co3;have V:=cz9;have l:=eg8 Prod.fst bT2;have m:=eg8 Prod.fst bT3;have o:=eg8 Prod.snd bT3;simp only at l m o;simp only[i5,simprocAttr];refine t8 (cX7 w) ?_;rintro u w1 ⟨hu,E⟩;obtain⟨d,wz,T,z,C,F,A⟩:=dx4 hu (n7 _);obtain⟨M,i,j,_⟩:=A.pg_v;simp only[i5,simprocAttr,z,C,j T (n7 _)];refine B2 (as7 M 3 T i ca7) (λN G=>?_);rw[W];simp only[];obtain⟨dv,au,O,p,t,H,q⟩:=ap9 (w:=N) (λ_=>False) (SV.ofN (m8 N) aa6) λb X=>X.elim;obtain⟨k,_⟩:=I6.vx_v (SV.ofN (m8 N) aa6) q;have c:=G.trans H;obtain⟨u5,w5,q5,r5,v⟩:=bf6 aa6 O;simp only[i5,simprocAttr,p,t,j O (b7 c),k O (A8 _ _),q5];refine t8 (K6 M u5 [aa6] w5 (i.mono (b7 (c.trans v))) ca7 r5 (by simp)) ?_;rintro _ Q ⟨ub,rfl,rb,Y,I⟩;rw[l];have f:=v.trans I;have e:=c.trans f;obtain⟨u7,w7,q7,r7,x⟩:=bf6 aa6 Q;simp only[i5,simprocAttr,j Q (b7 e),k Q (p7 (A8 _ _) (b7 f)),q7];refine t8 (N5 M u7 [aa6] w7 (i.mono (b7 (e.trans x))) ca7 r7 (by simp)) ?_;rintro _ U ⟨uf,rfl,S,Z,J⟩;rw[o];have g:=x.trans J;have L:=k U (p7 (A8 _ _) (b7 (f.trans g)));have y:=S.isS;have s:=S.vlen;rw[m]at s;have r:=bN5 L5 2 3;have D:(⟨L5,2,3,e0⟩:Vx)=aa6:=rfl;rw[D]at r;have hd:decide (aa6=aa6)=true:=ek5 rfl;simp only[i5,n9,simprocAttr,L,B,r];simp only[i5,n9,simprocAttr,L8,p8.cells,(λw0 a b=>bl8 w0 a b aa6 aa6)];refine t8 (bz7 ub (ab3 bi7 [aa6]).1 U (A3.mono (b7 g) rb) (by omega)) ?_;rintro us w9 ⟨rs,hx9⟩;rw[V]at rs;obtain⟨ul,wa,qa,oa,R,_⟩:=lit (P:=prog) (w:=w9) (h:=m8 w9) (α:=Int) (xs:=[.int .i64 1,.int .i64 2,.int .i64 3,.int .i64 5]) (ys:=[1,2,3,5]) (parts:=#[(0,.int .i64 1),(1,.int .i64 2),(2,.int .i64 3),(3,.int .i64 5)]) (n:=4) V4 rfl (G4.2 rfl) (by simp[Value.cells]) rfl rfl (by simp) (by simp) (n7 _);simp only[i5,simprocAttr,qa];refine B2 (ct9 us ul [1,2,3,5] [1,2,3,5] wa (A3.mono (b7 R) rs) (oa.rw_ (b7 R)) (by simp)) (λwb K=>?_);simp only[i5,n9,simprocAttr,y,s];exact o7 results9 ⟨rfl,(((((E.trans F).trans e).trans g).trans hx9).trans R).trans K⟩
def O3(n:Nat):Int:=((min n 20001:Nat):Int)
def dq8(n:Nat):0<=O3 n/\O3 n<=20001:=by unfold O3;omega
def ax3{n:Nat}(h:O3 n<=20000):O3 n=(n:Int)/\n<=20000:=by unfold O3 at *;omega
def an4{n m:Nat}(h:¬O3 n<=20000)(hm:n<=m):O3 m=20001/\O3 n=20001:=by unfold O3 at *;omega
def H1{α:Type}(f:α->Nat)(l:List α):Nat:=(l.map f).sum
section
variable {α:Type} {f:α->Nat}
def ao6{l:List α}{k:Nat}(a:k<l.length):H1 f (l.take (k+1))=H1 f (l.take k)+f l[k]:=by
 unfold H1;rw[ef8 a,ei4,List.sum_append];simp only[ej9,List.map_nil,eq8,List.sum_nil];omega
def aF7(l:List α)(k:Nat):H1 f (l.take k)<=H1 f l:=by
 unfold H1
 conv=>rhs;rw[<-ej2 k l]
 rw[ei4,List.sum_append];omega
def ao5(h:∀x,1<=f x):∀(l:List α),l.length<=H1 f l
 | []=>by simp
 | x::l=>by
  have:=ao5 h l;have:=h x;unfold H1 at *;simp only[ej9,eq8,ei2];omega
end
theorem cq7:∀l:List A9,aG4 l=H1 wtT l
 | []=>rfl
 | s::l=>by rw[aG4,cq7 l];rfl
theorem bU3:∀l:List Ex,aA0 l=H1 Y0 l
 | []=>rfl
 | s::l=>by rw[aA0,bU3 l];rfl
theorem bU1:∀l:List Ar,ah4 l=H1 at0 l
 | []=>rfl
 | s::l=>by rw[ah4,bU1 l];rfl
theorem bp9:∀l:List St,J4 l=H1 U1 l
 | []=>rfl
 | s::l=>by rw[J4,bp9 l];rfl
theorem bU4:∀l:List Pa,bK6 l=H1 (λa=>wtT a.name) l
 | []=>rfl
 | s::l=>by rw[bK6,bU4 l];rfl
theorem bU5:∀l:List Pr,aM8 l=H1 ab0 l
 | []=>rfl
 | s::l=>by rw[aM8,bU5 l];rfl
def aW3(s:A9):1<=wtT s:=by unfold wtT;omega
def dn7(a:Ar):1<=at0 a:=by unfold at0;have:=aW3 a.name;omega
def dn8(f:Pr):1<=ab0 f:=by unfold ab0;have:=aW3 f.name;omega
def W6(s:A9)(n:Nat)(w:World):o9 prog 41 #[p6 s,.int .i64 (O3 n)] w λu g=>(u = .int .i64 (O3 (n+wtT s))/\g=w):=by
 refine p9 [p6 s,.int .i64 (O3 n)] func41 rfl ?_;have a:T6 prog 9 (p6 s)=some (.int .i64 (s.b.length:Nat)):=dO0 (by kernel_rfl) (by kernel_rfl);have k:=dq8 n;have l:wtT s=1+s.b.length:=rfl;rcases ef2 (decide (20000<O3 n))with h1|h1
 .have c:=ef3 h1;simp only[i5,n9,simprocAttr,h1];refine o7 results41 ?_;simp only[B3,simprocAttr];exact⟨by rw[(an4 (by omega) (by omega:n<=n+wtT s)).1],by trivial⟩
 have c:=ef7 h1;obtain⟨h,j⟩:=ax3 (n:=n) (by omega);have b:IntKind.i64.wrap (20000-O3 n)=20000-O3 n:=M2 _ (by omega);generalize i:((s.b.length:Nat):Int)=L at a;rcases ef2 (decide (20000-O3 n<=L))with h2|h2
 .have d:=ef3 h2;simp only[i5,n9,simprocAttr,h1,a,b,h2];refine o7 results41 ?_;simp only[B3,simprocAttr];have:O3 (n+wtT s)=20001:=by unfold O3 at *;omega
  exact⟨by rw[this],by trivial⟩
 have d:=ef7 h2;have e:IntKind.i64.wrap (O3 n+1)=O3 n+1:=M2 _ (by omega);have f:IntKind.i64.wrap (O3 n+1+L)=O3 n+1+L:=M2 _ (by omega);simp only[i5,n9,simprocAttr,h1,a,b,h2,e,f];refine o7 results41 ?_;simp only[B3,simprocAttr];have:O3 (n+wtT s)=O3 n+1+L:=by unfold O3 at *;omega
 exact⟨by rw[this],by trivial⟩
def am7(v:Value)(l:List A9)(n:Nat)(w:World)(hv:R (m8 w) v l):o9 prog 40 #[v,.int .i64 (O3 n)] w λu t=>(u = .int .i64 (O3 (n+aG4 l))/\t=w):=by
 refine p9 [v,.int .i64 (O3 n)] func40 rfl ?_;have o:=hv.isS;have r:=hv.vlen;rw[cq7];simp only[i5,n9,simprocAttr];refine A6 [0] (σ:=Nat) (λi f t=>f 5 = .int .i64 i/\f 1 = .int .i64 (O3 (n+H1 wtT (l.take i)))/\i<=l.length/\t=w) (λi=>l.length-i) 0 ?_ ?_
 .simp only[B3,simprocAttr];exact⟨by trivial,by simp[H1],eg3 _,by trivial⟩
 rintro i f z ⟨e0,_⟩ ⟨j,c,y,rfl⟩;rcases ef2 (decide ((i:Int)<(l.length:Int)))with hc|hc;rotate_left
 .have p:i=l.length:=by have:=ef7 hc;omega
  subst p;rw[eg4]at c;simp only[i5,n9,simprocAttr,j,e0,o,r,hc,c];exact o7 results40 ⟨rfl,rfl⟩
 have a:i<l.length:=by have:=ef3 hc;omega
 have g:=aF7 (f:=wtT) l i;have q:=hv.inS a;have d:=ldS hv (n7 _) a;have b:=ao6 (f:=wtT) a;have h:=ao5 aW3 (l.take i);rw[eg0]at h;generalize l[i]=s at d b;generalize H1 wtT (l.take i)=S at c b g h;rcases ef2 (decide (O3 (n+S)<=20000))with h2|h2;rotate_left
 .have k:=ef7 h2;have e:=an4 (m:=n+H1 wtT l) k (by omega);simp only[i5,n9,simprocAttr,j,e0,o,r,hc,c,h2];refine o7 results40 ?_;simp only[B3,simprocAttr];exact⟨by rw[e.1,e.2],by trivial⟩
 obtain⟨_,x⟩:=ax3 (ef3 h2);simp only[i5,n9,y4,simprocAttr,j,e0,o,r,hc,c,h2,q,d];refine E6 (W6 s (n+S) _) ?_;simp only[i5,n9,simprocAttr,j];exact nx2 (i+1) ⟨by rw[b,<-ep8],by omega,by trivial⟩
def aY2:∀(m:Nat) (x:Ex) (v:Value) (n:Nat) (w:World),Y0 x<=m->SV (m8 w) v x ->
  o9 prog 66 #[v,.int .i64 (O3 n)] w λu M=>(u = .int .i64 (O3 (n+Y0 x))/\o6 w M):=by
 intro m
 induction m using Nat.strongRecOn with
 | ind m Y=>
 intro x v n w V W;refine p9 [v,.int .i64 (O3 n)] func66 rfl ?_;have A:=cc9 x;rw[bU3]at A;have p:∀y∈x.kids,Y0 y<Y0 x:=λy X=>by
  have k:=bp8 X;have o:=cc9 x;have h3:=aW3 x.name;omega
 rw[A];obtain⟨a,O,G,B,F⟩:=aS8 W (n7 _);obtain⟨vk,c,R,_⟩:=F.ex;have h:=c.isS;have g:=c.vlen;simp only[i5,n9,simprocAttr,G,R O (n7 _)];refine E6 (W6 x.name n O) ?_;generalize hN:n+wtT x.name=N;rw[show n+(wtT x.name+H1 Y0 x.kids)=N+H1 Y0 x.kids by omega];generalize x.kids=l at c g p;simp only[i5,simprocAttr];refine A6 [2] (σ:=Nat) (λi f M=>f 5 = .int .i64 i/\f 1 = .int .i64 (O3 (N+H1 Y0 (l.take i)))/\i<=l.length/\o6 O M) (λi=>l.length-i) 0 ?_ ?_
 .simp only[B3,simprocAttr];exact⟨by trivial,by simp[H1],eg3 _,o8.refl _⟩
 rintro i f T ⟨D,_⟩ ⟨C,k,U,b⟩;have L:=R T (b7 b);rcases ef2 (decide ((i:Int)<(l.length:Int)))with hc|hc;rotate_left
 .have H:i=l.length:=by have:=ef7 hc;omega
  subst H;rw[eg4]at k;simp only[i5,n9,simprocAttr,C,D,L,h,g,hc,k];exact o7 results66 ⟨rfl,B.trans b⟩
 have d:i<l.length:=by have:=ef3 hc;omega
 have r:=aF7 (f:=Y0) l i;have j:=ao6 (f:=Y0) d;have s:=ao5 aS5 (l.take i);rw[eg0]at s;have I:=c.inS d;obtain⟨Z,z,q⟩:=F5 (P:=prog) (t:=106) c (b7 b) (ef1 d) bo5 bo9 bc2 ai9;rw[ai9]at q;have J:=p _ (eg2 d);generalize l[i]=y at z j J;generalize H1 Y0 (l.take i)=S at k j r s;rcases ef2 (decide (O3 (N+S)<=20000))with o|o;rotate_left
 .have E:=ef7 o;have e:=an4 (m:=N+H1 Y0 l) E (by omega);simp only[i5,n9,simprocAttr,C,D,L,h,g,hc,k,o];refine o7 results66 ?_;simp only[B3,simprocAttr];exact⟨by rw[e.1,e.2],B.trans b⟩
 obtain⟨_,Q⟩:=ax3 (ef3 o);simp only[i5,n9,y4,simprocAttr,C,D,L,h,g,hc,k,o,I,q];refine B2 (Y (Y0 y) (by omega) y Z (N+S) T (eg6 _) (z.mono (b7 b))) (λw3 K=>?_);simp only[i5,n9,simprocAttr,C];exact nx2 (i+1) ⟨by rw[j,<-ep8],by omega,b.trans K⟩
def aS4:∀(m:Nat) (l:List St) (v:Value) (n:Nat) (w:World),J4 l<=m->R (m8 w) v l ->
  o9 prog 42 #[v,.int .i64 (O3 n)] w λu b=>(u = .int .i64 (O3 (n+J4 l))/\o6 w b):=by
 intro m
 induction m using Nat.strongRecOn with
 | ind m ih=>
 intro l v n w aC hv;refine p9 [v,.int .i64 (O3 n)] func42 rfl ?_;have J:∀t∈l,J4 t.thn<J4 l/\J4 t.els<J4 l:=λt ht=>by
  have L:=ap0 ht;have V:=V7 t;have C:=aW3 t.name;omega
 have hS:=hv.isS;have hn:=hv.vlen;rw[bp9]at aC ⊢;rw[bp9 l]at J;simp only[i5,n9,simprocAttr];refine A6 [0] (σ:=Nat) (λi f b=>f 5 = .int .i64 i/\f 1 = .int .i64 (O3 (n+H1 U1 (l.take i)))/\i<=l.length/\o6 w b) (λi=>l.length-i) 0 ?_ ?_
 .simp only[B3,simprocAttr];exact⟨by trivial,by simp[H1],eg3 _,o8.refl _⟩
 rintro i f w2 ⟨e0,_⟩ ⟨W,L,aZ,z⟩;rcases ef2 (decide ((i:Int)<(l.length:Int)))with hc|hc;rotate_left
 .have O:i=l.length:=by have:=ef7 hc;omega
  subst O;rw[eg4]at L;simp only[i5,n9,simprocAttr,W,e0,hS,hn,hc,L];exact o7 results42 ⟨rfl,z⟩
 have D:i<l.length:=by have:=ef3 hc;omega
 have ad:=aF7 (f:=U1) l i;have T:=ao6 (f:=U1) D;have af:=ao5 (f:=U1) (λt=>by have:=cq6 t;omega) (l.take i);rw[eg0]at af;have ax:=hv.inS D;obtain⟨sv,ah,ac⟩:=F5 (P:=prog) (t:=109) hv (b7 z) (ef1 D) bc0 bc4 aL0 ad2;rw[ad2]at ac;obtain⟨aA,aB⟩:=J _ (eg2 D);generalize l[i]=t at ah T aA aB;generalize H1 U1 (l.take i)=S at L T ad af;rcases ef2 (decide (O3 (n+S)<=20000))with V|V;rotate_left
 .have ar:=ef7 V;have e:=an4 (m:=n+H1 U1 l) ar (by omega);simp only[i5,n9,simprocAttr,W,e0,hS,hn,hc,L,V];refine o7 results42 ?_;simp only[B3,simprocAttr];exact⟨by rw[e.1,e.2],z⟩
 obtain⟨_,aT⟩:=ax3 (ef3 V);obtain⟨d,wz,q,av,aD,aG,aw⟩:=bj9 (ah.mono (b7 z)) (n7 _);have ak:=z.trans aG;obtain⟨vl,va,vt,ve,ay,s,aj,aa,Z,aJ,am⟩:=aw.st;obtain⟨sx,aE,_,aM⟩:=Z.ex_v;have aF:=V7 t;have t1:=am (λb=>o6 q.drew b) q.drew (o8.refl _) λb h=>b7 ((o6.drew q).trans h);have t2:=aM (λb=>o6 q.drew b) q.drew (o8.refl _) λb h=>b7 ((o6.drew q).trans h);simp only[i5,n9,y4,simprocAttr,W,e0,hS,hn,hc,L,V,ax,ac,av,aD];refine B9 (λb=>o6 q.drew b) 14 (A5 [0,1,2,3,4,5,6,7,8,9,10,11,12,13]) ?_;simp only[D0,A5,i5,n9,simprocAttr,t1,t2,L];refine B2 (aY2 (Y0 t.x) t.x sx (n+S) q.drew (eg6 _) (aE.mono (b7 (o6.drew q)))) (λw4 p=>⟨p,?_⟩);simp only[D0,i5,simprocAttr];refine E6 (am7 vl t.labels (n+S+Y0 t.x) w4 (A3.mono (b7 ((o6.drew q).trans p)) ay)) ⟨p,?_⟩;simp only[D0,i5,simprocAttr];refine E6 (W6 t.name (n+S+Y0 t.x+aG4 t.labels) w4) ⟨p,?_⟩;simp only[D0,i5,simprocAttr];refine E6 (W6 t.proc (n+S+Y0 t.x+aG4 t.labels+wtT t.name) w4) ⟨p,?_⟩;generalize hB:n+S+Y0 t.x+aG4 t.labels+wtT t.name+wtT t.proc=B;have al:=(o6.drew q).trans p;have N:=s.isS;have E:=s.vlen;have M:n+H1 U1 (l.take (i+1))=B+H1 at0 t.args+J4 t.thn+J4 t.els:=by rw[T,aF,<-bU1,<-hB];omega
 generalize t.args=a at s E M;simp only[D0,i5,simprocAttr];refine A6 [0,5,6] (σ:=Nat) (λk f' b=>f' 7 = .int .i64 k/\f' 1 = .int .i64 (O3 (B+H1 at0 (a.take k)))/\k<=a.length/\o6 q b) (λk=>a.length-k) 0 ?_ ?_
 .simp only[B3,simprocAttr];exact⟨by trivial,by simp[H1],eg3 _,al⟩
 rintro k f2 j ⟨g0,g5,U,_⟩ ⟨X,o,a0,F⟩;rw[e0]at g0;have l5:=aJ j (b7 F);have K:=ak.trans F;have aS:=aF7 (f:=at0) a k;have g:=F.trans (o6.drew j);have t3:=am (λb=>o6 j.drew b) j.drew (o8.refl _) λb h=>b7 (g.trans h);rcases ef2 (decide ((k:Int)<(a.length:Int))&&decide (O3 (B+H1 at0 (a.take k))<=20000))with hg|hg;rotate_left
 .have H:O3 (B+H1 at0 (a.take k))=O3 (B+H1 at0 a):=by
   rcases ef2 (decide ((k:Int)<(a.length:Int)))with C|C
   .rw[C,em1]at hg;have e:=an4 (m:=B+H1 at0 a) (ef7 hg) (by omega);rw[e.1,e.2]
   .have O:k=a.length:=by have:=ef7 C;omega
    rw[O,eg4]
  rw[H]at o;rcases ef2 (decide ((k:Int)<(a.length:Int)))with C|C
  .rw[C,em1,H]at hg;simp only[i5,n9,simprocAttr,X,U,l5,N,E,C,hg,o];refine B9 (λb=>o6 j.drew b) 8 (A5 [0,1,2,3,4,5,6,7]) ?_;simp only[D0,A5,i5,n9,simprocAttr,U,t3,o];refine B2 (ih (J4 t.thn) (by omega) t.thn vt (B+H1 at0 a) j.drew (eg6 _) (A3.mono (b7 g) aj)) (λw6 c=>⟨c,?_⟩);simp only[D0,i5,simprocAttr];refine B2 (ih (J4 t.els) (by omega) t.els ve (B+H1 at0 a+J4 t.thn) w6 (eg6 _) (A3.mono (b7 (g.trans c)) aa)) (λw7 A=>⟨c.trans A,?_⟩);simp only[D0,i5,simprocAttr];simp only[i5,n9,simprocAttr,g5,W];exact nx2 (i+1) ⟨by rw[M],by omega,K.trans ((o6.drew j).trans (c.trans A))⟩
  .simp only[i5,n9,simprocAttr,X,U,l5,N,E,C];refine B9 (λb=>o6 j.drew b) 8 (A5 [0,1,2,3,4,5,6,7]) ?_;simp only[D0,A5,i5,n9,simprocAttr,U,t3,o];refine B2 (ih (J4 t.thn) (by omega) t.thn vt (B+H1 at0 a) j.drew (eg6 _) (A3.mono (b7 g) aj)) (λw6 c=>⟨c,?_⟩);simp only[D0,i5,simprocAttr];refine B2 (ih (J4 t.els) (by omega) t.els ve (B+H1 at0 a+J4 t.thn) w6 (eg6 _) (A3.mono (b7 (g.trans c)) aa)) (λw7 A=>⟨c.trans A,?_⟩);simp only[D0,i5,simprocAttr];simp only[i5,n9,simprocAttr,g5,W];exact nx2 (i+1) ⟨by rw[M],by omega,K.trans ((o6.drew j).trans (c.trans A))⟩
 rw[eh5]at hg;have r:k<a.length:=by have:=ef3 hg.1;omega
 obtain⟨_,Q⟩:=ax3 (ef3 hg.2);have y:=ao6 (f:=at0) r;have I:=ao5 dn7 (a.take k);rw[eg0]at I;have ab:=s.inS r;have G:=s.at_ (i:=k) (x:=a[k]) (ef1 r);have aH:A3.sz Ar=6:=rfl;rw[aH]at G;obtain⟨Y,_,aL⟩:=G.ar;obtain⟨sa,ae,_,aK⟩:=Y.ex_v;have t4:=aL (λb=>o6 j.drew b) j.drew (o8.refl _) λb h=>b7 (g.trans h);have t5:=aK (λb=>o6 j.drew b) j.drew (o8.refl _) λb h=>b7 (g.trans h);generalize a[k]=ag at y ae t4;generalize H1 at0 (a.take k)=S2 at o y Q I hg;simp only[i5,n9,simprocAttr,X,U,l5,N,E,hg.1,hg.2,o];refine B9 (λb=>o6 j.drew b) 16 (A5 [0,1,2,3,4,5,6,7,8,9,10,11,12,13,14,15]) ?_;simp only[D0,A5,i5,n9,y4,simprocAttr,U,X,t3,t4,t5,ab,o];refine B2 (aY2 (Y0 ag.x) ag.x sa (B+S2) j.drew (eg6 _) (ae.mono (b7 g))) (λw6 c=>⟨c,?_⟩);simp only[D0,i5,simprocAttr];refine E6 (W6 ag.name (B+S2+Y0 ag.x) w6) ⟨c,?_⟩;simp only[D0,i5,simprocAttr];simp only[i5,n9,simprocAttr,X];exact nx2 (k+1) ⟨by rw[y];unfold at0;rw[<-ep8,<-ep8],by omega,F.trans ((o6.drew j).trans c)⟩
def aN3(v:Value)(p:Pg)(w:World)(hv:SV (m8 w) v p):o9 prog 13 #[v] w λu C=>(u = .bool (decide (B7 p<=20000))/\o6 w C):=by
 refine p9 [v] func13 rfl ?_;obtain⟨c,w1,aw,ae,W⟩:=Q4 hv (n7 _);obtain⟨vg,vp,aB,z,ag,_⟩:=W.pg;have l1:=ag w1 (n7 _);have M:=z.isS;have E:=z.vlen;have s:∀m:Nat,O3 m=O3 (B7 p)->decide (O3 m<=20000)=decide (B7 p<=20000):=λm e=>by
  rw[e,ek8];unfold O3;omega
 have T:B7 p=aG4 p.globals+H1 ab0 p.procs:=by unfold B7;rw[bU5]
 simp only[i5,n9,simprocAttr,aw,l1];have aq:Value.int IntKind.i64 0 = .int .i64 (O3 0):=rfl;rw[aq];refine E6 (am7 vg p.globals 0 w1 aB) ?_;rw[ej1];generalize aG4 p.globals=G at T;generalize p.procs=l at z E T;rw[T]at s ⊢;simp only[i5,simprocAttr];refine A6 [1] (σ:=Nat) (λi f C=>f 4 = .int .i64 i/\f 3 = .int .i64 (O3 (G+H1 ab0 (l.take i)))/\i<=l.length/\o6 w1 C) (λi=>l.length-i) 0 ?_ ?_
 .simp only[B3,simprocAttr];exact⟨by trivial,by simp[H1],eg3 _,o8.refl _⟩
 rintro i f w2 ⟨e1,_⟩ ⟨h4,V,aT,j⟩;have l2:=ag w2 (b7 j);rcases ef2 (decide ((i:Int)<(l.length:Int)))with hc|hc;rotate_left
 .have N:i=l.length:=by have:=ef7 hc;omega
  subst N;rw[eg4]at V;simp only[i5,n9,simprocAttr,h4,e1,l2,M,E,hc,V,s _ rfl];exact o7 results13 ⟨rfl,ae.trans j⟩
 have Q:i<l.length:=by have:=ef3 hc;omega
 have aa:=aF7 (f:=ab0) l i;have R:=ao6 (f:=ab0) Q;have ac:=ao5 dn8 (l.take i);rw[eg0]at ac;rcases ef2 (decide (O3 (G+H1 ab0 (l.take i))<=20000))with h2|h2;rotate_left
 .have ar:=ef7 h2;have e:=an4 (m:=G+H1 ab0 l) ar (by omega);have hr:=s _ (by rw[e.1,e.2]:O3 (G+H1 ab0 (l.take i))=O3 (G+H1 ab0 l));rw[hr]at h2;simp only[i5,n9,simprocAttr,h4,e1,l2,M,E,hc,V,hr,h2];exact o7 results13 ⟨rfl,ae.trans j⟩
 obtain⟨_,ab⟩:=ax3 (ef3 h2);have ay:=z.inS Q;obtain⟨sv,ad,Z⟩:=F5 (P:=prog) (t:=75) z (b7 j) (ef1 Q) at8 at9 ar9 Q9;rw[Q9]at Z;generalize l[i]=q at ad R;generalize H1 ab0 (l.take i)=S at V R aa ac h2 ab;obtain⟨d,wz,A,au,az,aC,av⟩:=aV8 (ad.mono (b7 j)) (n7 _);have af:=j.trans aC;obtain⟨aZ,aJ,aj,aI,r,aA,X,ax,aG,aH⟩:=av.pr;have t1:=aH (λC=>o6 A.drew C) A.drew (o8.refl _) λC h=>b7 ((o6.drew A).trans h);simp only[i5,n9,y4,simprocAttr,h4,e1,l2,M,E,hc,V,h2,ay,Z,au,az];refine B9 (λC=>o6 A.drew C) 11 (A5 [0,1,2,3,4,5,6,7,8,9,10]) ?_;simp only[D0,A5,i5,n9,simprocAttr,t1,V];refine E6 (W6 q.name (G+S) A.drew) ⟨o8.refl _,?_⟩;simp only[D0,i5,simprocAttr];refine E6 (am7 aJ q.vars (G+S+wtT q.name) A.drew (A3.mono (b7 (o6.drew A)) aA)) ⟨o8.refl _,?_⟩;simp only[D0,i5,simprocAttr];refine E6 (am7 aI q.fin (G+S+wtT q.name+aG4 q.vars) A.drew (A3.mono (b7 (o6.drew A)) ax)) ⟨o8.refl _,?_⟩;generalize hB:G+S+wtT q.name+aG4 q.vars+aG4 q.fin=B;have K:G+H1 ab0 (l.take (i+1))=B+H1 (λa:Pa=>wtT a.name) q.params+J4 q.body:=by
  rw[R,<-hB];unfold ab0;rw[bU4];omega
 have L:=r.isS;have D:=r.vlen;generalize q.params=b at r D K;simp only[D0,i5,simprocAttr];refine A6 [1,4,5] (σ:=Nat) (λk f' C=>f' 6 = .int .i64 k/\f' 3 = .int .i64 (O3 (B+H1 (λa:Pa=>wtT a.name) (b.take k)))/\k<=b.length/\o6 A C) (λk=>b.length-k) 0 ?_ ?_
 .simp only[B3,simprocAttr];exact⟨by trivial,by simp[H1],eg3 _,o6.drew A⟩
 rintro k f2 w5 ⟨g1,g4,g5,_⟩ ⟨h6,g,aU,n⟩;rw[h4]at g4;have l5:=aG w5 (b7 n);have J:=af.trans n;have aN:=aF7 (f:=λa:Pa=>wtT a.name) b k;have H:(decide ((k:Int)<(b.length:Int))&&decide (O3 (B+H1 (λa:Pa=>wtT a.name) (b.take k))<=20000))=false->O3 (B+H1 (λa:Pa=>wtT a.name) (b.take k))=O3 (B+H1 (λa:Pa=>wtT a.name) b):=λhg=>by
  rcases ef2 (decide ((k:Int)<(b.length:Int)))with h|h
  .rw[h,em1]at hg;have e:=an4 (m:=B+H1 (λa:Pa=>wtT a.name) b) (ef7 hg) (by omega);rw[e.1,e.2]
  .have N:k=b.length:=by have:=ef7 h;omega
   rw[N,eg4]
 rcases ef2 (decide ((k:Int)<(b.length:Int)))with h7|h7;rotate_left
 .rw[H (by rw[h7];rfl)]at g;simp only[i5,n9,simprocAttr,h6,g5,l5,L,D,h7,g];refine B2 (aS4 (J4 q.body) q.body aj (B+H1 (λa:Pa=>wtT a.name) b) w5 (eg6 _) (A3.mono (b7 n) X)) (λw6 U=>?_);simp only[i5,n9,simprocAttr,g4];exact nx2 (i+1) ⟨by rw[K],by omega,J.trans U⟩
 rcases ef2 (decide (O3 (B+H1 (λa:Pa=>wtT a.name) (b.take k))<=20000))with h8|h8;rotate_left
 .have he:=H (by rw[h7,h8];rfl);rw[he]at g h8;simp only[i5,n9,simprocAttr,h6,g5,l5,L,D,h7,h8,g];refine B2 (aS4 (J4 q.body) q.body aj (B+H1 (λa:Pa=>wtT a.name) b) w5 (eg6 _) (A3.mono (b7 n) X)) (λw6 U=>?_);simp only[i5,n9,simprocAttr,g4];exact nx2 (i+1) ⟨by rw[K],by omega,J.trans U⟩
 have o:k<b.length:=by have:=ef3 h7;omega
 obtain⟨_,O⟩:=ax3 (ef3 h8);have y:=ao6 (f:=λa:Pa=>wtT a.name) o;have I:=ao5 (f:=λa:Pa=>wtT a.name) (λa=>aW3 _) (b.take k);rw[eg0]at I;have Y:=r.inS o;have F:=r.at_ (i:=k) (x:=b[k]) (ef1 o);have aD:A3.sz Pa=2:=rfl;rw[aD]at F;obtain⟨ah,_⟩:=F.pa;have l6:=ah w5 (b7 n);generalize b[k]=pa at y l6;generalize H1 (λa:Pa=>wtT a.name) (b.take k)=S2 at g y O I h8;simp only[i5,n9,y4,simprocAttr,h6,g5,l5,L,D,h7,h8,g,Y,l6];refine E6 (W6 pa.name (B+S2) w5) ?_;simp only[i5,n9,simprocAttr,h6];exact nx2 (k+1) ⟨by rw[y,<-ep8],by omega,n⟩
def cY4{α:Type}[A3 α][p8 α]{w:World}{c:Nat}{T:TypeId}{x:α}(a:w.heap[c]?=some (.cells (p8.cells x).toArray T (0,0))):At (m8 w) ⟨c,0,none⟩ x:=
 ⟨p8.cells x,(p8.iff_ _ _ _).2 rfl,λj u b=>by
  rw[add_lit,<-al0,ej1,en2 w c j _ T (0,0) a];simpa using b⟩
def vx2(x y:Vx)(w:World):∃a b e i j g,(Instr.alloc 26 true (.tuple #[])).run prog w = .ok (.pointer (some a)) e/\(Instr.alloc 26 true (.tuple #[])).run prog e = .ok (.pointer (some b)) i /\
  (Instr.storeAt 26 (.pointer (some a)) (.agg (p8.cells x).toArray)).run prog i = .ok () j/\(Instr.storeAt 26 (.pointer (some b)) (.agg (p8.cells y).toArray)).run prog j = .ok () g/\o6 w g/\At (m8 g) a x/\At (m8 g) b y:=by
 obtain⟨z,h,d⟩:∃z,H3 prog 26=some z/\z.cells.size=N0 prog 26:=⟨_,aS3,by rw[N6];rfl⟩;have c:∀y:Vx,(p8.cells y).toArray.size=N0 prog 26:=λy=>by rw[N6];rfl
 have s:=(aA5 (P:=prog) (w:=w) (T:=26) h d (cs:=(p8.cells x).toArray) (c _) (λu f=>U5 _ u (by simpa using f))).1;have r:=o6.alloc w (.cells z.cells 26);have k:=ej0 w (.cells z.cells 26);generalize w.alloc (.cells z.cells 26)=e at s r k;have t:=(aA5 (P:=prog) (w:=e) (T:=26) h d (cs:=(p8.cells x).toArray) (c _) (λu f=>U5 _ u (by simpa using f))).1;have o:=o6.alloc e (.cells z.cells 26);have m:=ej0 e (.cells z.cells 26);generalize e.alloc (.cells z.cells 26)=i at t o m;have p:w.heap.size<e.heap.size:=(ef5.1 k).1;have l:=(o.block _ p id).trans k;obtain⟨j,D,v,A⟩:=ab4 (P:=prog) (T:=26) l h d (c x) (λu f=>U5 x u (by simpa using f));have n:=(A.block _ (ef5.1 m).1 (by omega)).trans m;obtain⟨g,E,F,B⟩:=ab4 (P:=prog) (T:=26) n h d (c y) (λu f=>U5 y u (by simpa using f));have q:=(B.block _ (ef5.1 v).1 (by omega)).trans v;exact⟨_,_,e,i,j,g,s,t,D,E,o8.ext_of (o8.ext_of (r.trans o) A λb C=>by omega) B λb C=>by omega,cY4 q,cY4 F⟩
end Go.Proofs.YtggahhenbbgffaaGreat
