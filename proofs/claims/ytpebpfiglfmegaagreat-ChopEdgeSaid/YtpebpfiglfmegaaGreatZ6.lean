/- What the functions of the program do, for every input; plain facts. No condition, no statement of its own. Part 6. -/
import Derived.Test.YtpebpfiglfmegaaGreatZ5
set_option maxRecDepth 1000000
set_option maxHeartbeats 8000000
set_option linter.unusedVariables false
set_option linter.unusedSimpArgs false
set_option linter.unnecessarySimpa false
set_option linter.defProp false
namespace Go.Proofs.YtpebpfiglfmegaaGreat
open Go Tryz
theorem bH7(n:Nat)(l:List Int):S8 n l=ae2 n l:=rfl
def cA4{n:Nat}(l:List Int){q:Nat}(a:q<n):(S8 n l).set q true=S8 n (l++[(q:Int)]):=by
 rw[bH7,aW9 l a,bH7];exact aE9 λx=>by simp[or_comm]
section
variable {w1 w:World} {g r:Nat} {ab:Addr} {vP:Value} {x:WX} {c:WC}
def aq1(s:WS w1 w g r ab vP x c)(v:Value)(l:List Int)(hv:R (i5 w) v l)(S:∀a∈l,I9 c.V.length a=true)(hn:c.V.length<=1000000000)(U:l.length<=1000000000):
  y5 prog 91 #[.pointer (some ⟨g,0,none⟩),v] w λu E=>(B0 (i5 w) E 4 u (S8 c.V.length l)/\o6 w E):=by
 refine z6 [.pointer (some ⟨g,0,none⟩),v] func91 rfl ?_;obtain⟨ib,I,o⟩:=av3 (P:=prog) V4 aE0;have V:=s.ld (i:=2) (u:=x.vV) rfl Y6;have H:=s.oV.isS;have z:=s.oV.vlen;generalize c.V.length=n at S hn z;obtain⟨X,w2,L,M,N,_,_⟩:=mk (P:=prog) (w:=w) (h:=i5 w) (α:=Bool) bl6 V4 (y:=false) rfl (n:=n) om om (n7 _);simp only[eH,simprocAttr,V,H,z,L,hv.isS,hv.vlen];refine A9 [0,1,5,14,15] (σ:=Nat) (λk f E=>f 16 = .int .i64 k/\k<=l.length/\B0 (i5 w) E 4 X (S8 n (l.take k))/\o6 w E) (λk=>l.length-k) 0 ?_ ?_
 .refine⟨rfl,ek1 _,?_,N⟩;rw[et3,bH7,bU1];exact M
 rintro k f w3 ⟨e0,Y,O,F,G,_⟩ ⟨j,T,b,e⟩;simp only[eH,simprocAttr,j,G];refine A3 (λd=>?_) ?_;rotate_left
 .rintro rfl;rw[ek4]at b;simp only[i4,simprocAttr,O];exact o8 results91 ⟨b,e⟩
 have J:=hv.inS d;have q:=aI7 hv (b7 e) d;have C:=S _ (ek0 d);have D:=ej8 d;generalize l[k]=a at q C D;obtain⟨Z,h1⟩:=B5.1 C;obtain⟨A,rfl⟩:∃A:Nat,a=(A:Int):=⟨a.toNat,om⟩;have Q:A<n:=om
 have m:A<(S8 n (l.take k)).length:=by rw[E0];exact Q
 have p:=b.inS m;obtain⟨w4,W,B,K,_⟩:=F9 (P:=prog) (t:=4) b rfl m (x:=.bool true) (y:=true) rfl rfl I o;rw[cA4 _ Q,<-D]at B;simp only[i4,n9,A0,simprocAttr,j,O,F,J,q,p,W];exact V1 (k+1) ⟨B,b.ext2 e K⟩
def ar8{w0:World}{d vs f:Value}{us:List Raw}{N:List (List (Int×Int))}{S:List Bool}{ks:List Int}(t:F1 hZ w TAs TAr d us N)(l:∀b,N9 d us b->b<w0.heap.size)(p:B0 (i5 w0) w 4 vs S)(v:o6 w0 w)
  (o:B0 hZ w 3 f ks) (r:∀b,A5 f b->¬A5 vs b) (q:OkA N.length N) (s:N.length=S.length) (hn:S.length<=1000000000) (j:∀k∈ks,1<=k/\k<=6) (i:ks.length<=1000) :
  y5 prog 92 #[d,vs,f] w λu g=>(B0 (i5 w0) g 4 vs (I7 (ad4 N ks) S)/\p6 (A5 vs) w g/\o6 w0 g):=by
 have c:∀b,A5 vs b->w0.heap.size<=b:=λb a=>C9 (p.free a);have m:B0 (D0 w (A5 vs)) w 4 vs S:=(p.down (M0 _)).up (M0 _) λb a=>G1 a;refine(cD0 (D0 w (A5 vs)) d vs f N S ks w (B4 _ _) (t.roK (M0 _) λb a=>E4 λh=>?_) m (o.flatR λb a=>E4 (r b a)) q s hn j i).mono ?_
 .have:=c b h;have:=l b a;omega
 .rintro e g ⟨u,rfl,n,hm⟩;exact⟨u,rfl,(n.down (M0 _)).up (M0 _) λb a=>aW5 (c b a),hm,p6.ext_of v hm c⟩
def bn4(s:WS w1 w g r ab vP x c)(a:Nat)(I:a<c.V.length)(C:OkA c.P.length c.P)(D:c.P.length=c.V.length)(hn:c.V.length<=1000000000):
  y5 prog 55 #[.pointer (some ⟨g,0,none⟩),.int .i64 a] w λu B=>(B0 (i5 w) B 4 u (I7 (ad4 c.P [1,2,3]) (S8 c.V.length [(a:Int)]))/\o6 w B):=by
 refine z6 [.pointer (some ⟨g,0,none⟩),.int .i64 a] func55 rfl ?_;obtain⟨G,K,p,t,e,_⟩:=lit (P:=prog) (w:=w) (h:=i5 w) (α:=Int) (xs:=[.int .i64 a]) (ys:=[(a:Int)]) (parts:=#[(0,.int .i64 a)]) (n:=1) W3 rfl (G9.2 rfl) (by simp[Value.cells]) rfl rfl dP dP (n7 _);have A:=s.more e;simp only[eH,simprocAttr,p];refine y4 (aq1 A G [(a:Int)] (t.rw_ (b7 e)) (λb k=>by simp only[ek5]at k;subst k;exact B5.2 ⟨om,om⟩) hn dP) ?_;rintro u H ⟨d,l⟩;have f:=e.trans l;have d:=d.back e;have F:=A.more l;have E:=F.ld (i:=7) (u:=x.vp) rfl aF5;obtain⟨J,L,q,v,j,o⟩:=lit (P:=prog) (w:=H) (h:=hZ) (α:=Int) (xs:=[.int .i64 1,.int .i64 2,.int .i64 3]) (ys:=[1,2,3]) (parts:=#[(0,.int .i64 1),(1,.int .i64 2),(2,.int .i64 3)]) (n:=3) W3 rfl (G9.2 rfl) (by simp[Value.cells]) rfl rfl dP dP (M0 _);simp only[eH,simprocAttr,E,q];refine y4 (ar8 ((s.rp).ext (f.trans j)) (λb k=>s.lt (i:=6) k) (d.ext j) (f.trans j) v (λb k m=>by have:=d.lt m;have:=o b k;omega) C (by rw[D,E0]) (by rw[E0];exact hn) dP dP) ?_;rintro _ M ⟨y,_,z⟩;simp only[i4,simprocAttr];exact o8 results55 ⟨y,z⟩
def bB7(s:WS w1 w g r ab vP x c)(a:Nat)(I:a<c.V.length)(C:OkA c.N.length c.N)(D:c.N.length=c.V.length)(hn:c.V.length<=1000000000):
  y5 prog 54 #[.pointer (some ⟨g,0,none⟩),.int .i64 a] w λu B=>(B0 (i5 w) B 4 u (I7 (ad4 c.N [1,2,3]) (S8 c.V.length [(a:Int)]))/\o6 w B):=by
 refine z6 [.pointer (some ⟨g,0,none⟩),.int .i64 a] func54 rfl ?_;obtain⟨G,K,p,t,e,_⟩:=lit (P:=prog) (w:=w) (h:=i5 w) (α:=Int) (xs:=[.int .i64 a]) (ys:=[(a:Int)]) (parts:=#[(0,.int .i64 a)]) (n:=1) W3 rfl (G9.2 rfl) (by simp[Value.cells]) rfl rfl dP dP (n7 _);have A:=s.more e;simp only[eH,simprocAttr,p];refine y4 (aq1 A G [(a:Int)] (t.rw_ (b7 e)) (λb k=>by simp only[ek5]at k;subst k;exact B5.2 ⟨om,om⟩) hn dP) ?_;rintro u H ⟨d,l⟩;have f:=e.trans l;have d:=d.back e;have F:=A.more l;have E:=F.ld (i:=6) (u:=x.vn) rfl aF5;obtain⟨J,L,q,v,j,o⟩:=lit (P:=prog) (w:=H) (h:=hZ) (α:=Int) (xs:=[.int .i64 1,.int .i64 2,.int .i64 3]) (ys:=[1,2,3]) (parts:=#[(0,.int .i64 1),(1,.int .i64 2),(2,.int .i64 3)]) (n:=3) W3 rfl (G9.2 rfl) (by simp[Value.cells]) rfl rfl dP dP (M0 _);simp only[eH,simprocAttr,E,q];refine y4 (ar8 ((s.rn).ext (f.trans j)) (λb k=>s.lt (i:=5) k) (d.ext j) (f.trans j) v (λb k m=>by have:=d.lt m;have:=o b k;omega) C (by rw[D,E0]) (by rw[E0];exact hn) dP dP) ?_;rintro _ M ⟨y,_,z⟩;simp only[i4,simprocAttr];exact o8 results54 ⟨y,z⟩
def cu7(s:WS w1 w g r ab vP x c)(y:Vx):
  y5 prog 49 #[.pointer (some ⟨g,0,none⟩),.agg (p8.cells y).toArray] w λu e=>(u = .tuple #[(ag1 c.kv y).getD (.int .i64 0),.bool (ag1 c.kv y).isSome]/\o6 w e):=by
 refine z6 [.pointer (some ⟨g,0,none⟩),.agg (p8.cells y).toArray] func49 rfl ?_;obtain⟨t,i,l,j,k⟩:=aL2 (w:=w) (λ_=>False) (SV.ofN (i5 w) y) λb n=>n.elim;have m:=s.more (j.trans (o6.drew i));have o:=(L8.vx_v (SV.ofN (i5 w) y) k).2 (λe=>e=i.drew) i.drew rfl λe h=>by subst h;exact B4 i _
 have p:∀K f d a,F8 prog (λe=>e=i.drew) (Instr.loadAt 88 (.pointer (some ⟨g,5,none⟩))) K f d a=K (C5 f d (.map (some r))) a:=λK f d a=>B7 (w0:=i.drew) rfl λe h=>by subst h;exact m.ld rfl bW3
 have q:∀K f d a,F8 prog (λe=>e=i.drew) (Instr.lookup 88 (.map (some r)) (.agg (p8.cells y).toArray) true) K f d a=K (C5 f d (.tuple #[(ag1 c.kv y).getD (.int .i64 0),.bool (ag1 c.kv y).isSome])) a:=λK f d a=>B7 (w0:=i.drew) rfl λe h=>by subst h;exact m.lookOk y
 simp only[eH,simprocAttr,l];refine C0 (λe=>e=i.drew) 10 (A7 [0,1,2,3,4,5,6,7,8,9]) ?_;simp only[D7,A7,i4,n9,simprocAttr,o,p,q];exact U5 results49 ⟨rfl,j.trans (o6.drew i)⟩
theorem bU6(V:List Vx)(v:Vx):∀(c:List Vx),O3 V (c++[v])=match O3 V c,atV V v with
  | some l,some a=>some (l++[(a:Int)])
  | _,_=>none
 | []=>by
  simp only[er6,O3];cases atV V v<;>rfl
 | u::c=>by
  simp only[eu8,O3,bU6 V v c];cases atV V u with
  | none=>rfl
  | some b=>
   cases O3 V c with
   | none=>rfl
   | some l=>cases atV V v<;>rfl
def aE2(s:WS w1 w g r ab vP x c)(U:c.kv=at3 c.V)(v:Value)(vs:List Vx)(hv:R (i5 w) v vs)(hl:vs.length<=1000000000):
  y5 prog 50 #[.pointer (some ⟨g,0,none⟩),v] w λu i=>((O3 c.V vs=none->u = .tuple #[.slice none 0 0,.bool false])/\(∀l,O3 c.V vs=some l->∃v',u = .tuple #[v',.bool true]/\B0 (i5 w) i 3 v' l)/\o6 w i):=by
 refine z6 [.pointer (some ⟨g,0,none⟩),v] func50 rfl ?_;simp only[eH,simprocAttr,hv.isS,hv.vlen];refine A9 [0,11,12] (σ:=Nat×Value×List Int) (λt f i=>f 13 = .int .i64 t.1/\f 6=t.2.1/\t.1<=vs.length/\O3 c.V (vs.take t.1)=some t.2.2/\t.2.2.length=t.1/\B0 (i5 w) i 3 t.2.1 t.2.2/\o6 w i) (λt=>vs.length-t.1) (0,.slice none 0 0,[]) ?_ ?_
 .exact⟨rfl,rfl,ek1 _,rfl,rfl,B0.nil _ _ _,p6.refl _⟩
 rintro⟨k,u,l⟩ f Y ⟨e0,F,O,_⟩ ⟨n,Q,T,o,V,X,B⟩;simp only at n Q T o V X;simp only[eH,simprocAttr,n,O];refine A3 (λA=>?_) ?_;rotate_left
 .rintro rfl;rw[ek4]at o;simp only[i4,simprocAttr,Q];refine U5 results50 ?_;simp only[B8,simprocAttr];refine⟨λh=>?_,λl' h=>?_,B⟩
  .rw[o]at h;cases h
  .rw[o]at h;obtain rfl:=el4 h;exact⟨u,tt,X⟩
 have I:=hv.inS A;obtain⟨sv,M,z⟩:=H1 (P:=prog) (t:=27) hv (b7 B) (ej0 A) aw3 aw6 ap5 P5;rw[P5]at z;have N:=ej8 A;have C:=ek0 A;have p:=bU6 c.V vs[k] (vs.take k);rw[<-N,o]at p;generalize vs[k]=y at M z N C p;obtain rfl:=M.N;obtain⟨a3,wz,m,G,L,D,S⟩:=aF6 (w:=Y) (λ_=>False) (SV.ofN (i5 Y) y) λb hb=>hb.elim;have s3:=s.more ((B.trans D).trans (o6.drew m));have H:=bh3 c.V y;have t1:=(L8.vx_v (SV.ofN (i5 Y) y) S).2 (λi=>i=m.drew) m.drew rfl λi h=>by subst h;exact B4 m _
 have t2:∀K f d j,F8 prog (λi=>i=m.drew) (Instr.loadAt 88 (.pointer (some ⟨g,5,none⟩))) K f d j=K (C5 f d (.map (some r))) j:=λK f d j=>B7 (w0:=m.drew) rfl λi h=>by subst h;exact s3.ld rfl bW3
 have E:∀K f d j,F8 prog (λi=>i=m.drew) (Instr.lookup 88 (.map (some r)) (.agg (p8.cells y).toArray) true) K f d j=K (C5 f d (.tuple #[(ag1 c.kv y).getD (.int .i64 0),.bool (ag1 c.kv y).isSome])) j:=λK f d j=>B7 (w0:=m.drew) rfl λi h=>by subst h;exact s3.lookOk y
 rw[U,H]at E;have q:=(B.trans D).trans (o6.drew m);cases ha:atV c.V y with
 | none=>
  rw[ha]at p E;simp only[Option.map_none,Option.getD_none,Option.isSome_none]at E;simp only[i4,n9,A0,simprocAttr,n,F,I,z,G,L];refine C0 (λi=>i=m.drew) 10 (A7 [0,1,2,3,4,5,6,7,8,9]) ?_;simp only[D7,A7,i4,n9,simprocAttr,e0,t1,t2,E];refine U5 results50 ?_;simp only[B8,simprocAttr];have W:O3 c.V vs=none:=aq5.2 ⟨y,C,λh=>by rw[<-af5,ha]at h;cases h⟩;exact⟨λ_=>tt,λl' h=>(by rw[W]at h;cases h),q⟩
 | some a=>
  rw[ha]at p E;simp only[ep0,eo5,Option.isSome_some]at E;have J:=X.ext (D.trans (o6.drew m));obtain⟨Z,u4,w4,p2,p3,p4,_⟩:=push (P:=prog) (t:=45) (e:=45) W3 rfl J (x:=.int .i64 (a:Int)) (y:=(a:Int)) rfl om om (b7 q);simp only[Value.cells]at Z p2;simp only[i4,n9,A0,simprocAttr,n,F,I,z,G,L];refine C0 (λi=>i=m.drew) 10 (A7 [0,1,2,3,4,5,6,7,8,9]) ?_;simp only[D7,A7,i4,n9,simprocAttr,e0,n,Q,t1,t2,E,Z,p2];exact nx4 (k+1,u4,l++[(a:Int)]) ⟨p,by simp only[ej2,em3];omega,p3,J.ext2 q p4⟩
def cn6(V:List Vx)(S:List Bool)(k:Nat)(b:k<S.length)(c:S.length=V.length):((((List.range (k+1)).filter λa=>S.getD a false).map λ(a:Nat)=>(a:Int)).filterMap λi=>V[i.toNat]?)=((((List.range k).filter λa=>S.getD a false).map λ(a:Nat)=>(a:Int)).filterMap λi=>V[i.toNat]?)++if S[k]=true then[V[k]]else[]:=by
 rw[bU7 S k b,List.filterMap_append]
 congr 1
 cases S[k]with
 | false=>rfl
 | true=>
  simp only[ep4,List.filterMap_cons,el5,List.filterMap_nil];rw[ej0 om]
def aK6(s:WS w1 w g r ab vP x c)(v:Value)(S:List Bool)(hv:R (i5 w) v S)(W:S.length=c.V.length)(hn:c.V.length<=1000000):
  y5 prog 51 #[.pointer (some ⟨g,0,none⟩),v] w λu F=>(B0 (i5 w) F 27 u (G6 c.V S)/\o6 w F):=by
 refine z6 [.pointer (some ⟨g,0,none⟩),v] func51 rfl ?_;have J:=hv.isS;have K:=hv.vlen;have O:=s.rV;have n:=λk V=>cn6 c.V S k V W;have j:G6 c.V S=((((List.range S.length).filter λa=>S.getD a false).map λ(a:Nat)=>(a:Int)).filterMap λi=>c.V[i.toNat]?):=rfl;have m:∀k,k<=S.length->((((List.range k).filter λa=>S.getD a false).map λ(a:Nat)=>(a:Int)).filterMap λi=>c.V[i.toNat]?).length<=k:=λk _=>by
  refine ej7 (List.length_filterMap_le _ _) ?_;rw[ek2];refine ej7 (el8 _ _) ?_;rw[en9];exact ek6 _
 have H:∃T:Nat->List Vx,(∀k,T k=((((List.range k).filter λa=>S.getD a false).map λ(a:Nat)=>(a:Int)).filterMap λi=>c.V[i.toNat]?)):=⟨_,λ_=>rfl⟩;obtain⟨L,z⟩:=H;simp only[<-z]at n j m;have I:L 0=[]:=by rw[z];rfl
 simp only[eH,simprocAttr,J,K];refine A9 [0,8,9] (σ:=Nat×Value) (λt f F=>f 10 = .int .i64 t.1/\f 5=t.2/\t.1<=S.length/\B0 (i5 w) F 27 t.2 (L t.1)/\o6 w F) (λt=>S.length-t.1) (0,.slice none 0 0) ?_ ?_
 .simp only[B8,simprocAttr];exact⟨tt,tt,ek1 _,by rw[I];exact B0.nil _ _ _,p6.refl _⟩
 rintro⟨k,u⟩ f Q ⟨e0,M,U,_⟩ ⟨h,G,C,D,b⟩;simp only at h G C D;simp only[eH,simprocAttr,h,U];refine A3 (λq=>?_) ?_;rotate_left
 .rintro rfl;simp only[i4,simprocAttr,G];exact o8 results51 ⟨by rw[j];exact D,b⟩
 have A:=hv.inS q;have p:(Instr.loadAt 4 (.pointer (some (G8 v k)))).run prog Q = .ok (.bool S[k]) Q:=O4 (P:=prog) (t:=4) hv (b7 b) (ej0 q) ai9;have d:=n k q;have o:k<c.V.length:=om
 have X:=m k C;generalize S[k]=sb at p d;rcases ej1 sb with N|N<;>subst N
 .simp only[ep4]at d;have Y:=(s.more b).ld (i:=2) (u:=x.vV) rfl Y6;have B:=O.inS o;obtain⟨sv,E,l⟩:=H1 (P:=prog) (t:=27) O (b7 b) (ej0 o) aw3 aw6 ap5 P5;rw[P5]at l;generalize c.V[k]=y at E d;obtain rfl:=E.N;obtain⟨Z,u4,w4,p2,p3,p4,_⟩:=push (P:=prog) (t:=35) (e:=35) aD0 rfl D (x:=.agg (p8.cells y).toArray) (y:=y) ((p8.iff_ _ _ _).2 rfl) om om (b7 b);simp only[i4,n9,A0,simprocAttr,h,G,e0,M,A,p,Y,B,l,Z,p2];exact nx4 (k+1,u4) ⟨by rw[d];exact p3,D.ext2 b p4⟩
 .simp only[ep8,er8,em5]at d;simp only[i4,n9,A0,simprocAttr,h,G,M,A,p];exact nx4 (k+1,u) ⟨by rw[d];exact D,b⟩
end
def ci2(a b:Int):C1 prog 218 [(0,.int .i64 a),(1,.int .i64 b)]=some (.agg #[.int .i64 a,.int .i64 b]):=by
 simp[C1,dL4,K7,Instr.fill,Value.cells]
section
variable {w1 w:World} {g r:Nat} {ab:Addr} {vP:Value} {x:WX} {c:WC}
def cJ4(s:WS w1 w g r ab vP x c)(ah:c.kv=at3 c.V)(L:List Eg)(hN:c.N=Z4 c.V L)(hP:c.P=Z6 c.V L)(h0:0<c.V.length)(hn:c.V.length<=1000000000)(hL:L.length<=1000000000)(e:Eg):
  y5 prog 89 #[.pointer (some ⟨g,0,none⟩),.agg (p8.cells e).toArray] w λ_ j=>(∃t p:Raw,WS w1 j g r ab vP {x with un:=x.un.set (D6 c.V e.src) t,up:=x.up.set (D6 c.V e.dst) p} {c with N:=Z4 c.V (L++[e]),P:=Z6 c.V (L++[e])}/\p6 (λb=>V5 g r x 5 b\/V5 g r x 6 b) w j /\
   ∀i b,V5 g r {x with un:=x.un.set (D6 c.V e.src) t,up:=x.up.set (D6 c.V e.dst) p} i b->V5 g r x i b\/w.heap.size<=b):=by
 refine z6 [.pointer (some ⟨g,0,none⟩),.agg (p8.cells e).toArray] func89 rfl ?_;obtain⟨be,k,ag,z,ae⟩:=cH1 (w:=w) (λb=>∃i,V5 g r x i b) (SV.ofN (i5 w) e) λb ⟨i,m⟩=>s.lt m;obtain⟨us,ud,T,ad,S,ac,_,Z⟩:=L8.eg (SV.ofN (i5 w) e) ae;obtain rfl:=T.N;obtain rfl:=S.N;have s2:=s.more (z.trans (o6.drew k));have hA:=Y9 h0 e.src;have hB:=Y9 h0 e.dst;have n:=aX5 (L:=L) hA;have o:=cW0 (L:=L) hB;have v:=cB0 (V:=c.V) L e;have y:=cB7 (V:=c.V) L e;have k1:=s2.look e.src;have k2:=s2.look e.dst;rw[ah,bH0]at k1 k2;rw[<-hN]at n v;rw[<-hP]at o y;have I:((L.filter λx=>decide (D6 c.V x.src=D6 c.V e.src)).map λx=>(((D6 c.V x.dst:Nat):Int),x.kind)).length<=1000000000:=by
  rw[ek2];exact ej7 (el8 _ _) hL
 have J:((L.filter λx=>decide (D6 c.V x.dst=D6 c.V e.dst)).map λx=>(((D6 c.V x.src:Nat):Int),x.kind)).length<=1000000000:=by
  rw[ek2];exact ej7 (el8 _ _) hL
 generalize((L.filter λx=>decide (D6 c.V x.src=D6 c.V e.src)).map λx=>(((D6 c.V x.dst:Nat):Int),x.kind))=rowN at n v I;generalize((L.filter λx=>decide (D6 c.V x.dst=D6 c.V e.dst)).map λx=>(((D6 c.V x.src:Nat):Int),x.kind))=rowP at o y J;rw[v,y];generalize D6 c.V e.src=A at hA n k1 ⊢;generalize D6 c.V e.dst=B at hB o k2 ⊢;have t1:=(L8.vx_v T ad).2 (λj=>j=k.drew) k.drew rfl λj h=>by subst h;exact B4 k _
 have t2:=(L8.vx_v S ac).2 (λj=>j=k.drew) k.drew rfl λj h=>by subst h;exact B4 k _
 have t3:∀K f d a,F8 prog (λj=>j=k.drew) (Instr.loadAt 88 (.pointer (some ⟨g,5,none⟩))) K f d a=K (C5 f d (.map (some r))) a:=λK f d a=>B7 (w0:=k.drew) rfl λj h=>by subst h;exact s2.ld rfl bW3
 have t4:∀K f d a,F8 prog (λj=>j=k.drew) (Instr.lookup 88 (.map (some r)) (.agg (p8.cells e.src).toArray) false) K f d a=K (C5 f d (.int .i64 (A:Int))) a:=λK f d a=>B7 (w0:=k.drew) rfl λj h=>by subst h;exact k1
 have t5:∀K f d a,F8 prog (λj=>j=k.drew) (Instr.lookup 88 (.map (some r)) (.agg (p8.cells e.dst).toArray) false) K f d a=K (C5 f d (.int .i64 (B:Int))) a:=λK f d a=>B7 (w0:=k.drew) rfl λj h=>by subst h;exact k2
 simp only[eH,simprocAttr,ag];refine C0 (λj=>j=k.drew) 15 (A7 [0,1,2,3,4,5,6,7,8,9,10,11,12,13,14]) ?_;simp only[D7,A7,i4,n9,simprocAttr,t1,t2,t3,t4,t5];obtain⟨t,aB,G,E,b1,v1,w4,l,C,ao,s5,M,aj,X,Q⟩:=(s2.more (o6.drew k.drew)).arcN (i:=A) n ((B:Int),e.kind) I (e:=216);simp only[]at b1 C;have q1:∀K f d a,F8 prog (λj=>p6 (A5 t.v) k.drew.drew j) (Instr.loadAt 89 (.pointer (some ⟨g,6,none⟩))) K f d a=K (C5 f d x.vn) a:=λK f d a=>B7 (w0:=k.drew.drew) (p6.refl _) λj h=>(E j h).1;have q2:∀K f d a,F8 prog (λj=>p6 (A5 t.v) k.drew.drew j) (Instr.loadAt 216 (.pointer (some (G8 x.vn A)))) K f d a=K (C5 f d t.v) a:=λK f d a=>B7 (w0:=k.drew.drew) (p6.refl _) λj h=>(E j h).2;have u:o6 k k.drew.drew:=(o6.drew k).trans (o6.drew k.drew);have q3:=Z (λj=>p6 (A5 t.v) k.drew.drew j) k.drew.drew (p6.refl _) λj h=>G4 (p7 (B4 k _) (b7 u)) h λb m=>G1 ⟨5,X b m⟩;refine C0 (λj=>p6 (A5 t.v) k.drew.drew j) 18 (A7 [0,1,2,3,4,5,6,7,8,9,10,11,12,13,14,15,16,17]) ?_;simp only[D7,A7,i4,n9,A0,simprocAttr,q1,q2,q3,G,ci2 (B:Int) e.kind,b1,C,G0];refine⟨p6.up (o6.alloc _ _),aj,?_⟩;obtain⟨p,aC,H,F,b2,v2,w7,w8,D,ap,s8,al,ak,Y,R⟩:=(s5.more (o6.drew l)).arcP (i:=B) o ((A:Int),e.kind) J (e:=216);simp only[]at b2 D;have r1:∀K f d a,F8 prog (λj=>p6 (A5 p.v) l.drew j) (Instr.loadAt 89 (.pointer (some ⟨g,7,none⟩))) K f d a=K (C5 f d x.vp) a:=λK f d a=>B7 (w0:=l.drew) (p6.refl _) λj h=>(F j h).1;have r2:∀K f d a,F8 prog (λj=>p6 (A5 p.v) l.drew j) (Instr.loadAt 216 (.pointer (some (G8 x.vp B)))) K f d a=K (C5 f d p.v) a:=λK f d a=>B7 (w0:=l.drew) (p6.refl _) λj h=>(F j h).2;have q:p6 (V5 g r x 5) k l:=(u.weaken λ_ _ h=>h.elim).trans M;have O:p6 (V5 g r x 5) k l.drew:=q.trans ((o6.drew l).weaken λ_ _ h=>h.elim);have af:∀b,A5 p.v b->V5 g r x 6 b:=λb m=>Y b m;have r3:=Z (λj=>p6 (A5 p.v) l.drew j) l.drew (p6.refl _) λj h=>G4 (G4 (B4 k _) O λb m=>G1 ⟨5,m⟩) h λb m=>G1 ⟨6,af b m⟩;simp only[i4,simprocAttr,ao];refine C0 (λj=>p6 (A5 p.v) l.drew j) 18 (A7 [0,1,2,3,4,5,6,7,8,9,10,11,12,13,14,15,16,17]) ?_;simp only[D7,A7,i4,n9,A0,simprocAttr,r1,r2,r3,H,ci2 (A:Int) e.kind,b2,D,G0];refine⟨p6.up (o6.alloc _ _),ak,?_⟩;simp only[i4,simprocAttr,ap];refine bk5 results89 ?_;refine⟨⟨v1⟩,⟨v2⟩,s8,?_,?_⟩
 .have h1:p6 (λb=>V5 g r x 5 b\/V5 g r x 6 b) w l:=(z.weaken λ_ _ h=>h.elim).trans (q.weaken λ_ _ h=>.inl h);have h2:p6 (λb=>V5 g r x 5 b\/V5 g r x 6 b) l w8:=((o6.drew l).weaken λ_ _ h=>h.elim).trans (al.weaken λ_ _ h=>.inr h);exact h1.trans h2
 .intro i b m;have U:w.heap.size<=k.drew.drew.heap.size:=(z.trans u).size;have W:k.drew.drew.heap.size<=l.drew.heap.size:=(M.trans ((o6.drew l).weaken λ_ _ h=>h.elim)).size;rcases R i b m with h|h
  .rcases Q i b h with h|h
   .exact .inl h
   .exact .inr (ej7 U h)
  .exact .inr (ej7 U (ej7 W h))
def bO5{p:Pg}(s:WS w1 w g r ab vP x c)(hb:At (i5 w1) ab (b9 p))(T:E6 p)(hw:C4 p<=1000000){id:Int}(h1:1<=id)(h2:id<=(d9 p).l.length):
  y5 prog 151 #[.pointer (some ⟨g,0,none⟩),.int .i64 id] w λu a=>(u = .bool ((b9 p).isCall id)/\o6 w a):=by
 refine z6 [.pointer (some ⟨g,0,none⟩),.int .i64 id] func151 rfl ?_;obtain⟨i,R,I,l,o⟩:=du3 T.may hw h1 h2;obtain⟨xx,X⟩:=K9 T.may hw i R;have e:=X.ids _ I;have z:=U4 X;generalize xx+B2 p.procs[i].body=y at X z e;have ad:=J8 T.may;obtain⟨sh,vw,_,_,_,_,has,N,_,_,_,_,V,Z⟩:=hb.book rfl;obtain⟨vl,_,_,M,_,_,_,W,_⟩:=has.sh;obtain⟨aw,S,G⟩:=aC0 (hv:=N) (k:=i) (p:=⟨F5 (d9 p) i⟩) (by show((L7 p).map λw=>(⟨w⟩:Ptr Wy))[i]?=_;rw[em8,aa1 R];rfl);simp only at G;have H:=N.inS (k:=i) (by show i<((L7 p).map λw=>(⟨w⟩:Ptr Wy)).length;unfold L7;simpa using R);obtain⟨j,rfl⟩:∃j:Nat,id=(j:Int)+1:=⟨(id-1).toNat,om⟩;have q:j<(d9 p).l.length:=om
 have O:IntKind.i64.wrap ((j:Int)+1-1)=(j:Int):=by rw[M7 _ om];omega
 have m:=M.inS (k:=j) q;have n:(d9 p).it ((j:Int)+1)=(d9 p).l[j]:=by
  unfold Sh.it;rw[show((j:Int)+1-1).toNat=j by omega,List.getD,ej0 q];rfl
 have C:(b9 p).isCall ((j:Int)+1)=(decide ((d9 p).l[j].s.kind=4)&&(F5 (d9 p) i).lives ((j:Int)+1)):=by
  have hs:(b9 p).s=d9 p:=rfl;unfold Bk.isCall;rw[hs,l,n,O9 R]
 rw[n]at l e o;have l0:=s.ld (i:=0) (u:=.pointer (some ab)) rfl aU9;have lb:=V w s.base;have ls:=W w s.base;obtain⟨sv,L,v⟩:=H1 (P:=prog) (t:=156) M s.base (ej0 q) af2 af4 ac9 L4;rw[L4]at v;generalize(d9 p).l[j]=it at L C l e o;obtain⟨d,wz,b,D,J,A,E⟩:=ax9 (L.mono s.base) (n7 _);obtain⟨F,_,aa⟩:=E.it;obtain⟨_,_,_,_,_,_,_,_,_,_,ac⟩:=F.st;have Y:=s.more (A.trans (o6.drew b));have Q:∀a,o6 b.drew a->E2 (i5 w1) (i5 a):=λa h=>p7 Y.base (b7 h);have t0:∀K f d B,F8 prog (λa=>o6 b.drew a) (Instr.loadAt 87 (.pointer (some ⟨g,0,none⟩))) K f d B=K (C5 f d (.pointer (some ab))) B:=λK f d B=>B7 (w0:=b.drew) (p6.refl _) λa h=>(Y.more h).ld rfl aU9;have t1:=ac (λa=>o6 b.drew a) b.drew (p6.refl _) λa h=>b7 ((o6.drew b).trans h);have t2:=aa (λa=>o6 b.drew a) b.drew (p6.refl _) λa h=>b7 ((o6.drew b).trans h);have t3:=Z (λa=>o6 b.drew a) b.drew (p6.refl _) Q;have t4:=bV4 (P:=prog) (t:=160) S aD2 (λa=>o6 b.drew a) b.drew (p6.refl _) Q;rw[l]at t2;rcases ej1 (decide (it.s.kind=4))with hk|hk
 .rw[hk,eq4]at C;simp only[i4,n9,A0,simprocAttr,l0,lb,ls,O,m,v,D,J];refine C0 (λa=>o6 b.drew a) 17 (A7 [0,1,2,3,4,5,6,7,8,9,10,11,12,13,14,15,16]) ?_;simp only[D7,A7,i4,n9,A0,simprocAttr,t0,t1,t2,t3,t4,hk,H];refine B6 (bn8 aw (F5 (d9 p) i) p i xx y ((j:Int)+1) b.drew (G.mono Y.base) z.toWyOk (by rw[o]at e;exact e) z.live) (λw6 U=>?_);simp only[i4,simprocAttr];refine o8 results151 ?_;simp only[B8,simprocAttr];exact⟨by rw[C],(A.trans (o6.drew b)).trans U⟩
 .rw[hk,Bool.false_and]at C;simp only[i4,n9,A0,simprocAttr,l0,lb,ls,O,m,v,D,J];refine C0 (λa=>o6 b.drew a) 17 (A7 [0,1,2,3,4,5,6,7,8,9,10,11,12,13,14,15,16]) ?_;simp only[D7,A7,i4,n9,simprocAttr,t1,hk];refine o8 results151 ?_;simp only[B8,simprocAttr];exact⟨by rw[C],A.trans (o6.drew b)⟩
end
section
variable {w1 w:World} {g r:Nat} {ab:Addr} {vP:Value} {x:WX} {c:WC}
def WS.pushE(s:WS w1 w g r ab vP x c)(y:Eg)(F:c.E.length<=999999999999){e:TypeId}:
  (Instr.buildSlice 49 1 #[(0,.agg (p8.cells y).toArray)]).run prog w = .ok (.slice (some ⟨w.heap.size,0,none⟩) 1 1) (w.alloc (.cells (p8.cells y).toArray 54)) /\
  (∀d,p6 (A5 x.vE) w d->(Instr.loadAt 49 (.pointer (some ⟨g,3,none⟩))).run prog d = .ok x.vE d) /\
  ∃f d a,(Builtin.append_ #[49,49] e #[x.vE,.slice (some ⟨w.heap.size,0,none⟩) 1 1]).run prog (w.alloc (.cells (p8.cells y).toArray 54)) = .ok f d/\(Instr.storeAt 49 (.pointer (some ⟨g,3,none⟩)) f).run prog d = .ok () a /\
   WS w1 a g r ab vP {x with vE:=f} {c with E:=c.E++[y]}/\p6 (A5 x.vE) w d/\p6 (λb=>V5 g r x 0 b\/V5 g r x 3 b) w a/\∀j b,V5 g r {x with vE:=f} j b->V5 g r x j b\/w.heap.size<=b:=by
 obtain⟨u,k,n⟩:=cm2;obtain⟨v,f,d,z,A,o,q⟩:=push (P:=prog) (t:=49) (e:=e) cs4 rfl s.oE (x:=.agg (p8.cells y).toArray) (y:=y) ((p8.iff_ _ _ _).2 rfl) om om (M0 _);have m:=λ(p:World) (l:p6 (A5 x.vE) w p)=>(l.block g (s.lt (i:=0) rfl) (s.off (i:=0) (j:=3) dQ rfl)).trans s.cb;obtain⟨a,B,C,D⟩:=s.putE o A q k n;refine⟨v,λp l=>F4 (m p l) rfl bm3,f,d,a,z,B,C,o,(o.weaken λ_ _ h=>.inr h).trans (D.weaken λ_ _ h=>.inl h),λj b h=>?_⟩
 match j,h with
 | 0,h=>exact .inl h
 | 1,h=>exact .inl h
 | 2,h=>exact .inl h
 | 3,h=>exact q b h
 | 4,h=>exact .inl h
 | 5,h=>exact .inl h
 | 6,h=>exact .inl h
 | _+7,h=>exact h.elim
def WS.pushS(s:WS w1 w g r ab vP x c)(y:Eg)(E:c.S.length<=999999999999){e:TypeId}:
  (Instr.buildSlice 49 1 #[(0,.agg (p8.cells y).toArray)]).run prog w = .ok (.slice (some ⟨w.heap.size,0,none⟩) 1 1) (w.alloc (.cells (p8.cells y).toArray 54)) /\
  (∀d,p6 (A5 x.vS) w d->(Instr.loadAt 49 (.pointer (some ⟨g,4,none⟩))).run prog d = .ok x.vS d) /\
  ∃f d a,(Builtin.append_ #[49,49] e #[x.vS,.slice (some ⟨w.heap.size,0,none⟩) 1 1]).run prog (w.alloc (.cells (p8.cells y).toArray 54)) = .ok f d/\(Instr.storeAt 49 (.pointer (some ⟨g,4,none⟩)) f).run prog d = .ok () a /\
   WS w1 a g r ab vP {x with vS:=f} {c with S:=c.S++[y]}/\p6 (A5 x.vS) w d/\p6 (λb=>V5 g r x 0 b\/V5 g r x 4 b) w a/\∀j b,V5 g r {x with vS:=f} j b->V5 g r x j b\/w.heap.size<=b:=by
 obtain⟨u,k,n⟩:=cm2;obtain⟨v,f,d,z,A,o,q⟩:=push (P:=prog) (t:=49) (e:=e) cs4 rfl s.oS (x:=.agg (p8.cells y).toArray) (y:=y) ((p8.iff_ _ _ _).2 rfl) om om (M0 _);have m:=λ(p:World) (l:p6 (A5 x.vS) w p)=>(l.block g (s.lt (i:=0) rfl) (s.off (i:=0) (j:=4) dQ rfl)).trans s.cb;obtain⟨a,B,C,D⟩:=s.putS o A q k n;refine⟨v,λp l=>F4 (m p l) rfl bm3,f,d,a,z,B,C,o,(o.weaken λ_ _ h=>.inr h).trans (D.weaken λ_ _ h=>.inl h),λj b h=>?_⟩
 match j,h with
 | 0,h=>exact .inl h
 | 1,h=>exact .inl h
 | 2,h=>exact .inl h
 | 3,h=>exact .inl h
 | 4,h=>exact q b h
 | 5,h=>exact .inl h
 | 6,h=>exact .inl h
 | _+7,h=>exact h.elim
def bP9(q:B3)(k:Int):C1 prog 27 [(0,t8 q),(1,.int .i64 k)]=some (.agg (p8.cells (⟨q,k,0,e0⟩:Vx)).toArray):=by
 have h:p8.cells (⟨q,k,0,e0⟩:Vx)=[t8 q,.int .i64 k,.int .i64 0,t8 e0]:=rfl;rw[h];simp[C1,bW4,K7,Instr.fill,Value.cells,t8,e0];rfl
def bo6(q:B3)(k:Int)(n:B3):C1 prog 27 [(0,t8 q),(1,.int .i64 k),(3,t8 n)]=some (.agg (p8.cells (⟨q,k,0,n⟩:Vx)).toArray):=by
 have h:p8.cells (⟨q,k,0,n⟩:Vx)=[t8 q,.int .i64 k,.int .i64 0,t8 n]:=rfl;rw[h];simp[C1,bW4,K7,Instr.fill,Value.cells,t8]
def cf5(g r:Nat)(x:WX)(b:Nat):Prop:=∃i,V5 g r x i b
def cY5{p:Pg}(s:WS w1 w g r ab vP x c)(hb:At (i5 w1) ab (b9 p))(hr:E6 p)(hw:C4 p<=1000000)(aD:∀v∈c.V,v.id=0\/(1<=v.id/\v.id<=(d9 p).l.length))(hn:c.V.length<=1000000)(hE:c.E.length<=1000000000):
  y5 prog 88 #[.pointer (some ⟨g,0,none⟩)] w λ_ a=>(∃Y,WS w1 a g r ab vP {x with vE:=Y} {c with E:=c.E++c.V.flatMap (b9 p).joinOf}):=by
 refine z6 [.pointer (some ⟨g,0,none⟩)] func88 rfl ?_;obtain⟨sh,_,_,_,_,_,has,_,_,_,_,_,a7,aS⟩:=hb.book rfl;obtain⟨vl,_,_,al,_,_,_,a8,aT⟩:=has.sh;have lV:=s.ld (i:=2) (u:=x.vV) rfl Y6;have aB:=s.oV.isS;have aG:=s.oV.vlen;have aW:=J8 hr.may;simp only[eH,simprocAttr,lV,aB,aG];refine A9 [0,8,9] (σ:=Nat×Value) (λt f a=>f 10 = .int .i64 t.1/\t.1<=c.V.length/\WS w1 a g r ab vP {x with vE:=t.2} {c with E:=c.E++(c.V.take t.1).flatMap (b9 p).joinOf}) (λt=>c.V.length-t.1) (0,x.vE) ?_ ?_
 .simp only[B8,simprocAttr];exact⟨tt,ek1 _,by simpa using s⟩
 rintro⟨k,n⟩ f w2 ⟨Z,k8,k9,_⟩ ⟨o,aF,X⟩;simp only at o aF X;simp only[eH,simprocAttr,o,k9];refine A3 (λF=>?_) ?_;rotate_left
 .rintro rfl;rw[ek4]at X;simp only[i4,simprocAttr];refine bk5 results88 ?_;exact⟨n,X⟩
 have hV:=X.rV;simp only at hV;have T:=hV.inS F;obtain⟨sv,ah,D⟩:=H1 (P:=prog) (t:=27) hV (n7 _) (ej0 F) aw3 aw6 ap5 P5;rw[P5]at D;have aj:=J9 (b9 p).joinOf c.V F;have J:=aD _ (ek0 F);generalize c.V[k]=y at ah aj J;obtain rfl:=ah.N;obtain⟨a3,wz,w3,O,W,aJ,ad⟩:=aF6 (w:=w2) (cf5 g r {x with vE:=n}) (SV.ofN (i5 w2) y) λb ⟨i,hb⟩=>X.lt hb;obtain⟨ap,au⟩:=L8.vx (SV.ofN (i5 w2) y) ad;obtain⟨a9,aU⟩:=L8.vx_v (SV.ofN (i5 w2) y) ad;have s3:=X.more aJ;have ly:=ap w3 (B4 _ _);generalize an:c.E++(c.V.take k).flatMap (b9 p).joinOf=xs at X s3;have a4:xs.length<=1001000000:=by
  have h1:=P9 (b9 p).joinOf 1 (c.V.take k) λz _=>cm8 z;rw[ek3]at h1;rw[<-an,ej2];have H:min k c.V.length<=1000000:=om
  omega
 have B:c.E++(c.V.take (k+1)).flatMap (b9 p).joinOf=xs++(b9 p).joinOf y:=by rw[aj,<-an,el9]
 have V:(b9 p).joinOf y=[]->∀a,WS w1 a g r ab vP {x with vE:=n} {c with E:=xs}->WS w1 a g r ab vP {x with vE:=n} {c with E:=c.E++(c.V.take (k+1)).flatMap (b9 p).joinOf}:=λh a s=>by rw[B,h,em5];exact s
 rcases ej1 (decide (y.id=0))with h0|h0
 .have hj:(b9 p).joinOf y=[]:=by unfold Bk.joinOf;rw[if_pos (.inl (ej3 h0))]
  simp only[i4,n9,A0,simprocAttr,o,k8,T,D,O,W,ly,h0];exact V1 (k+1,n) (V hj _ s3)
 have ac:=ej6 h0;obtain⟨aK,aL⟩:=J.resolve_left ac;obtain⟨j,aE⟩:∃j:Nat,y.id=(j:Int)+1:=⟨(y.id-1).toNat,om⟩;have U:j<(d9 p).l.length:=om
 have aI:IntKind.i64.wrap (y.id-1)=(j:Int):=by rw[M7 _ om];omega
 have af:=al.inS (k:=j) U;have C:=al.at_ (i:=j) (x:=(d9 p).l[j]) (ej0 U);have ao:A6.sz It=17:=rfl;rw[ao]at C;have ag:(b9 p).s.it y.id=(d9 p).l[j]:=by
  have hs:(b9 p).s=d9 p:=rfl;rw[hs,aE];unfold Sh.it;rw[show((j:Int)+1-1).toNat=j by omega,List.getD,ej0 U];rfl
 have q:(b9 p).joinOf y=if y.id=0\/(b9 p).isCall y.id=false then[]else if y.kind=2 then[⟨y,⟨(d9 p).l[j].s.proc,1,0,e0⟩,4⟩]else if y.kind=5 then[⟨y,⟨(d9 p).l[j].s.proc,3,0,y.slot⟩,5⟩]else if y.kind=6 then[⟨⟨(d9 p).l[j].s.proc,4,0,y.slot⟩,y,6⟩]else[]:=by
  unfold Bk.joinOf;rw[ag]
 generalize(d9 p).l[j]=it at C q;obtain⟨ae,_,_⟩:=C.it;obtain⟨_,_,_,_,_,_,_,_,_,aN,_⟩:=ae.st;have A:=λa (s':WS w1 a g r ab vP {x with vE:=n} {c with E:=xs})=>bO5 s' hb hr hw aK aL;generalize(b9 p).isCall y.id=ic at q A;rcases ej1 ic with h1|h1<;>subst h1;rotate_left
 .rw[if_pos (.inr rfl)]at q;simp only[i4,n9,A0,simprocAttr,o,Z,k8,T,D,O,W,ly,h0];refine B6 (A w3 s3) (λl G=>?_);simp only[eH,simprocAttr,o];exact V1 (k+1,n) (V q _ (s3.more G))
 rw[if_neg (by simpa using ac)]at q;simp only[i4,n9,A0,simprocAttr,o,Z,k8,T,D,O,W,ly,h0];refine B6 (A w3 s3) (λl G=>?_);have s4:=(s3.more G).more (o6.drew l);have am:=G.trans (o6.drew l);have Q:E2 (i5 w1) (i5 l.drew):=s4.base;have R:E2 (D0 w3 (cf5 g r {x with vE:=n})) (i5 l.drew):=p7 (B4 _ _) (b7 am);have t0:∀K f d m,F8 prog (λa=>a=l.drew) (Instr.loadAt 87 (.pointer (some ⟨g,0,none⟩))) K f d m=K (C5 f d (.pointer (some ab))) m:=λK f d m=>B7 (w0:=l.drew) rfl λa h=>by subst h;exact s4.ld rfl aU9
 have t1:=aS (λa=>a=l.drew) l.drew rfl λa h=>by subst h;exact Q
 have t2:=aT (λa=>a=l.drew) l.drew rfl λa h=>by subst h;exact Q
 have t3:=au (λa=>a=l.drew) l.drew rfl λa h=>by subst h;exact R
 have aO:=aN l.drew Q;have aQ:=ap l.drew R;simp only[eH,simprocAttr];refine C0 (λa=>a=l.drew) 13 (A7 [0,1,2,3,4,5,6,7,8,9,10,11,12]) ?_;simp only[D7,A7,i4,n9,A0,simprocAttr,Z,t0,t1,t2,t3,aI,af,aO,aQ];have hm:∀a,p6 (A5 n) l.drew.drew a->E2 (D0 w3 (cf5 g r {x with vE:=n})) (i5 a):=λa h=>G4 (p7 R (b7 (o6.drew l.drew))) h λb hb=>G1 ⟨3,hb⟩;have s5:=s4.more (o6.drew l.drew);have u1:=aU (λa=>p6 (A5 n) l.drew.drew a) l.drew.drew (p6.refl _) hm;have u2:=au (λa=>p6 (A5 n) l.drew.drew a) l.drew.drew (p6.refl _) hm;have aH:=bP9 it.s.proc 1;have ak:=bo6 it.s.proc;have S:=bD2;rcases ej1 (decide (y.kind=2))with H|H
 .rw[if_pos (ej3 H)]at q;obtain⟨p1,I,Y,w6,w7,L,p3,N,M,_⟩:=s5.pushE ⟨y,⟨it.s.proc,1,0,e0⟩,4⟩ so (e:=49);simp only at L I M N;have u0:∀K f d m,F8 prog (λa=>p6 (A5 n) l.drew.drew a) (Instr.loadAt 49 (.pointer (some ⟨g,3,none⟩))) K f d m=K (C5 f d n) m:=λK f d m=>B7 (w0:=l.drew.drew) (p6.refl _) I;simp only[i4,simprocAttr,H];refine C0 (λa=>p6 (A5 n) l.drew.drew a) 11 (A7 [0,1,2,3,4,5,6,7,8,9,10]) ?_;simp only[D7,A7,i4,n9,simprocAttr,Z,u0,u1,aH,S,p1,L,G0];refine⟨p6.up (o6.alloc _ _),M,?_⟩;simp only[eH,simprocAttr,p3,o];exact V1 (k+1,Y) (by simp only[];rw[B,q];exact N)
 rw[if_neg (ej6 H)]at q;rcases ej1 (decide (y.kind=5))with h5|h5
 .rw[if_pos (ej3 h5)]at q;obtain⟨p1,I,Y,w6,w7,L,p3,N,M,_⟩:=s5.pushE ⟨y,⟨it.s.proc,3,0,y.slot⟩,5⟩ so (e:=49);simp only at L I M N;have u0:∀K f d m,F8 prog (λa=>p6 (A5 n) l.drew.drew a) (Instr.loadAt 49 (.pointer (some ⟨g,3,none⟩))) K f d m=K (C5 f d n) m:=λK f d m=>B7 (w0:=l.drew.drew) (p6.refl _) I;simp only[eH,simprocAttr,H,h5];refine C0 (λa=>p6 (A5 n) l.drew.drew a) 13 (A7 [0,1,2,3,4,5,6,7,8,9,10,11,12]) ?_;simp only[D7,A7,i4,n9,simprocAttr,Z,u0,u1,u2,ak,S,p1,L,G0];refine⟨p6.up (o6.alloc _ _),M,?_⟩;simp only[eH,simprocAttr,p3,o];exact V1 (k+1,Y) (by simp only[];rw[B,q];exact N)
 rw[if_neg (ej6 h5)]at q;rcases ej1 (decide (y.kind=6))with h6|h6
 .rw[if_pos (ej3 h6)]at q;obtain⟨p1,I,Y,w6,w7,L,p3,N,M,_⟩:=s5.pushE ⟨⟨it.s.proc,4,0,y.slot⟩,y,6⟩ so (e:=49);simp only at L I M N;have u0:∀K f d m,F8 prog (λa=>p6 (A5 n) l.drew.drew a) (Instr.loadAt 49 (.pointer (some ⟨g,3,none⟩))) K f d m=K (C5 f d n) m:=λK f d m=>B7 (w0:=l.drew.drew) (p6.refl _) I;simp only[eH,simprocAttr,H,h5,h6];refine C0 (λa=>p6 (A5 n) l.drew.drew a) 13 (A7 [0,1,2,3,4,5,6,7,9,8,10,11,12]) ?_;simp only[D7,A7,i4,n9,simprocAttr,Z,u0,u1,u2,ak,S,p1,L,G0];refine⟨p6.up (o6.alloc _ _),M,?_⟩;simp only[eH,simprocAttr,p3,o];exact V1 (k+1,Y) (by simp only[];rw[B,q];exact N)
 rw[if_neg (ej6 h6)]at q;simp only[eH,simprocAttr,H,h5,h6,o];exact V1 (k+1,n) (V q _ s4)
end
def cq2(a:Addr)(p:Pg)(w:World)(ha:At (i5 w) a (b9 p))(hr:E6 p)(hw:C4 p<=1000000):
  y5 prog 84 #[.pointer (some a)] w λu j=>(B0 (i5 w) j 9 u (b9 p).reached/\o6 w j):=by
 refine z6 [.pointer (some a)] func84 rfl ?_;have K:=hr.toKnown;have bt:=cd5 hr.may;obtain⟨sh,vw,_,_,_,_,has,aM,_,_,_,_,a9,aS⟩:=ha.book rfl;have hF:(b9 p).reached=Y5 (R8 (b9 p).calledBy 1000 0 [J0]):=rfl;have aA:=λm hm=>aL4 K (n:=m) hm;have hG:∀m,(b9 p).calledBy m=(((d9 p).of ((d9 p).pr m)).filter λit=>decide (it.s.kind=4)&&((b9 p).way ((d9 p).pr m)).lives it.s.id).map (·.s.proc):=λm=>rfl;have ak:=bc9 K;generalize(b9 p).calledBy=gg at hF aA hG;have aH:(p.procs.map (·.name)).length=p.procs.length:=ek2 _;obtain⟨u1,wl,aF,a4,a6,_⟩:=lit (P:=prog) (w:=w) (h:=i5 w) (α:=B3) (xs:=[t8 J0]) (ys:=[J0]) (parts:=#[(0,t8 J0)]) (n:=1) aC9 rfl (aI0.2 rfl) (by simp[t8,Value.cells]) rfl rfl dP dP (n7 _);have a5:Value.string {data:=#[109,97,105,110]}=t8 J0:=rfl;simp only[eH,simprocAttr,a5,aF];refine A9 [0] (σ:=Nat×Value×List B3) (λs f j=>f 4 = .int .i64 s.1/\f 3=s.2.1/\s.1<=s.2.2.length/\B0 (i5 w) j 9 s.2.1 s.2.2/\s.2.2.Nodup/\(∀x∈s.2.2,x∈p.procs.map (·.name))/\R8 gg 1000 0 [J0]=R8 gg (1000-s.1) s.1 s.2.2/\o6 w j) (λs=>1000-s.1) (0,u1,[J0]) ?_ ?_
 .exact⟨rfl,rfl,ek1 _,a4,dP,by simpa using ak,dP,a6⟩
 rintro⟨i,u,F⟩ f w2 ⟨aj,_⟩ ⟨h4,h3,a0,ho,am,I,B,aO⟩;simp only at h4 h3 a0 ho am I B;have bs:F.length<=p.procs.length:=by rw[<-aH];exact I5 am I
 simp only[eH,simprocAttr,h4,h3,ho.isS,ho.vlen];refine A3 (λY=>?_) ?_;rotate_left
 .rintro rfl;rw[bD7 gg _ _ _ (ek6 _)]at B;simp only[i4,simprocAttr,h3];refine y4 (aq8 ho om) ?_;rintro _ w4 ⟨ao,a2⟩;simp only[i4,simprocAttr,h3];exact o8 results84 ⟨by rw[hF,B];exact ao,ho.ext2 aO a2⟩
 have W:=ho.inS Y;have al:=I _ (ek0 Y);have L:=aO.trans (o6.drew w2);have aJ:=ho.ext (o6.drew w2);have N:=ldS (aJ.rw_ (b7 L)) (n7 _) Y;rw[show 1000-i=(999-i)+1 by omega,bQ9 gg _ _ _ Y]at B;generalize F[i]=m at N al B;obtain⟨c,V,aK,br⟩:=U8 al;obtain⟨xx,pt⟩:=K9 hr.may hw c V;have Q:=pt.ids;have aq:=U4 pt;generalize xx+B2 p.procs[c].body=y at pt aq Q;have bh:=J8 hr.may;obtain⟨aw,aZ,az⟩:=aC0 (hv:=aM) (k:=c) (p:=⟨F5 (d9 p) c⟩) (by show((L7 p).map λw=>(⟨w⟩:Ptr Wy))[c]?=_;rw[em8,aa1 V];rfl);simp only at az;have aD:=aM.inS (k:=c) (by show c<((L7 p).map λw=>(⟨w⟩:Ptr Wy)).length;unfold L7;simpa using V);have U:=hG m;rw[aK,O9 V]at U;have ad:=aA m al;have t1:∀K f d ar,F8 prog (λj=>j=w2.drew) (Instr.loadAt 9 (.pointer (some (G8 u i)))) K f d ar=K (C5 f d (t8 m)) ar:=λK f d ar=>B7 (w0:=w2.drew) rfl λj h=>by subst h;exact N
 have t2:=aS (λj=>j=w2.drew) w2.drew rfl λj h=>by subst h;exact b7 L
 simp only[i4,simprocAttr];refine C0 (λj=>j=w2.drew) 8 (A7 [0,1,2,3,4,5,6,7]) ?_;simp only[D7,A7,i4,n9,A0,simprocAttr,aj,h3,h4,W,t1,t2];refine B6 (aC5 sh (d9 p) m w2.drew (has.mono (b7 L)) (by rw[N7];omega)) (λw3 aP=>?_);have T:=L.trans aP;have a8:=a9 w3 (b7 T);rw[aK];simp only[eH,simprocAttr,aj,a8];refine y4 (aJ6 (i5 w) sh (d9 p) c xx y w3 has (b7 T) pt.ok) ?_;rintro ui w4 ⟨S,aQ⟩;have aN:=T.trans aQ;have ao:=aJ.ext (aP.trans aQ);have aE:((d9 p).of (c:Int)).length<=1000000:=by
  rw[pt.ok.of_,eo9,ek3];omega
 generalize(d9 p).of (c:Int)=l at S U Q aE;have aX:=S.isS;have a3:=S.vlen;generalize gg m=G at U B ad;subst U;simp only[eH,simprocAttr,aX,a3];refine A9 [0,4,5,29,30] (σ:=Nat×Value×List B3) (λs f j=>f 31 = .int .i64 s.1/\f 3=s.2.1/\s.1<=l.length/\B0 (i5 w) j 9 s.2.1 s.2.2/\s.2.2.Nodup/\(∀x∈s.2.2,x∈p.procs.map (·.name))/\F.length<=s.2.2.length/\W2 F ((l.filter λit=>decide (it.s.kind=4)&&(F5 (d9 p) c).lives it.s.id).map (·.s.proc))=W2 s.2.2 (((l.drop s.1).filter λit=>decide (it.s.kind=4)&&(F5 (d9 p) c).lives it.s.id).map (·.s.proc))/\o6 w j) (λs=>l.length-s.1) (0,u,F) ?_ ?_
 .simp only[B8,simprocAttr];exact⟨tt,tt,ek1 _,ao,am,I,ek6 _,by rw[es1],aN⟩
 rintro⟨k,u5,o⟩ f5 w5 ⟨g0,g4,g5,au,aW,_⟩ ⟨A,D,a1,ap,r,g,X,q,aa⟩;simp only at A D a1 ap r g X q;rw[aj]at g0;have bl:o.length<=p.procs.length:=by rw[<-aH];exact I5 r g
 simp only[eH,simprocAttr,A,aW];refine A3 (λH=>?_) ?_;rotate_left
 .rintro rfl;rw[et1,List.filter_nil,List.map_nil,W2]at q;rw[q]at B;rw[h4]at g4;simp only[eH,simprocAttr,g4];refine nx2 (i+1,u5,o) ⟨D,so,ap,r,g,?_,aa⟩;simp only[];rw[B]
  congr 1
  omega
 have W:=S.inS H;obtain⟨sv,aL,N⟩:=H1 (P:=prog) (t:=156) S (b7 aa) (ej0 H) af2 af4 ac9 L4;rw[L4]at N;have ae:=ek0 H;have aC:=Q _ ae;rw[eo1 H]at q;have M:(decide (l[k].s.kind=4)&&(F5 (d9 p) c).lives l[k].s.id)=true->l[k].s.proc∈p.procs.map (·.name):=λh=>ad _ (el2.2 ⟨_,el6.2 ⟨ae,h⟩,rfl⟩);generalize l[k]=it at aL q aC M;obtain⟨d,bH,O,ac,af,a7,ax⟩:=ax9 (aL.mono (b7 aa)) (n7 _);obtain⟨ay,_,_⟩:=ax.it;obtain⟨_,_,_,_,_,_,_,_,_,ba,bd⟩:=ay.st;have ag:=a7.trans (o6.drew O);have J:=aa.trans ag;have aI:=ap.ext ag;have aB:∀j,o6 O.drew j->E2 (i5 w) (i5 j):=λj h=>b7 (J.trans h);have r1:=bd (λj=>o6 O.drew j) O.drew (p6.refl _) λj h=>b7 ((o6.drew O).trans h);have r2:=aS (λj=>o6 O.drew j) O.drew (p6.refl _) aB;have r3:=bV4 (P:=prog) (t:=160) aZ aD2 (λj=>o6 O.drew j) O.drew (p6.refl _) aB;have v:(decide (it.s.kind=4)&&(F5 (d9 p) c).lives it.s.id)=false->W2 F ((l.filter λit=>decide (it.s.kind=4)&&(F5 (d9 p) c).lives it.s.id).map (·.s.proc))=W2 o (((l.drop (k+1)).filter λit=>decide (it.s.kind=4)&&(F5 (d9 p) c).lives it.s.id).map (·.s.proc)):=λh=>by
  rw[q,List.filter_cons,h];rfl
 have E:(decide (it.s.kind=4)&&(F5 (d9 p) c).lives it.s.id)=true->W2 F ((l.filter λit=>decide (it.s.kind=4)&&(F5 (d9 p) c).lives it.s.id).map (·.s.proc))=W2 (if o.contains it.s.proc then o else o++[it.s.proc]) (((l.drop (k+1)).filter λit=>decide (it.s.kind=4)&&(F5 (d9 p) c).lives it.s.id).map (·.s.proc)):=λh=>by
  rw[q,List.filter_cons,h];rfl
 clear q;rcases ej1 (decide (it.s.kind=4))with hq|hq;rotate_left
 .rw[hq,Bool.false_and]at v;simp only[i4,n9,A0,simprocAttr,A,au,W,N,ac,af];refine C0 (λj=>o6 O.drew j) 22 (A7 [0,1,2,3,4,5,6,7,8,9,10,11,12,13,14,15,16,17,18,19,20,21]) ?_;simp only[D7,A7,i4,n9,simprocAttr,r1,hq,A];exact nx2 (k+1,u5,o) ⟨D,so,aI,r,g,X,v rfl,J⟩
 rw[hq,eq4]at v E M;simp only[i4,n9,A0,simprocAttr,A,au,W,N,ac,af];refine C0 (λj=>o6 O.drew j) 22 (A7 [0,1,2,3,4,5,6,7,8,9,10,11,12,13,14,15,16,17,18,19,20,21]) ?_;simp only[D7,A7,i4,n9,A0,simprocAttr,g0,g5,r1,r2,r3,hq,aD];refine B6 (bn8 aw (F5 (d9 p) c) p c xx y it.s.id O.drew (az.mono (b7 J)) aq.toWyOk aC aq.live) (λw7 ab=>⟨ab,?_⟩);have C:=J.trans ab;have R:=aI.ext ab;generalize(F5 (d9 p) c).lives it.s.id=lv at v E M;rcases ej1 lv with aG|aG<;>subst aG;rotate_left
 .simp only[fd,simprocAttr,A];exact nx2 (k+1,u5,o) ⟨D,so,R,r,g,X,v rfl,C⟩
 have bb:=ba w7 (b7 ((o6.drew O).trans ab));have Z:=E rfl;have M:=M rfl;simp only[fd,simprocAttr,D,r1];refine F6 (S7 u5 o it.s.proc w7 (R.rw_ (b7 C)) om) ?_;rcases ej1 (o.contains it.s.proc)with hq2|hq2
 .rw[if_pos hq2]at Z;simp only[eH,simprocAttr,hq2,A];exact nx2 (k+1,u5,o) ⟨D,so,R,r,g,X,Z,C⟩
 rw[if_neg (by rw[hq2];simp)]at Z;obtain⟨p1,u8,w8,p2,p3,p4,p5⟩:=push (P:=prog) (t:=22) (e:=22) aC9 rfl R (x:=t8 it.s.proc) (y:=it.s.proc) rfl om om (b7 C);simp only[eH,simprocAttr,hq2,A,D,bb,p1,p2];refine nx4 (k+1,u8,o++[it.s.proc]) ⟨p3,?_,λz hz=>?_,by simp only[ej2];omega,Z,R.ext2 C p4⟩
 .simp only[];rw[eo0];refine⟨r,dP,λa ha b hb=>?_⟩;simp only[ek5]at hb;subst hb;rintro rfl;rw[ek7.2 ha]at hq2;cases hq2
 .rcases ej9.1 hz with h|h
  .exact g z h
  .simp only[ek5]at h;subst h;exact M
section
variable {w1 w:World} {g r:Nat} {ab:Addr} {vP:Value} {x:WX} {c:WC}
def dh1:∃a,prog.info? 89=some a/\a.size=1:=av3 dX9 dX5
def WS.putN(s:WS w1 w g r ab vP x c){f:Value}{n:Nat}(A:B0 hZ w TAs f (List.replicate n D9))(a:∀b,A5 f b->w1.heap.size<=b/\∀i,¬V5 g r x i b):
  ∃p,(Instr.storeAt 89 (.pointer (some ⟨g,6,none⟩)) f).run prog w = .ok () p/\WS w1 p g r ab vP {x with vn:=f,un:=List.replicate n D9} {c with N:=List.replicate n []}/\p6 (λb=>b=g) w p:=by
 obtain⟨G,t,y⟩:=dh1;obtain⟨p,D,E,l⟩:=cu0 (k:=6) s.cb (by decide +kernel:6<8) A.isS t y;have F:=p6.ext_of s.ext l λb d=>by subst d;exact s.new 0 _ rfl
 have z:∀j b,V5 g r {x with vn:=f,un:=List.replicate n D9} j b->(j≠5/\V5 g r x j b)\/(j=5/\A5 f b):=λj b h=>by
  match j,h with
  | 0,h=>exact .inl ⟨dQ,h⟩
  | 1,h=>exact .inl ⟨dQ,h⟩
  | 2,h=>exact .inl ⟨dQ,h⟩
  | 3,h=>exact .inl ⟨dQ,h⟩
  | 4,h=>exact .inl ⟨dQ,h⟩
  | 5,h=>first|exact .inl ⟨dQ,h⟩|exact .inr ⟨rfl,ai8 h⟩
  | 6,h=>first|exact .inl ⟨dQ,h⟩|exact .inr ⟨rfl,ai8 h⟩
  | _+7,h=>exact h.elim
 have q:∀{i b:Nat},i≠0->V5 g r x i b->¬b=g:=λC h=>s.off (j:=0) C h;have m:F1 hZ p TAs TAr f (List.replicate n D9) (List.replicate n ([]:List (Int×Int))):=am3 (A.mod l λb d v=>(a b d).2 0 v);have o:∀j b,V5 g r {x with vn:=f,un:=List.replicate n D9} j b->w1.heap.size<=b:=λj b h=>by
  rcases z j b h with⟨_,h⟩|⟨_,h⟩
  .exact s.new j b h
  .exact(a b h).1
 have u:∀i j b,V5 g r {x with vn:=f,un:=List.replicate n D9} i b->V5 g r {x with vn:=f,un:=List.replicate n D9} j b->i=j:=λi j b h k=>by
  rcases z i b h with⟨_,h⟩|⟨e,h⟩<;>rcases z j b k with⟨_,k⟩|⟨B,k⟩
  .exact s.apart i j b h k
  .exact absurd h ((a b k).2 i)
  .exact absurd k ((a b h).2 j)
  .rw[e,B]
 have oV:=s.oV.mod l λb d=>q (i:=2) dQ d;have oE:=s.oE.mod l λb d=>q (i:=3) dQ d;have oS:=s.oS.mod l λb d=>q (i:=4) dQ d;have rp:=s.rp.mod l λb d=>q (i:=6) dQ d;exact⟨p,D,{ext:=F,cb:=E,map:=(s.map.mod l (q (i:=1) dQ rfl)),oV:=oV,oE:=oE,oS:=oS,rn:=by first|exact m|exact rn,rp:=by first|exact m|exact rp,new:=o,apart:=u},l⟩
def WS.putP(s:WS w1 w g r ab vP x c){f:Value}{n:Nat}(A:B0 hZ w TAs f (List.replicate n D9))(a:∀b,A5 f b->w1.heap.size<=b/\∀i,¬V5 g r x i b):
  ∃p,(Instr.storeAt 89 (.pointer (some ⟨g,7,none⟩)) f).run prog w = .ok () p/\WS w1 p g r ab vP {x with vp:=f,up:=List.replicate n D9} {c with P:=List.replicate n []}/\p6 (λb=>b=g) w p:=by
 obtain⟨G,t,y⟩:=dh1;obtain⟨p,D,E,l⟩:=cu0 (k:=7) s.cb (by decide +kernel:7<8) A.isS t y;have F:=p6.ext_of s.ext l λb d=>by subst d;exact s.new 0 _ rfl
 have z:∀j b,V5 g r {x with vp:=f,up:=List.replicate n D9} j b->(j≠6/\V5 g r x j b)\/(j=6/\A5 f b):=λj b h=>by
  match j,h with
  | 0,h=>exact .inl ⟨dQ,h⟩
  | 1,h=>exact .inl ⟨dQ,h⟩
  | 2,h=>exact .inl ⟨dQ,h⟩
  | 3,h=>exact .inl ⟨dQ,h⟩
  | 4,h=>exact .inl ⟨dQ,h⟩
  | 5,h=>first|exact .inl ⟨dQ,h⟩|exact .inr ⟨rfl,ai8 h⟩
  | 6,h=>first|exact .inl ⟨dQ,h⟩|exact .inr ⟨rfl,ai8 h⟩
  | _+7,h=>exact h.elim
 have q:∀{i b:Nat},i≠0->V5 g r x i b->¬b=g:=λC h=>s.off (j:=0) C h;have m:F1 hZ p TAs TAr f (List.replicate n D9) (List.replicate n ([]:List (Int×Int))):=am3 (A.mod l λb d v=>(a b d).2 0 v);have o:∀j b,V5 g r {x with vp:=f,up:=List.replicate n D9} j b->w1.heap.size<=b:=λj b h=>by
  rcases z j b h with⟨_,h⟩|⟨_,h⟩
  .exact s.new j b h
  .exact(a b h).1
 have u:∀i j b,V5 g r {x with vp:=f,up:=List.replicate n D9} i b->V5 g r {x with vp:=f,up:=List.replicate n D9} j b->i=j:=λi j b h k=>by
  rcases z i b h with⟨_,h⟩|⟨e,h⟩<;>rcases z j b k with⟨_,k⟩|⟨B,k⟩
  .exact s.apart i j b h k
  .exact absurd h ((a b k).2 i)
  .exact absurd k ((a b h).2 j)
  .rw[e,B]
 have oV:=s.oV.mod l λb d=>q (i:=2) dQ d;have oE:=s.oE.mod l λb d=>q (i:=3) dQ d;have oS:=s.oS.mod l λb d=>q (i:=4) dQ d;have rn:=s.rn.mod l λb d=>q (i:=5) dQ d;exact⟨p,D,{ext:=F,cb:=E,map:=(s.map.mod l (q (i:=1) dQ rfl)),oV:=oV,oE:=oE,oS:=oS,rn:=by first|exact m|exact rn,rp:=by first|exact m|exact rp,new:=o,apart:=u},l⟩
def WS.moreV(s:WS w1 w g r ab vP x c){w0:World}{u:Value}{ys:List Vx}(m:B0 (i5 w0) w 27 u ys)(o:∀b,A5 x.vV b->b<w0.heap.size)(p:c.V.length+ys.length<=1000000000000){e:TypeId}:
  ∃f i a,(Builtin.append_ #[35,35] e #[x.vV,u]).run prog w = .ok f i/\(Instr.storeAt 35 (.pointer (some ⟨g,2,none⟩)) f).run prog i = .ok () a/\WS w1 a g r ab vP {x with vV:=f} {c with V:=c.V++ys}/\p6 (A5 x.vV) w i:=by
 obtain⟨v,d,k⟩:=av3 (P:=prog) dq3 do9;have q:B0 (D0 w (A5 x.vV)) w 27 x.vV c.V:=s.oV.up (M0 _) λb j=>G1 j;have l:R (D0 w (A5 x.vV)) u ys:=m.flatRN λb j=>E4 λh=>by
  have:=o b h;have:=C9 (m.free j);omega
 obtain⟨f,i,y,z,n,A⟩:=X9 (P:=prog) (t:=35) (e:=e) aD0 rfl q l p om (B4 _ _);obtain⟨a,B,C,_⟩:=s.putV n (z.downN (M0 _)) A d k;exact⟨f,i,a,y,B,C,n⟩
def WS.moreE(s:WS w1 w g r ab vP x c){w0:World}{u:Value}{ys:List Eg}(m:B0 (i5 w0) w 54 u ys)(o:∀b,A5 x.vE b->b<w0.heap.size)(p:c.E.length+ys.length<=1000000000000){e:TypeId}:
  ∃f i a,(Builtin.append_ #[49,49] e #[x.vE,u]).run prog w = .ok f i/\(Instr.storeAt 49 (.pointer (some ⟨g,3,none⟩)) f).run prog i = .ok () a/\WS w1 a g r ab vP {x with vE:=f} {c with E:=c.E++ys}/\p6 (A5 x.vE) w i:=by
 obtain⟨v,d,k⟩:=av3 (P:=prog) dG4 dF9;have q:B0 (D0 w (A5 x.vE)) w 54 x.vE c.E:=s.oE.up (M0 _) λb j=>G1 j;have l:R (D0 w (A5 x.vE)) u ys:=m.flatRN λb j=>E4 λh=>by
  have:=o b h;have:=C9 (m.free j);omega
 obtain⟨f,i,y,z,n,A⟩:=X9 (P:=prog) (t:=49) (e:=e) cs4 rfl q l p om (B4 _ _);obtain⟨a,B,C,_⟩:=s.putE n (z.downN (M0 _)) A d k;exact⟨f,i,a,y,B,C,n⟩
end
def Wh(w0 w:World)(p:Pg)(u:Value)(C S:List Eg):Prop:=∃(a:World) (g r:Nat) (b:Addr) (c:Value) (x:WX),u = .pointer (some ⟨g,0,none⟩)/\o6 w0 a/\At (i5 a) b (b9 p)/\R (i5 a) c (b9 p).reached /\
 WS a w g r b c x ⟨(b9 p).wv,(b9 p).we,S,at3 (b9 p).wv,Z4 (b9 p).wv ((b9 p).we++C),Z6 (b9 p).wv ((b9 p).we++C)⟩
def dc5(a:Addr)(b:Value)(r:Nat)(hS:isS b=true):C1 prog 91 [(0,.pointer (some a)),(1,b),(5,.map (some r))]=some (.agg (wcs a b r ⟨.slice none 0 0,.slice none 0 0,.slice none 0 0,.slice none 0 0,[],.slice none 0 0,[]⟩)):=by
 have c:(Value.pointer (some a)).cells=#[.pointer (some a)]:=rfl;have d:(Value.map (some r)).cells=#[.map (some r)]:=rfl;simp[C1,dX2,K7,Instr.fill,F7 hS,c,d,wcs]
def wc0:WC:=⟨[],[],[],[],[],[]⟩
def wx0:WX:=⟨.slice none 0 0,.slice none 0 0,.slice none 0 0,.slice none 0 0,[],.slice none 0 0,[]⟩
def WS.start(a:World)(c:Addr)(d:Value)(t:TypeId):(Instr.makeMap t none).run prog a = .ok (.map (some a.heap.size)) (a.alloc (.map #[] 0)) /\
  (Instr.box 91 (.agg (wcs c d a.heap.size wx0))).run prog (a.alloc (.map #[] 0)) = .ok (.pointer (some ⟨a.heap.size+1,0,none⟩)) ((a.alloc (.map #[] 0)).alloc (.cells (wcs c d a.heap.size wx0) TWh)) /\
  WS a ((a.alloc (.map #[] 0)).alloc (.cells (wcs c d a.heap.size wx0) TWh)) (a.heap.size+1) a.heap.size c d wx0 wc0:=by
 obtain⟨q,r,s⟩:=au6.new (P:=prog) (enc:=Vx.enc) a t;have g:(a.alloc (.map #[] 0)).heap.size=a.heap.size+1:=dP
 have f:(Instr.box 91 (.agg (wcs c d a.heap.size wx0))).run prog (a.alloc (.map #[] 0)) = .ok (.pointer (some ⟨(a.alloc (.map #[] 0)).heap.size,0,none⟩)) ((a.alloc (.map #[] 0)).alloc (.cells (wcs c d a.heap.size wx0) TWh)):=rfl;rw[g]at f;have l:=o6.alloc (a.alloc (.map #[] 0)) (.cells (wcs c d a.heap.size wx0) TWh);have o:=em9 (a.alloc (.map #[] 0)) (.cells (wcs c d a.heap.size wx0) TWh);rw[g]at o;have m:∀j b,V5 (a.heap.size+1) a.heap.size wx0 j b->(j=0/\b=a.heap.size+1)\/(j=1/\b=a.heap.size):=λj b h=>by
  match j,h with
  | 0,h=>exact .inl ⟨rfl,h⟩
  | 1,h=>exact .inr ⟨rfl,h⟩
  | 2,h=>exact absurd h D8
  | 3,h=>exact absurd h D8
  | 4,h=>exact absurd h D8
  | 5,h=>
   rcases h with h|⟨u,n,_⟩
   .exact absurd h D8
   .cases n
  | 6,h=>
   rcases h with h|⟨u,n,_⟩
   .exact absurd h D8
   .cases n
  | _+7,h=>exact h.elim
 refine⟨q,f,s.trans l,o,r.mod l id,B0.nil _ _ _,B0.nil _ _ _,B0.nil _ _ _,F1.nil _ _ _ _,F1.nil _ _ _ _,λj b h=>?_,λi j b h k=>?_⟩
 .rcases m j b h with⟨_,rfl⟩|⟨_,rfl⟩<;>omega
 .rcases m i b h with⟨e,h⟩|⟨e,h⟩<;>rcases m j b k with⟨p,k⟩|⟨p,k⟩<;>omega
def WS.keyN{f w:World}{g r:Nat}{b:Addr}{d:Value}{x:WX}{c:WC}(s:WS f w g r b d x c){a:Vx}(h:ag1 c.kv a=none)(v:Value):
  ∃e,(Instr.mapUpdate 88 (.map (some r)) (.agg (p8.cells a).toArray) v).run prog w = .ok () e/\WS f e g r b d x {c with kv:=c.kv++[(a,v)]}:=s.key h v
def dx6{V:List Vx}{k:Nat}(a:k<V.length):at3 (V.take (k+1))=at3 (V.take k)++[(V[k],.int .i64 (k:Int))]:=by
 rw[ej8 a,dx5,ek3,eo8 (Nat.le_of_lt a)]
def dY2{p:Pg}(b:E6 p)(hw:C4 p<=1000000):∀v∈(b9 p).wv,v.id=0\/(1<=v.id/\v.id<=(d9 p).l.length):=λv j=>by
 obtain⟨i,g,_,_,d⟩:=aK4 b.toKnown j;obtain⟨y,k⟩:=K9 b.may hw i g;have c:∀it∈(d9 p).of (i:Int),1<=it.s.id/\it.s.id<=(d9 p).l.length:=λit a=>by
  obtain⟨e,_,l⟩:=bw9 b.may (aZ3 k a);have:=(ej5.1 e).1;omega
 have h:(b9 p).s=d9 p:=rfl;rcases R7.1 d with rfl|⟨_,_,rfl⟩|⟨_,_,rfl⟩|⟨it,a,f⟩
 .exact .inl rfl
 .exact .inl rfl
 .exact .inl rfl
 .rw[h]at a;rcases f with rfl|⟨_,⟨n,_,rfl⟩|⟨n,_,rfl⟩⟩<;>exact .inr (c it a)
def cV5{g r:Nat}{x:WX}{a:Value}{n i b:Nat}(h:V5 g r {x with vn:=a,un:=List.replicate n D9} i b):V5 g r x i b\/A5 a b:=by
 match i,h with
 | 0,h=>exact .inl h
 | 1,h=>exact .inl h
 | 2,h=>exact .inl h
 | 3,h=>exact .inl h
 | 4,h=>exact .inl h
 | 5,h=>exact .inr (ai8 h)
 | 6,h=>exact .inl h
 | _+7,h=>exact h.elim
def mkA{w:World}{n:Nat}(hn:n<=1000000):∃v a,(Instr.makeSlice 89 (.int .i64 n) (.int .i64 n)).run prog w = .ok v a/\B0 hZ a TAs v (List.replicate n D9)/\o6 w a/\(∀b,A5 v b->w.heap.size<=b):=by
 have g:A6.enc hZ (Value.slice none 0 0).cells.toList D9:=⟨rfl,rfl⟩;obtain⟨v,a,c,d,e,f,_⟩:=mk (P:=prog) (w:=w) (h:=hZ) dV0 dp9 (α:=Raw) (y:=D9) g (n:=n) om om (M0 _);exact⟨v,a,c,d,e,f⟩
def az9(v:Value)(p:Pg)(w:World)(hv:SV (i5 w) v p)(hw:C4 p<=1000000):
  y5 prog 48 #[v] w λu a=>((D4 p=false->u = .pointer none)/\(D4 p=true->Wh w a p u [] [])/\o6 w a):=by
 refine z6 [v] func48 rfl ?_;obtain⟨cb,wa,b5,co,bu⟩:=U2 hv (n7 _);obtain⟨sp,ci,bK,_⟩:=bu.pg_v;have l1:=bK wa (n7 _);simp only[eH,simprocAttr,b5,l1];refine y4 (dt3 sp p wa ci hw) ?_;rintro u w2 ⟨hf,ht,ck⟩;have aN:=co.trans ck;cases hR:D4 p
 .obtain rfl:=hf hR;simp only[eH,simprocAttr,dj7];exact o8 results48 ⟨λ_=>rfl,λh=>(by cases h),aN⟩
 obtain⟨O,rfl,br⟩:=ht hR;have L:=E9 hR;have K:=L.toKnown;have bw:=aU6 L;have aa:=bE5 L hw;have cU:=ai3 L hw;have ce:=au5 L hw;have bD:=O1 K;have bJ:=dY2 L hw;have cD:=cM7 L hw;have cT:=bu2 L hw;have ah:=λn hn=>Y0 K (n:=n) hn;have aD:(b9 p).wv=(b9 p).reached.flatMap λn=>(b9 p).verts ((b9 p).s.pr n):=rfl;have ae:(b9 p).we0=((b9 p).reached.flatMap λn=>(b9 p).edges ((b9 p).s.pr n))++(b9 p).wv.flatMap (b9 p).joinOf:=rfl;have b0:(b9 p).we=av2 (b9 p).we0:=rfl;have hs:(b9 p).s=d9 p:=rfl;have ca:(d9 p).p.procs.length<=1000000000:=by
  rw[N7];have:=cd5 L.may;omega
 simp only[eH,simprocAttr,dj7];refine y4 (cq2 O p w2 br L hw) ?_;rintro W F ⟨cg,a8⟩;have aO:=aN.trans a8;have G:=br.mono (b7 a8);have U:R (i5 F) W (b9 p).reached:=cg.rw_ (b7 a8);have bn:=U.isS;have cc:=U.vlen;obtain⟨m1,m2,s0⟩:=WS.start F O W 88;have aZ:=dc5 O W F.heap.size bn;have cj:(⟨.slice none 0 0,.slice none 0 0,.slice none 0 0,.slice none 0 0,[],.slice none 0 0,[]⟩:WX)=wx0:=rfl;rw[cj]at aZ;have l4:=s0.ld (i:=1) (u:=W) rfl X2;generalize(F.alloc (.map #[] 0)).alloc (.cells (wcs O W F.heap.size wx0) TWh)=w4 at m2 s0 l4;generalize hg:F.heap.size+1=g at m2 s0 l4;generalize cR:F.heap.size=r at m1 m2 s0 aZ;obtain⟨sh,_,_,_,_,_,has,_,_,_,_,_,cs,_⟩:=G.book rfl;simp only[eH,simprocAttr,aB8,m1,aZ,m2,l4,bn,cc];generalize bp:(λn=>(b9 p).verts ((b9 p).s.pr n))=Vn at aD;generalize bk:(λn=>(b9 p).edges ((b9 p).s.pr n))=En at ae aa;have af:∀n,Vn n=(b9 p).verts ((d9 p).pr n):=λn=>by rw[<-bp];rfl
 have ab:∀n,En n=(b9 p).edges ((d9 p).pr n):=λn=>by rw[<-bk];rfl
 have aE:∀n∈(b9 p).reached,(Vn n).length<=30000:=λn hn=>by
  obtain⟨i,Y,e,_⟩:=ah n hn;rw[af,<-hs,e];exact aY6 L hw Y
 have aC:∀n∈(b9 p).reached,(En n).length<=60000000:=λn hn=>by
  obtain⟨i,Y,e,_⟩:=ah n hn;rw[ab,<-hs,e];exact bR5 L hw Y
 generalize b2:(b9 p).reached=D at U aD ae aa bw aE aC ah;refine A9 [3,4,25,26] (σ:=Nat×Value×Value) (λt f a=>f 27 = .int .i64 t.1/\t.1<=D.length/\WS F a g r O W {wx0 with vV:=t.2.1,vE:=t.2.2} {wc0 with V:=(D.take t.1).flatMap Vn,E:=(D.take t.1).flatMap En}) (λt=>D.length-t.1) (0,.slice none 0 0,.slice none 0 0) ?_ ?_
 .simp only[B8,simprocAttr];exact⟨tt,ek1 _,s0⟩
 clear s0;rintro⟨k,Z,ve⟩ f w5 ⟨e3,e4,bV,bW,_⟩ ⟨aB,a0,S⟩;simp only at aB a0 S;simp only[eH,simprocAttr,aB,bW];refine A3 (λl=>?_) ?_
 .have ak:=U.inS l;have H:=ldS U S.base l;have al:=ek0 l;have aX:=J9 Vn D l;have aT:=J9 En D l;have bo:((D.take k).flatMap Vn).length<=480000:=by
   have h1:=P9 Vn 30000 (D.take k) λz hz=>aE z (er2 hz);rw[ek3]at h1;have h2:min k D.length<=16:=om
   omega
  have bj:((D.take k).flatMap En).length<=960000000:=by
   have h1:=P9 En 60000000 (D.take k) λz hz=>aC z (er2 hz);rw[ek3]at h1;have h2:min k D.length<=16:=om
   omega
  have bq:=aE _ al;have bl:=aC _ al;obtain⟨i,Y,aG,_⟩:=ah _ al;rw[hs]at aG;have ag:=af D[k];have ac:=ab D[k];rw[aG]at ag ac;generalize D[k]=n at H aX aT bq bl aG ag ac;generalize cO:(D.take k).flatMap Vn=VV at S aX bo;generalize bY:(D.take k).flatMap En=EE at S aT bj;have cr:=cs w5 S.base;simp only[i4,n9,A0,simprocAttr,aB,e3,bV,ak,H,cr];refine B6 (aC5 sh (d9 p) n w5 (has.mono S.base) ca) (λw6 cl=>?_);have s6:=(S.more cl).more (o6.drew w6);rw[aG];have t1:∀K f d c,F8 prog (λa=>p6 (A5 Z) w6.drew a) (Instr.loadAt 35 (.pointer (some ⟨g,2,none⟩))) K f d c=K (C5 f d Z) c:=λK f d c=>B7 (w0:=w6.drew) (p6.refl _) λa h=>F4 ((h.block g (s6.lt (i:=0) rfl) (s6.off (i:=0) (j:=2) dQ rfl)).trans s6.cb) rfl Y6;simp only[i4,simprocAttr];refine C0 (λa=>p6 (A5 Z) w6.drew a) 9 (A7 [0,1,2,3,4,5,6,7,8]) ?_;simp only[D7,A7,i4,n9,simprocAttr,e3,e4,t1];refine y4 (bf7 O p i w6.drew (G.mono s6.base) L hw Y) ?_;rintro uv w7 ⟨bG,aq⟩;refine⟨p6.up aq,?_⟩;rw[<-ag]at bG;have s7:=s6.more aq;obtain⟨v8,w8,B,p1,p2,s9,p3⟩:=s7.moreV bG (λb o=>s6.lt (i:=2) o) so (e:=35);simp only at p1 s9 p3;rw[<-aX]at s9;simp only[fd,simprocAttr,p1,G0];refine⟨(p6.up aq).trans p3,?_⟩;have M:=s9.more (o6.drew B);have t2:∀K f d c,F8 prog (λa=>p6 (A5 ve) B.drew a) (Instr.loadAt 49 (.pointer (some ⟨g,3,none⟩))) K f d c=K (C5 f d ve) c:=λK f d c=>B7 (w0:=B.drew) (p6.refl _) λa h=>F4 ((h.block g (M.lt (i:=0) rfl) (M.off (i:=0) (j:=3) dQ rfl)).trans M.cb) rfl bm3;simp only[i4,simprocAttr,p2];refine C0 (λa=>p6 (A5 ve) B.drew a) 9 (A7 [0,1,2,3,4,5,6,7,8]) ?_;simp only[D7,A7,i4,n9,simprocAttr,e3,e4,t2];refine y4 (cN6 O p i B.drew (G.mono M.base) L hw Y) ?_;rintro ue c8 ⟨bF,ap⟩;refine⟨p6.up ap,?_⟩;rw[<-ac]at bF;have I:=M.more ap;obtain⟨cw,c9,da,q1,q2,J,q3⟩:=I.moreE bF (λb o=>M.lt (i:=3) o) so (e:=49);simp only at q1 J q3;rw[<-aT]at J;simp only[fd,simprocAttr,q1,G0];refine⟨(p6.up ap).trans q3,?_⟩;simp only[eH,simprocAttr,q2,aB];exact V1 (k+1,v8,cw) J
 rintro rfl;rw[ek4,<-aD]at S;generalize bY:D.flatMap En=EE at S ae aa;clear aD aE aC ah bp bk af ab;generalize b1:(b9 p).wv.flatMap (b9 p).joinOf=Jn at ae;have l5:=S.ld (i:=2) (u:=Z) rfl Y6;have aW:=S.oV.isS;have a2:=S.oV.vlen;simp only at aW a2;generalize hV:(b9 p).wv=V at *;simp only[eH,simprocAttr,e4,l5,aW,a2];refine A9 [3,4,63,64] (σ:=Nat) (λk f a=>f 65 = .int .i64 k/\k<=V.length/\WS F a g r O W {wx0 with vV:=Z,vE:=ve} {wc0 with V:=V,E:=EE,kv:=at3 (V.take k)}) (λk=>V.length-k) 0 ?_ ?_
 .simp only[B8,simprocAttr];exact⟨tt,ek1 _,S⟩
 clear S l5;rintro k f6 w6 ⟨a3,a4,bS,bT,_⟩ ⟨aS,cC,s6⟩;rw[e3]at a3;rw[e4]at a4;simp only[eH,simprocAttr,aS,bT];refine A3 (λl=>?_) ?_
 .have aV:=s6.rV;simp only at aV;have ak:=aV.inS l;obtain⟨sv,ao,H⟩:=H1 (P:=prog) (t:=27) aV (n7 _) (ej0 l) aw3 aw6 ap5 P5;rw[P5]at H;have bz:=dx6 l;have cf:V[k]∉V.take k:=λh=>by
   have h2:=ej8 l;have h3:(V.take (k+1)).Nodup:=ce.sublist (List.take_sublist _ _);rw[h2,eo0]at h3;exact h3.2.2 _ h _ dP rfl
  have bC:=dI8 cf;generalize V[k]=y at ao bz bC;obtain rfl:=ao.N;obtain⟨d7,dd,w7,aY,a6,aq,bs⟩:=aF6 (w:=w6) (λ_=>False) (SV.ofN (i5 w6) y) λb o=>o.elim;have s7:=s6.more (aq.trans (o6.drew w7));have t1:=(L8.vx_v (SV.ofN (i5 w6) y) bs).2 (λa=>a=w7.drew) w7.drew rfl λa h=>by subst h;exact B4 w7 _
  have t2:∀K f d c,F8 prog (λa=>a=w7.drew) (Instr.loadAt 88 (.pointer (some ⟨g,5,none⟩))) K f d c=K (C5 f d (.map (some r))) c:=λK f d c=>B7 (w0:=w7.drew) rfl λa h=>by subst h;exact s7.ld rfl bW3
  obtain⟨w8,q1,s8⟩:=s7.keyN bC (.int .i64 (k:Int));simp only at s8;rw[<-bz]at s8;simp only[i4,n9,A0,simprocAttr,aS,bS,ak,H,aY,a6];refine C0 (λa=>a=w7.drew) 6 (A7 [0,1,2,3,4,5]) ?_;simp only[D7,A7,i4,n9,simprocAttr,a4,aS,t1,t2,ax6,q1];exact V1 (k+1) s8
 rintro rfl;rw[ek4]at s6;simp only[i4,simprocAttr,a4];refine y4 (cY5 s6 G L hw bJ so so) ?_;rintro _ w7 ⟨v7,s7⟩;simp only at s7;rw[b1,<-ae]at s7;have l7:=s7.ld (i:=3) (u:=v7) rfl bm3;simp only[eH,simprocAttr,a4,l7];refine y4 (bb9 s7.oE so (M0 _)) ?_;rintro u8 w8 ⟨a5,bA,bv⟩;simp only at a5 bA bv;rw[<-b0]at a5;obtain⟨cV,bx,b8⟩:=cm2;obtain⟨B,q1,s9,_⟩:=s7.putE bA a5 (λb o=>.inl (bv b o)) bx b8;simp only at s9;have M:=s9.more (o6.drew B);have am:V.length<=1000000:=om
 generalize aH:({wx0 with vV:=Z,vE:=u8}:WX)=xA at M;have lA:(Instr.loadAt 35 (.pointer (some ⟨g,2,none⟩))).run prog B.drew = .ok Z B.drew:=M.ld (by rw[<-aH];rfl) Y6;have t2:∀K f d c,F8 prog (λa=>p6 (λb=>b=g) B.drew a/\(Instr.loadAt 35 (.pointer (some ⟨g,2,none⟩))).run prog a = .ok Z a) (Instr.loadAt 35 (.pointer (some ⟨g,2,none⟩))) K f d c=K (C5 f d Z) c:=λK f d c=>B7 (w0:=B.drew) ⟨p6.refl _,lA⟩ λa h=>h.2;simp only[eH,simprocAttr,q1];refine bg5 [4] (λa=>p6 (λb=>b=g) B.drew a/\(Instr.loadAt 35 (.pointer (some ⟨g,2,none⟩))).run prog a = .ok Z a) 17 (.op 0 (.op 1 (.op 2 (.op 3 (.op 4 (.op 5 (.op 6 (.op 8 (.op 9 (.op 10 (.op 11 (.op 12 (.fork [7,13] (λi=>if i=7 then(.op 14 (.op 15 (.fork [13,16] (λi=>if i=13 then(A7 [16])else(A7 [13])))))else(A7 [7,14,15,16])))))))))))))))
  (λf' a=>∃m x,f' 100=x/\f' 88 = .pointer (some ⟨g,0,none⟩)/\WS F a g r O W {xA with vn:=m,un:=List.replicate V.length D9} {wc0 with V:=V,E:=(b9 p).we,kv:=at3 V,N:=List.replicate V.length []}/\B0 hZ a TAs x (List.replicate V.length D9)/\(∀b,A5 x b->F.heap.size<=b/\∀i,¬V5 g r {xA with vn:=m,un:=List.replicate V.length D9} i b))
  (by decide +kernel) (by decide +kernel) ⟨p6.refl _,lA⟩ ?_ ?_
 .have C:∀a,WS F a g r O W xA {wc0 with V:=V,E:=(b9 p).we,kv:=at3 V}->(Instr.loadAt 35 (.pointer (some ⟨g,2,none⟩))).run prog a = .ok Z a:=λa s=>s.ld (by rw[<-aH];rfl) Y6;have q:∀a m,WS F a g r O W {xA with vn:=m,un:=List.replicate V.length D9} {wc0 with V:=V,E:=(b9 p).we,kv:=at3 V,N:=List.replicate V.length []}->(Instr.loadAt 35 (.pointer (some ⟨g,2,none⟩))).run prog a = .ok Z a:=λa m s=>s.ld (by rw[<-aH];rfl) Y6;have hE:∀a,o6 B.drew a->p6 (λb=>b=g) B.drew a:=λa h=>h.weaken λ_ _ h=>h.elim;have an:∀(m:Value),(∀b,A5 m b->B.drew.heap.size<=b)->∀b,A5 m b->F.heap.size<=b/\∀i,¬V5 g r xA i b:=λm bH b o=>⟨ej7 M.ext.size (bH b o),λi h=>by have:=M.lt h;have:=bH b o;omega⟩;have aj:∀(m x:Value),(∀b,A5 x b->B.drew.heap.size<=b)->(∀b,A5 m b->¬A5 x b)->∀b,A5 x b->F.heap.size<=b/\∀i,¬V5 g r {xA with vn:=m,un:=List.replicate V.length D9} i b:=λm x bI hd b o=>⟨(an x bI b o).1,λi h=>by
   rcases cV5 h with h|h
   .exact(an x bI b o).2 i h
   .exact hd b h o⟩
  simp only[D7,A7,i4,n9,simprocAttr,a4,t2,aW,a2];refine V3 (by decide +kernel) (λi Y=>?_);simp only[ek9,en5,es4]at Y;rcases Y with rfl|rfl
  .obtain⟨m,wA,m1,oa,X,fa⟩:=mkA (w:=B.drew) am;have I:=M.more X;simp only[fd,simprocAttr,m1,G0];refine⟨⟨hE _ X,C _ I⟩,?_⟩;refine V3 (by decide +kernel) (λi Y=>?_);simp only[ek9,en5,es4]at Y;rcases Y with rfl|rfl
   .obtain⟨x,wB,m2,ob,T,fb⟩:=mkA (w:=wA) am;have J:=I.more T;obtain⟨wC,q3,sD,A⟩:=J.putN (oa.ext T) (an m fa);have aF:∀b,A5 x b->B.drew.heap.size<=b:=λb o=>ej7 X.size (fb b o);simp only[fc,simprocAttr,m2,q3,G0];refine⟨⟨hE _ (X.trans T),C _ J⟩,⟨(hE _ (X.trans T)).trans A,q _ _ sD⟩,m,x,tt,tt,sD,ob.mod A λb o b3=>?_,aj m x aF λb h1 h2=>?_⟩
    .have:=M.lt (i:=0) rfl;have:=aF b o;omega
    .have:=oa.lt h1;have:=fb b h2;omega
   .obtain⟨wB,q3,sD,A⟩:=I.putN oa (an m fa);obtain⟨x,wC,m2,ob,T,fb⟩:=mkA (w:=wB) am;have aF:∀b,A5 x b->B.drew.heap.size<=b:=λb o=>ej7 X.size (ej7 A.size (fb b o));simp only[fc,simprocAttr,m2,q3,G0];refine⟨⟨(hE _ X).trans A,q _ _ sD⟩,⟨((hE _ X).trans A).trans (T.weaken λ_ _ h=>h.elim),q _ _ (sD.more T)⟩,m,x,tt,tt,sD.more T,ob,aj m x aF λb h1 h2=>?_⟩;have:=oa.lt h1;have:=fb b h2;have:=A.size;omega
  .obtain⟨x,wA,m2,ob,T,fb⟩:=mkA (w:=B.drew) am;obtain⟨m,wB,m1,oa,X,fa⟩:=mkA (w:=wA) am;have I:=M.more T;have J:=I.more X;have b6:∀b,A5 m b->B.drew.heap.size<=b:=λb o=>ej7 T.size (fa b o);obtain⟨wC,q3,sD,A⟩:=J.putN oa (an m b6);simp only[fd,simprocAttr,m1,m2,q3,G0];refine⟨⟨hE _ T,C _ I⟩,⟨hE _ (T.trans X),C _ J⟩,⟨(hE _ (T.trans X)).trans A,q _ _ sD⟩,m,x,tt,tt,sD,(ob.ext X).mod A λb o b3=>?_,aj m x fb λb h1 h2=>?_⟩
   .have:=M.lt (i:=0) rfl;have:=fb b o;omega
   .have:=ob.lt h2;have:=fa b h1;omega
 rintro fA wA hk ⟨m,x,bi,bX,I,ob,cd⟩;simp only[em0,B8,simprocAttr]at hk;obtain⟨b4,_⟩:=hk;obtain⟨wC,q3,J,_⟩:=I.putP ob cd;simp only at J;generalize cm:({xA with vn:=m,un:=List.replicate V.length D9,vp:=x,up:=List.replicate V.length D9}:WX)=xC at J;have a7:xC.vE=u8:=by rw[<-cm,<-aH]
 have lC:=J.ld (i:=3) (u:=u8) (by rw[<-a7];rfl) bm3;have bm:=J.oE.isS;have a1:=J.oE.vlen;rw[a7]at bm a1;simp only at a1;generalize bZ:(b9 p).we=Es at *;have bL:WS F wC g r O W xC {wc0 with V:=V,E:=Es,kv:=at3 V,N:=Z4 V (Es.take 0),P:=Z6 V (Es.take 0)}:=by
  rw[et3,cV4,cW1];exact J
 simp only[fd,simprocAttr,b4,a4,bi,bX,q3,lC,bm,a1];refine A9 [4,108,109] (σ:=Nat×List Raw×List Raw) (λt f a=>f 110 = .int .i64 t.1/\t.1<=Es.length/\WS F a g r O W {xC with un:=t.2.1,up:=t.2.2} {wc0 with V:=V,E:=Es,kv:=at3 V,N:=Z4 V (Es.take t.1),P:=Z6 V (Es.take t.1)}) (λt=>Es.length-t.1) (0,xC.un,xC.up) ?_ ?_
 .simp only[B8,simprocAttr];exact⟨tt,ek1 _,bL⟩
 clear J bL;rintro⟨k,un,up⟩ fB wB ⟨c4,bf,bg,_⟩ ⟨Q,a0,I⟩;simp only at Q a0 I;rw[b4,a4]at c4;simp only[eH,simprocAttr,Q,bg];refine A3 (λl=>?_) ?_;rotate_left
 .rintro rfl;rw[ek4]at I;simp only[i4,simprocAttr,c4];refine o8 results48 ?_;simp only[B8,simprocAttr];refine⟨λh=>(by cases h),λ_=>⟨F,g,r,O,W,{xC with un:=un,up:=up},rfl,aO,G,(by rw[b2];exact U),?_⟩,aO.trans I.ext⟩;rw[hV,bZ,em5];exact I
 have aU:=I.rE;simp only[a7]at aU;have ak:=aU.inS l;obtain⟨sv,ao,H⟩:=H1 (P:=prog) (t:=54) aU (n7 _) (ej0 l) bL1 bL6 bm4 aw5;rw[aw5]at H;have bE:=ej8 l;generalize Es[k]=e at ao bE;obtain rfl:=ao.N;obtain⟨d,wz,wD,aY,a6,cn,bt⟩:=cf3 (w:=wB) (λ_=>False) (SV.ofN (i5 wB) e) λb o=>o.elim;have sD:=I.more cn;have lD:=(L8.eg_v (SV.ofN (i5 wB) e) bt).1 wD (B4 _ _);simp only[i4,n9,A0,simprocAttr,Q,c4,bf,ak,H,aY,a6,lD];refine y4 (cJ4 sD rfl (Es.take k) rfl rfl bD so (by rw[ek3];omega) e) ?_;rintro _ wE ⟨u1,u2,sE,_,_⟩;simp only at sE;rw[<-bE]at sE;simp only[eH,simprocAttr,Q];exact V1 (k+1,_,_) sE
def dr0{P:Program}{α:Type}[A6 α]{h:Hp}{w:World}{N:Nat->Prop}{T:TypeId}{v:Value}{x:α}(hv:SV h v x)(hN:∀b,N b->b<w.heap.size){z:Value}(k:I4 P T=some z)(c:z.cells.size=N6 P T)(j:N6 P T=A6.sz α):
  ∃a e d,(Instr.alloc T true (.tuple #[])).run P w = .ok (.pointer (some a)) e/\(Instr.storeAt T (.pointer (some a)) v).run P e = .ok () d/\o6 w e/\o6 w d/\L8 (D0 d N) a v:=by
 obtain⟨cs,rfl,f⟩:=hv;obtain⟨g,i⟩:=aI8 (P:=P) (w:=w) (T:=T) k c (cs:=List.toArray cs) (by simpa[j]using A6.len f) (by simpa using A6.one f);exact⟨_,_,_,g,i,o6.alloc w _,o6.alloc w _,bY7 hN⟩
def bO2{h:Hp}{w:World}{v:Value}{V:List Vx}(c:R h v V)(hw:E2 h (i5 w)){k:Nat}{y:Vx}(d:V[k]?=some y):(Instr.loadAt 27 (.pointer (some (G8 v (k*4))))).run prog w = .ok (.agg (p8.cells y).toArray) w:=by
 obtain⟨e,b,a⟩:=H1 (P:=prog) (t:=27) c hw d aw3 aw6 ap5 P5;rw[P5]at a;obtain rfl:=b.N;exact a
def wcC(p:Pg)(C S:List Eg):WC:=⟨(b9 p).wv,(b9 p).we,S,at3 (b9 p).wv,Z4 (b9 p).wv ((b9 p).we++C),Z6 (b9 p).wv ((b9 p).we++C)⟩
structure HS (p:Pg) (w1 w:World) (g r:Nat) (ab:Addr) (vP:Value) (rh:Nat) (x:WX) (C:List Eg):Prop where
 ws:WS w1 w g r ab vP x (wcC p C C)
 has:au6 cx9 w rh (bh7 (b9 p).wv C)
 ge:w1.heap.size<=rh
 off:∀i,¬V5 g r x i rh
 sum:bo0 p C
def hN(g r a:Nat)(x:WX)(b:Nat):Prop:=b=a\/cf5 g r x b
section
variable {p:Pg} {w1 w:World} {g r:Nat} {ab:Addr} {vP:Value} {rh:Nat} {x:WX} {C:List Eg}
def HS.lt(s:HS p w1 w g r ab vP rh x C){b:Nat}(h:hN g r rh x b):b<w.heap.size:=by
 rcases h with rfl|⟨i,h⟩
 .exact s.has.lt
 .exact s.ws.lt h
def HS.more(s:HS p w1 w g r ab vP rh x C){b:World}(a:o6 w b):HS p w1 b g r ab vP rh x C:=⟨s.ws.more a,s.has.mod a id,s.ge,s.off,s.sum⟩
def HS.kinds(s:HS p w1 w g r ab vP rh x C):∀e∈C,e.kind=3/\e.src∈(b9 p).wv/\e.dst∈(b9 p).wv:=λe a=>⟨(s.sum.kind a).1,(s.sum.kind a).2.1,(s.sum.kind a).2.2.1⟩
end
def bw5(V:List Vx)(a:B3)(t:Int×Int)(e:Eg):Prop:=t.2=6/\∃v,V[t.1.toNat]?=some v/\(⟨v.proc,5,v.id,a⟩:Vx)∈V/\e=⟨⟨v.proc,5,v.id,a⟩,v,3⟩
def df9{V:List Vx}{L:List Eg}{b:Nat}{a:B3}{c e:Eg}(k:c∈L)(j:e∈aA9 V b a c):∃t∈(L.filter λe=>decide (D6 V e.src=b)).map (λe=>(((D6 V e.dst:Nat):Int),e.kind)),bw5 V a t e:=by
 obtain⟨⟨d,f⟩,v,g,h,i⟩:=at4.1 j;exact⟨_,el2.2 ⟨c,el6.2 ⟨k,by simpa using f⟩,rfl⟩,d,v,by simpa using g,h,i⟩
def dg0{V:List Vx}{L:List Eg}{b:Nat}{a:B3}{e:Eg}{t:Int×Int}(l:t∈(L.filter λe=>decide (D6 V e.src=b)).map (λe=>(((D6 V e.dst:Nat):Int),e.kind)))(h:bw5 V a t e):∃d∈L,e∈aA9 V b a d:=by
 obtain⟨d,c,rfl⟩:=el2.1 l;obtain⟨c,g⟩:=el6.1 c;obtain⟨f,v,i,j,k⟩:=h;exact⟨d,c,at4.2 ⟨⟨f,ej3 g⟩,v,by simpa using i,j,k⟩⟩
def dg1{p:Pg}{w1 w:World}{g r:Nat}{ab:Addr}{vP:Value}{D:Nat}{x:WX}{C:List Eg}(s:HS p w1 w g r ab vP D x C)(hR:D4 p=true)(hw:C4 p<=1000000)(al m:Nat){vi vo:Vx}(ba:(b9 p).wv[al]?=some vi)(cc:vi.kind=3)(aK:(b9 p).wv[m]?=some vo)(cf:vo.kind=4)
  (bI:W1 (R3 (b9 p).wv ((b9 p).we++C) [1,2,3]) (al:Int) (m:Int)) :
  y5 prog 90 #[.pointer (some ⟨g,0,none⟩),.int .i64 al,.int .i64 m,.map (some D)] w λu j=>(∃(y:Bool) (x':WX) (X:List Eg),u = .bool y/\HS p w1 j g r ab vP D x' X/\(∀e∈C,e∈X)/\(y=false->X=C)/\(y=true->C.length<X.length) /\
   (∀xe∈(b9 p).we++C,∀e∈aA9 (b9 p).wv m vi.slot xe,e∈X)/\p6 (hN g r D x) w j/\(∀i b,V5 g r x' i b->V5 g r x i b\/w.heap.size<=b)/\x'.vV=x.vV):=by
 refine z6 [.pointer (some ⟨g,0,none⟩),.int .i64 al,.int .i64 m,.map (some D)] func90 rfl ?_;have hr:=E9 hR;have h0:=O1 hr.toKnown;have hn:=ai3 hr hw;have cq:=bu2 hr hw;have cl:m<(b9 p).wv.length:=(ej5.1 aK).1;have b3:al<(b9 p).wv.length:=(ej5.1 ba).1;have aU:∀{a:Nat} {v:Vx},(b9 p).wv[a]?=some v->D6 (b9 p).wv v=a:=λh=>cK7 (au5 hr hw) h;have ct:A6.sz Vx=4:=rfl;have ax:∀X,bo0 p X->(Z4 (b9 p).wv ((b9 p).we++X))[m]?=some (((b9 p).we.filter λe=>decide (D6 (b9 p).wv e.src=m)).map λe=>(((D6 (b9 p).wv e.dst:Nat):Int),e.kind)):=λX h=>by
  rw[aX5 cl,ep9];have:X.filter (λe=>decide (D6 (b9 p).wv e.src=m))=[]:=List.filter_eq_nil_iff.2 λe A=>by
   obtain⟨_,h2,_,h4⟩:=h.kind A;simp only[em7];intro hh;have h5:=Z5 h2;rw[hh,aK]at h5;rw[<-el4 h5]at h4;omega
  rw[this,em5]
 have bG:∀t e,t∈((b9 p).we.filter λe=>decide (D6 (b9 p).wv e.src=m)).map (λe=>(((D6 (b9 p).wv e.dst:Nat):Int),e.kind))->bw5 (b9 p).wv vi.slot t e->∃xe∈(b9 p).we,e∈aA9 (b9 p).wv m vi.slot xe:=λt e ht h=>dg0 ht h;have bx:∀xe e,xe∈(b9 p).we++C->e∈aA9 (b9 p).wv m vi.slot xe->∃t∈((b9 p).we.filter λe=>decide (D6 (b9 p).wv e.src=m)).map (λe=>(((D6 (b9 p).wv e.dst:Nat):Int),e.kind)),bw5 (b9 p).wv vi.slot t e:=λxe e hx A=>by
  rcases ej9.1 hx with h|h
  .exact df9 h A
  .have:=(s.sum.kind h).1;have:=(at4.1 A).1.1;omega
 have bB:∀t∈((b9 p).we.filter λe=>decide (D6 (b9 p).wv e.src=m)).map (λe=>(((D6 (b9 p).wv e.dst:Nat):Int),e.kind)),∃T:Nat,t.1=(T:Int)/\T<(b9 p).wv.length:=λt ht=>by
  obtain⟨e,_,rfl⟩:=el2.1 ht;exact⟨_,rfl,Y9 h0 _⟩
 have cn:(((b9 p).we.filter λe=>decide (D6 (b9 p).wv e.src=m)).map (λe=>(((D6 (b9 p).wv e.dst:Nat):Int),e.kind))).length<=960480000:=by
  rw[ek2];exact ej7 (el8 _ _) cq
 generalize((b9 p).we.filter λe=>decide (D6 (b9 p).wv e.src=m)).map (λe=>(((D6 (b9 p).wv e.dst:Nat):Int),e.kind))=row at ax bG bx bB cn;obtain⟨u0,aJ⟩:∃u,x.un[m]?=some u:=by
  have h1:=s.ws.rn.len;have h2:(wcC p C C).N.length=(b9 p).wv.length:=al9;exact⟨_,ej0 om⟩
 have ch:=aN6 (P:=prog) (t:=216) s.ws.rn aJ bL0;have bz:=s.ws.rn.row m u0 row aJ (ax C s.sum);simp only[i4,n9,A0,simprocAttr,s.ws.ld (i:=6) (u:=x.vn) rfl aF5,s.ws.rn.outer.inS (ej5.1 aJ).1,ch,bz.isS,bz.vlen];refine E8 [0,1,2,3,21,22] (σ:=(Nat×Bool)×(WX×List Eg)) (λt f j=>f 23 = .int .i64 t.1.1/\f 8 = .bool t.1.2/\t.1.1<=row.length/\HS p w1 j g r ab vP D t.2.1 t.2.2/\t.2.1.un[m]?=some u0/\(∀e∈C,e∈t.2.2)/\(t.1.2=false->t.2.2=C)/\(t.1.2=true->C.length<t.2.2.length) /\
  (∀q∈row.take t.1.1,∀e,bw5 (b9 p).wv vi.slot q e->e∈t.2.2)/\p6 (hN g r D x) w j/\(∀i b,V5 g r t.2.1 i b->V5 g r x i b\/w.heap.size<=b)/\t.2.1.vV=x.vV) (λt=>row.length-t.1.1) ((0,false),(x,C)) ?_ ?_
 .simp only[B8,simprocAttr];exact⟨tt,tt,ek1 _,s,aJ,λ_ h=>h,λ_=>tt,λh=>(by cases h),λq hq=>(by simp at hq),p6.refl _,λi b h=>.inl h,tt⟩
 rintro⟨⟨k,y⟩,o,B⟩ f w2 hk ⟨Y,h8,ce,s2,ak,E,ah,aj,J,bs,W,I⟩;simp only at Y h8 ce s2 ak E ah aj J W I;simp only[em0,B8,simprocAttr]at hk;obtain⟨e0,e1,e2,e3,bh,bY,_⟩:=hk;simp only[eH,simprocAttr,Y,bY];refine A3 (λar=>?_) ?_;rotate_left
 .rintro rfl;rw[ek4]at J;simp only[i4,simprocAttr,h8];refine o8 results90 ⟨y,o,B,rfl,s2,E,ah,aj,λxe hx e A=>?_,bs,W,I⟩;obtain⟨t,ht,h⟩:=bx xe e hx A;exact J t ht e h
 have bH:R (i5 w2) u0.v row:=(s2.ws.rn.row m u0 row ak (ax B s2.sum)).flatRN λ_ _=>rfl;have aS:=bH.inS ar;have ae:=di0 bH (n7 _) (ej0 ar);obtain⟨T,a2,a3⟩:=bB _ (ek0 ar);have bE:=ej8 ar;have bF:=ek0 ar;generalize row[k]=t at ae a2 bE bF;obtain⟨t1,q⟩:=t;simp only at a2;subst a2;simp only at ae;have L:∀X:List Eg,(∀e∈B,e∈X)->(∀e,bw5 (b9 p).wv vi.slot ((T:Int),q) e->e∈X)->∀q'∈row.take (k+1),∀e,bw5 (b9 p).wv vi.slot q' e->e∈X:=λX h1 h2 q' hq e A=>by
  rw[bE]at hq;rcases ej9.1 hq with h|h
  .exact h1 e (J q' h e A)
  .simp only[ek5]at h;subst h;exact h2 e A
 obtain⟨ca,di,S,aO,aW,bJ,a5,cL⟩:=dq8 (w:=w2) (T:Int) q;obtain⟨c6,bN⟩:=aK1 a5 (p6.refl (M:=λ_=>False) S) id;have s3:=s2.more bJ;have bt:p6 (hN g r D x) w S:=bs.trans (p6.up bJ);rcases ej1 (!decide (q=6))with hq|hq
 .have aI:¬q=6:=by simpa using hq
  have cm:decide (q=6)=false:=by simpa using aI
  simp only[i4,n9,A0,simprocAttr,Y,h8,bh,aS,ae,aO,aW,bN,cm];exact nx4 ((k+1,y),(o,B)) ⟨s3,ak,E,ah,aj,L B (λ_ h=>h) λe A=>absurd A.1 aI,bt,W,I⟩
 have aI:q=6:=by simpa using hq
 subst aI;have aL:=s3.more (o6.drew S);have a1:R (i5 S.drew) o.vV (b9 p).wv:=aL.ws.rV;have ao:(b9 p).wv[T]?=some (b9 p).wv[T]:=ej0 a3;have aH:=aU ao;have bb:=ek0 a3;have bq:=a1.inS a3;have aq:=a1.inS b3;generalize cp:(b9 p).wv[T]=v at ao aH bb;clear cp;obtain⟨d,dj,z,bl,aX,bL,bK,aP⟩:=dr0 (P:=prog) (w:=S.drew) (N:=hN g r D o) (T:=27) (SV.ofN (i5 S.drew) v) (λb G=>aL.lt G) aV1 rfl P5;have k1:∀K f d c,F8 prog (λj=>o6 S.drew j) (Instr.loadAt 35 (.pointer (some ⟨g,2,none⟩))) K f d c=K (C5 f d o.vV) c:=λK f d c=>B7 (w0:=S.drew) (p6.refl _) λj h=>(aL.more h).ws.ld (u:=o.vV) rfl Y6;have k2:∀K f d c,F8 prog (λj=>o6 S.drew j) (Instr.loadAt 3 (.pointer (some ⟨ca,0,none⟩))) K f d c=K (C5 f d (.int .i64 (T:Int))) c:=λK f d c=>B7 (w0:=S.drew) (p6.refl _) λj h=>(aK1 a5 ((o6.drew S).trans h) id).1;have k3:∀K f d c,F8 prog (λj=>o6 S.drew j) (Instr.loadAt 27 (.pointer (some (G8 o.vV (T*4))))) K f d c=K (C5 f d (.agg (p8.cells v).toArray)) c:=λK f d c=>B7 (w0:=S.drew) (p6.refl _) λj h=>bO2 a1 (b7 h) ao;have cM:decide ((6:Int)=6)=true:=rfl;simp only[i4,n9,A0,simprocAttr,Y,bh,aS,ae,aO,aW,bN];refine C0 (λj=>o6 S.drew j) 9 (A7 [0,1,2,3,4,5,6,7,8]) ?_;simp only[D7,A7,i4,n9,A0,simprocAttr,e0,k1,k2,k3,bq,bl,G0];refine⟨bL,?_⟩;have s5:=(aL.more bK).more (o6.drew z);have aY:o6 S z.drew:=((o6.drew S).trans bK).trans (o6.drew z);have aE:p6 (hN g r D x) w z.drew:=bt.trans (p6.up aY);have bk:R (i5 z.drew) o.vV (b9 p).wv:=s5.ws.rV;have aQ:=bk.at_ ba;rw[ct]at aQ;obtain⟨_,cC⟩:=aQ.vx;have m1:∀K f d c,F8 prog (λj=>j=z.drew) (Instr.loadAt 88 (.pointer (some ⟨g,5,none⟩))) K f d c=K (C5 f d (.map (some r))) c:=λK f d c=>B7 (w0:=z.drew) rfl λj h=>by subst h;exact s5.ws.ld rfl bW3
 have m2:=(L8.vx (SV.ofN (i5 S.drew) v) aP).2 (λj=>j=z.drew) z.drew rfl λj h=>by subst h;exact B4 z _
 have m3:∀K f d c,F8 prog (λj=>j=z.drew) (Instr.loadAt 35 (.pointer (some ⟨g,2,none⟩))) K f d c=K (C5 f d o.vV) c:=λK f d c=>B7 (w0:=z.drew) rfl λj h=>by subst h;exact s5.ws.ld (u:=o.vV) rfl Y6
 have m4:=cC (λj=>j=z.drew) z.drew rfl λj h=>by subst h;exact n7 _
 have V:=s5.ws.lookOk ⟨v.proc,5,v.id,vi.slot⟩;have cg:(wcC p B B).kv=at3 (b9 p).wv:=rfl;rw[cg,bh3]at V;have aD:=ci4 v.proc 5 v.id vi.slot;generalize ad:(⟨v.proc,5,v.id,vi.slot⟩:Vx)=l at V aD;have a6:∀e,bw5 (b9 p).wv vi.slot ((T:Int),6) e->l∈(b9 p).wv/\e=⟨l,v,3⟩:=λe A=>by
  obtain⟨_,v',h1,h2,h3⟩:=A;rw[el5,ao]at h1;obtain rfl:=el4 h1;rw[ad]at h2 h3;exact⟨h2,h3⟩
 cases hak:atV (b9 p).wv l with
 | none=>
  rw[hak]at V;simp only[Option.map_none,Option.getD_none,Option.isSome_none]at V;have m5:∀K f d c,F8 prog (λj=>j=z.drew) (Instr.lookup 88 (.map (some r)) (.agg (p8.cells l).toArray) true) K f d c=K (C5 f d (.tuple #[.int .i64 0,.bool false])) c:=λK f d c=>B7 (w0:=z.drew) rfl λj h=>by subst h;exact V
  simp only[i4,simprocAttr,aX];refine C0 (λj=>j=z.drew) 22 (A7 [0,1,2,3,4,5,6,7,8,9,10,11,12,13,14,15,16,17,18,19,20,21]) ?_;simp only[D7,A7,i4,n9,A0,simprocAttr,e0,e1,m1,m2,m3,m4,m5,aq,aD,Y,h8];exact⟨((k+1,y),(o,B)),so,by simp only[];rw[J2 k],tt,so,s5,ak,E,ah,aj,L B (λ_ h=>h) λe A=>(by
   have:=af5.2 (a6 e A).1;rw[hak]at this;cases this),aE,W,I⟩
 | some F=>
  rw[hak]at V;simp only[ep0,eo5,Option.isSome_some]at V;have an:=bg0 hak;have b0:=db0 hak;have aG:=aU an;have a7:l∈(b9 p).wv:=el0 an;have m5:∀K f d c,F8 prog (λj=>j=z.drew) (Instr.lookup 88 (.map (some r)) (.agg (p8.cells l).toArray) true) K f d c=K (C5 f d (.tuple #[.int .i64 (F:Int),.bool true])) c:=λK f d c=>B7 (w0:=z.drew) rfl λj h=>by subst h;exact V
  have aR:=cJ0 s5.kinds a7 bb;rw[aG,aH]at aR;have Z:=s5.has.lookup (P:=prog) dR8 Tryz.underlying141 V4 ((F:Int),(T:Int));rw[aR]at Z;have Z:(Instr.lookup 141 (.map (some D)) (.agg #[.int .i64 (F:Int),.int .i64 (T:Int)]) false).run prog z.drew = .ok (.bool (decide ((⟨l,v,3⟩:Eg)∈B))) z.drew:=Z;have bn:=bZ0 (F:Int) (T:Int);obtain⟨bO,_⟩:=aK1 a5 aY id;simp only[i4,simprocAttr,aX];refine C0 (λj=>j=z.drew) 22 (A7 [0,1,2,3,4,5,6,7,8,9,10,11,12,13,14,15,16,17,18,19,20,21]) ?_;rcases ej1 (decide ((⟨l,v,3⟩:Eg)∈B))with hmem|hmem
  .rw[hmem]at Z;simp only[D7,A7,i4,n9,A0,simprocAttr,e0,e1,e3,m1,m2,m3,m4,m5,aq,aD,Y,h8,bO,bn,Z];exact nx4 ((k+1,y),(o,B)) ⟨s5,ak,E,ah,aj,L B (λ_ h=>h) λe A=>(by rw[(a6 e A).2];exact ej3 hmem),aE,W,I⟩
  rw[hmem]at Z;have bv:=ej6 hmem;have bw:=dg3 s5.kinds a7 bb bv;rw[aG,aH]at bw;obtain⟨H,q8,a8,au⟩:=s5.has.push (P:=prog) dR8 Tryz.underlying141 bw (.bool true);have q8:(Instr.mapUpdate 141 (.map (some D)) (.agg #[.int .i64 (F:Int),.int .i64 (T:Int)]) (.bool true)).run prog z.drew = .ok () H:=q8;have cE:=s5.ws.mod au λb G=>by subst G;exact⟨s5.ge,s5.off⟩
  simp only[D7,A7,i4,n9,A0,simprocAttr,e0,e1,e3,m1,m2,m3,m4,m5,aq,aD,bO,bn,Z,ax6,q8];have aA:=cE.more (o6.drew H);have aN:R (i5 H.drew) o.vV (b9 p).wv:=aA.rV;have bp:=aN.inS b0;have aC:E2 (D0 z (hN g r D o)) (i5 H.drew):=G4 (p7 (B4 z _) (b7 (o6.drew z))) (au.trans (p6.up (o6.drew H))) λb G=>by subst G;exact G1 (.inl rfl)
  obtain⟨bW,bU,n,ap,a9,ay,ag,a4⟩:=dr0 (P:=prog) (w:=H.drew) (N:=hN g r D o) (T:=54) (SV.ofN (i5 H.drew) (⟨l,v,3⟩:Eg)) (λb G=>eq5 (s5.lt G) au.size) cM3 rfl aw5;have n1:∀K f d c,F8 prog (λj=>o6 H.drew j) (Instr.loadAt 35 (.pointer (some ⟨g,2,none⟩))) K f d c=K (C5 f d o.vV) c:=λK f d c=>B7 (w0:=H.drew) (p6.refl _) λj h=>(aA.more h).ld (u:=o.vV) rfl Y6;have n2:∀K f d c,F8 prog (λj=>o6 H.drew j) (Instr.loadAt 27 (.pointer (some (G8 o.vV (F*4))))) K f d c=K (C5 f d (.agg (p8.cells l).toArray)) c:=λK f d c=>B7 (w0:=H.drew) (p6.refl _) λj h=>bO2 aN (b7 h) an;have n3:=(L8.vx_v (SV.ofN (i5 S.drew) v) aP).2 (λj=>o6 H.drew j) H.drew (p6.refl _) λj h=>p7 aC (b7 h);have bm:=bD2 l v 3;refine bg5 [0,8,23] (λj=>o6 H.drew j) 10 (.op 0 (.op 1 (.op 2 (.op 3 (.op 4 (.op 5 (.op 6 (.op 7 (.fork [8,9] (λi=>if i=8 then(A7 [9])else(A7 [8])))))))))))
   (λf' j=>f' 14 = .pointer (some bW)/\f' 82 = .agg (p8.cells (⟨l,v,3⟩:Eg)).toArray/\j=bU) (by decide +kernel) (by decide +kernel) (p6.refl _) ?_ ?_
  .simp only[D7,A7,i4,n9,A0,simprocAttr,e0,n1,n2,n3,bp];refine V3 (by decide +kernel) (λi hi=>?_);simp only[ek9,en5,es4]at hi;rcases hi with rfl|rfl
   .simp only[fc,simprocAttr,bm,ap,G0];exact⟨ay,tt,tt,tt⟩
   .simp only[fc,simprocAttr,bm,ap,G0];exact⟨ay,tt,tt,tt⟩
  rintro f9 _ hk ⟨aZ,bZ,rfl⟩;simp only[em0,B8,simprocAttr]at hk;obtain⟨j0,j8,cv,_⟩:=hk;have bS:=(aA.more ag).more (o6.drew n);have cO:=s2.sum.few hr hw;obtain⟨p1,hS,v',dh,be,p2,p3,bT,p4,af,av⟩:=bS.pushS (⟨l,v,3⟩:Eg) (by show B.length<=_;omega) (e:=49);have o1:∀K f d c,F8 prog (λj=>p6 (A5 o.vS) n.drew j) (Instr.loadAt 49 (.pointer (some ⟨g,4,none⟩))) K f d c=K (C5 f d o.vS) c:=λK f d c=>B7 (w0:=n.drew) (p6.refl _) hS;have U:E2 (D0 n (hN g r D o)) (i5 n.drew):=p7 (B4 n _) (b7 (o6.drew n));have bo:=L8.eg_v (SV.ofN (i5 H.drew) (⟨l,v,3⟩:Eg)) a4;have o2:=bo.2 (λj=>p6 (A5 o.vS) n.drew j) n.drew (p6.refl _) λj h=>G4 U h λb G=>G1 (.inr ⟨4,G⟩);have bM:=bo.1 be (G4 U af λb G=>by
   rcases G with G|G
   .exact G1 (.inr ⟨0,G⟩)
   .exact G1 (.inr ⟨4,G⟩))
  rw[e0]at j0;simp only[fc,simprocAttr,aZ,bZ,a9];refine C0 (λj=>p6 (A5 o.vS) n.drew j) 8 (A7 [0,1,2,3,4,5,6,7]) ?_;simp only[D7,A7,i4,n9,simprocAttr,j0,aZ,o1,o2,p1,p2,G0];refine⟨p6.up (o6.alloc _ _),p4,?_⟩;simp only[i4,simprocAttr,j0,aZ,p3,bM];refine y4 (cJ4 bT rfl ((b9 p).we++B) rfl rfl h0 (by show(b9 p).wv.length<=_;omega) (by rw[ej2];omega) ⟨l,v,3⟩) ?_;rintro _ aM ⟨u1,u2,az,aT,Q⟩;have cd:l.kind=5:=by rw[<-ad]
  have b1:F≠m:=λh=>by
   rw[h,aK]at an;rw[<-el4 an]at cd;omega
  have cS:w.heap.size<=z.drew.heap.size:=aE.size;have cT:z.drew.heap.size<=H.drew.heap.size:=(au.trans (p6.up (o6.drew H))).size;have co:H.drew.heap.size<=n.drew.heap.size:=(ag.trans (o6.drew n)).size;have cR:D<z.drew.heap.size:=s5.has.lt;have O:∀i,¬V5 g r {o with vS:=v'} i D:=λi h=>by
   rcases av i D h with h|h
   .exact s2.off i h
   .omega
  have aw:∀i b,V5 g r {o with vS:=v'} i b->V5 g r x i b\/w.heap.size<=b:=λi b h=>by
   rcases av i b h with h|h
   .exact W i b h
   .exact .inr om
  have cQ:C.length<=B.length:=by
   cases y with
   | false=>rw[ah rfl];exact ek6 _
   | true=>exact Nat.le_of_lt (aj rfl)
  have bC:(⟨l,v,3⟩:Eg)∈(b9 p).sums:=by
   obtain⟨xe,cs,A⟩:=bG _ (⟨l,v,3⟩:Eg) bF ⟨rfl,v,by simpa using ao,by rw[ad];exact a7,by rw[ad]⟩;refine bW0 s2.sum.le ⟨m,vo,(al:Int),vi,aK,cf,bL9 (λe A=>?_) bI,by simpa using ba,cc,xe,em4 _ cs,A⟩;rcases ej9.1 A with h|h
   .exact em4 _ h
   .exact en7 _ (E e h)
  have ci:p6 (hN g r D x) w H.drew:=aE.trans ((au.weaken λb _ G=>.inl G).trans (p6.up (o6.drew H)));have cj:p6 (hN g r D x) w n.drew:=ci.trans (p6.up (ag.trans (o6.drew n)));have bu:p6 (hN g r D x) w be:=cj.chain af λb G h=>by
   rcases h with h|h
   .exact .inr ⟨0,(W 0 b h).resolve_right om⟩
   .exact .inr ⟨4,(W 4 b h).resolve_right om⟩
  have ck:p6 (hN g r D x) w aM:=bu.chain aT λb G h=>by
   rcases h with h|h
   .exact .inr ⟨5,(aw 5 b h).resolve_right om⟩
   .exact .inr ⟨6,(aw 6 b h).resolve_right om⟩
  obtain⟨ac,bd,bc,az,Q⟩:∃ac:WX,ac.vV=x.vV/\ac.un[m]?=some u0/\WS w1 aM g r ab vP ac (wcC p (B++[⟨l,v,3⟩]) (B++[⟨l,v,3⟩]))/\∀i b,V5 g r ac i b->V5 g r {o with vS:=v'} i b\/be.heap.size<=b:=by
   refine⟨{o with vS:=v',un:=o.un.set (D6 (b9 p).wv l) u1,up:=o.up.set (D6 (b9 p).wv v) u2},I,?_,by unfold wcC;rw[<-el9];exact az,Q⟩;show(o.un.set (D6 (b9 p).wv l) u1)[m]?=some u0;rw[aG,es2 b1];exact ak
  have aF:au6 cx9 aM D (bh7 (b9 p).wv (B++[⟨l,v,3⟩])):=by
   have e:bh7 (b9 p).wv (B++[⟨l,v,3⟩])=bh7 (b9 p).wv B++[(((F:Int),(T:Int)),.bool true)]:=by
    unfold bh7;rw[em6,en8,List.map_nil,aG,aH]
   rw[e];refine((a8.mod ((o6.drew H).trans (ag.trans (o6.drew n))) id).mod af λh=>?_).mod aT λh=>?_
   .rcases h with h|h
    .exact s2.off 0 h
    .exact s2.off 4 h
   .rcases h with h|h
    .exact O 5 h
    .exact O 6 h
  have b2:HS p w1 aM g r ab vP D ac (B++[⟨l,v,3⟩]):=⟨az,aF,s2.ge,λi h=>by
   rcases Q i D h with h|h
   .exact O i h
   .have:=af.size;omega,⟨by
   rw[eo0];refine⟨s2.sum.nd,dP,λa ha b G=>?_⟩;simp only[ek5]at G;subst G;rintro rfl;exact bv ha,λe A=>by
   rcases ej9.1 A with h|h
   .exact s2.sum.le e h
   .simp only[ek5]at h;subst h;exact bC⟩⟩
  simp only[eH,simprocAttr,cv,Y];have b4:row.length-(k+1)<row.length-k:=om
  have b5:IntKind.i64.wrap ((k:Int)+1)=((k+1:Nat):Int):=J2 k;have b6:k+1<=row.length:=om
  have b8:C.length<(B++[(⟨l,v,3⟩:Eg)]).length:=by rw[ej2,em3];omega
  have cb:=L (B++[⟨l,v,3⟩]) (λe h=>em4 _ h) (λe A=>by rw[(a6 e A).2];exact en7 _ (ek5.2 rfl));refine⟨((k+1,true),(ac,B++[⟨l,v,3⟩])),b4,by rw[b5],(by first|exact True.intro|rfl),b6,b2,bc,λe A=>em4 _ (E e A),λh=>Bool.noConfusion h,λ_=>b8,cb,ck,λi b h=>?_,bd⟩;rcases Q i b h with h|h
  .exact aw i b h
  .exact .inr (ej7 bu.size h)
def dc0(a b:Int):C1 prog THp [(0,.int .i64 a),(1,.int .i64 b)]=some (.agg #[.int .i64 a,.int .i64 b]):=by
 simp[C1,THp,dK8,K7,Instr.fill,Value.cells]
def bh8(b a:B3)(k:Int):Vx:=if k=3 then⟨b,3,0,a⟩else⟨b,1,0,e0⟩
section
variable {p:Pg} {w1 w0 w:World} {g r gc rs:Nat} {ab:Addr} {vP vs vt:Value} {x:WX} {c:WC} {S:List Bool} {H T:List (Nat×Nat)}
def dj6{a b:Nat}{k:Int}{d e:Vx}(f:(b9 p).wv[a]?=some d)(c:(b9 p).wv[b]?=some e)(h:(b9 p).hopOf ⟨d,e,k⟩=[]):bd1 p H a ((b:Int),k)=[]:=by
 unfold bd1 au7;rw[f,el5,c];simp only[h,List.filter_nil]
def co7{a b:Nat}{k:Int}{d e:Vx}{q:Nat×Nat}(f:(b9 p).wv[a]?=some d)(c:(b9 p).wv[b]?=some e)(h:(b9 p).hopOf ⟨d,e,k⟩=[q]):bd1 p H a ((b:Int),k)=if q∈H then[]else[q]:=by
 unfold bd1 au7;rw[f,el5,c];simp only[h];by_cases hm:q∈H<;>simp[hm]
def dh5(s0:WS w1 w0 g r ab vP x c)(hV:c.V=(b9 p).wv)(aU:c.kv=at3 (b9 p).wv)(hb:At (i5 w1) ab (b9 p))(hR:D4 p=true)(hw:C4 p<=1000000)(s:CS w0 w g gc rs vs vt S H T){a b:Nat}(k:Int){J t:Vx}(ha:(b9 p).wv[a]?=some J)(I:(b9 p).wv[b]?=some t)(hT:T.length<=900000000000):
  y5 prog 152 #[.pointer (some ⟨gc,0,none⟩),.int .i64 a,.agg #[.int .i64 b,.int .i64 k]] w λ_ l=>(∃af,CS w0 l g gc rs vs af S (H++bd1 p H a ((b:Int),k)) (T++bd1 p H a ((b:Int),k))/\p6 (cN gc rs vs vt) w l/\E7 w vt af):=by
 refine z6 [.pointer (some ⟨gc,0,none⟩),.int .i64 a,.agg #[.int .i64 b,.int .i64 k]] func152 rfl ?_;have hr:=E9 hR;have bC:A6.sz Vx=4:=rfl;have bp:a<(b9 p).wv.length:=(ej5.1 ha).1;have bq:b<(b9 p).wv.length:=(ej5.1 I).1;have bB:=el0 I;obtain⟨d,y,bs,a4,ap⟩:bM5 218 (.agg #[.int .i64 b,.int .i64 k]) w (((b:Int),k):Int×Int):=bN2 (SV.ofN (i5 w) (((b:Int),k):Int×Int)) (n7 _);have sa:=s.more a4;have aD:o6 w y.drew:=a4.trans (o6.drew y);have sd:=s.more aD;have bh:=s0.more sd.ext;have aJ:R (i5 y.drew) x.vV (b9 p).wv:=by rw[<-hV];exact bh.rV
 have k1:∀K f d e,F8 prog (λl=>o6 y.drew l) (Instr.loadAt 35 (.pointer (some ⟨g,2,none⟩))) K f d e=K (C5 f d x.vV) e:=λK f d e=>B7 (w0:=y.drew) (p6.refl _) λl h=>(bh.more h).ld (u:=x.vV) rfl Y6;have k2:∀K f d' e,F8 prog (λl=>o6 y.drew l) (Instr.loadAt 3 (.pointer (some d))) K f d' e=K (C5 f d' (.int .i64 b)) e:=λK f d' e=>B7 (w0:=y.drew) (p6.refl _) λl h=>(ap.ip l (b7 ((o6.drew y).trans h))).1;have k3:∀K f d e,F8 prog (λl=>o6 y.drew l) (Instr.loadAt 27 (.pointer (some (G8 x.vV (b*4))))) K f d e=K (C5 f d (.agg (p8.cells t).toArray)) e:=λK f d e=>B7 (w0:=y.drew) (p6.refl _) λl h=>bO2 aJ (b7 h) I;obtain⟨d7,cC,A,aL,C,a5,bz,O⟩:=dr0 (P:=prog) (w:=y.drew) (N:=λ_=>False) (T:=27) (SV.ofN (i5 y.drew) t) (λb hb=>hb.elim) aV1 rfl P5;simp only[eH,simprocAttr,bs,sa.ld (i:=0) (u:=.pointer (some ⟨g,0,none⟩)) rfl dF4];refine C0 (λl=>o6 y.drew l) 9 (A7 [0,1,2,3,4,5,6,7,8]) ?_;simp only[D7,A7,i4,n9,A0,simprocAttr,k1,k2,k3,aJ.inS bq,aL,G0];refine⟨a5,?_⟩;have F:=bz.trans (o6.drew A);have s7:=sd.more F;have aG:=s0.more s7.ext;have aI:R (i5 A.drew) x.vV (b9 p).wv:=by rw[<-hV];exact aG.rV
 have Q:=aI.at_ ha;rw[bC]at Q;have m1:=(L8.vx (SV.ofN (i5 y.drew) t) O).2 (λl=>o6 A.drew l) A.drew (p6.refl _) λl h=>p7 (B4 _ _) (b7 ((o6.drew A).trans h));have m2:∀K f d e,F8 prog (λl=>o6 A.drew l) (Instr.loadAt 35 (.pointer (some ⟨g,2,none⟩))) K f d e=K (C5 f d x.vV) e:=λK f d e=>B7 (w0:=A.drew) (p6.refl _) λl h=>(aG.more h).ld (u:=x.vV) rfl Y6;have m3:=Q.vx.2 (λl=>o6 A.drew l) A.drew (p6.refl _) λl h=>b7 h;have aj:=aI.inS bp;have al:∀{l:World},o6 A.drew l->(b9 p).hopOf ⟨J,t,k⟩=[]->∃af,CS w0 l g gc rs vs af S (H++bd1 p H a ((b:Int),k)) (T++bd1 p H a ((b:Int),k))/\p6 (cN gc rs vs vt) w l/\E7 w vt af:=λhx h=>by
  rw[dj6 ha I h,em5,em5];exact⟨vt,s7.more hx,p6.up ((aD.trans F).trans hx),λb hb=>.inl hb⟩
 rcases ej1 (decide (t.kind=6))with q1|q1;rotate_left
 .simp only[i4,simprocAttr,C];refine C0 (λl=>o6 A.drew l) 23 (A7 [0,1,2,3,4,5,6,7,8,9,10,11,12,13,14,15,16,17,18,19,20,21,22]) ?_;simp only[D7,A7,i4,n9,simprocAttr,m1,q1];refine cL2 results152 (al (p6.refl _) ?_);unfold Bk.hopOf;rw[if_neg λh=>ej6 q1 h.1]
 rcases ej1 (decide (t.id=J.id))with q2|q2;rotate_left
 .simp only[i4,simprocAttr,C];refine C0 (λl=>o6 A.drew l) 23 (A7 [0,1,2,3,4,5,6,7,8,9,10,11,12,13,14,15,16,17,18,19,20,21,22]) ?_;simp only[D7,A7,i4,n9,A0,simprocAttr,m1,m2,m3,aj,q1,q2];refine cL2 results152 (al (p6.refl _) ?_);unfold Bk.hopOf;rw[if_neg λh=>ej6 q2 h.2.1]
 have aC:=ej3 q1;have av:=ej3 q2;obtain⟨i,hi,_,cj,bv⟩:=aK4 hr.toKnown bB;have bf:=as0 hr.may hw hi bv (.inr (.inr aC));obtain⟨xx,pt⟩:=K9 hr.may hw i hi;have aR:=pt.ids _ bf.mem;rw[bf.id]at aR;have bY:=pt.ok.len;have bV:=J8 hr.may;obtain⟨j,hj⟩:∃j:Nat,t.id=(j:Int)+1:=⟨(t.id-1).toNat,om⟩;have aB:j<(d9 p).l.length:=om
 have bx:IntKind.i64.wrap ((j:Int)+1-1)=(j:Int):=by rw[M7 _ om];omega
 have aw:(b9 p).s.it t.id=(d9 p).l[j]:=by
  show(d9 p).it t.id=_;unfold Sh.it;rw[hj,show((j:Int)+1-1).toNat=j by omega,List.getD,ej0 aB];rfl
 have V:=bO5 (c:=c) aG hb hr hw (id:=t.id) om om;rcases ej1 ((b9 p).isCall t.id)with q3|q3;rotate_left
 .simp only[i4,simprocAttr,C];refine C0 (λl=>o6 A.drew l) 23 (A7 [0,1,2,3,4,5,6,7,8,9,10,11,12,13,14,15,16,17,18,19,20,21,22]) ?_;simp only[D7,A7,i4,n9,A0,simprocAttr,m1,m2,m3,aj,q1,q2];refine B6 V (λv ac=>⟨ac,?_⟩);simp only[fd,simprocAttr,q3];refine cL2 results152 (al ac ?_);unfold Bk.hopOf;rw[if_neg λh=>by have:=h.2.2;rw[q3]at this;cases this]
 simp only[i4,simprocAttr,C];refine C0 (λl=>o6 A.drew l) 23 (A7 [0,1,2,3,4,5,6,7,8,9,10,11,12,13,14,15,16,17,18,19,20,21,22]) ?_;simp only[D7,A7,i4,n9,A0,simprocAttr,m1,m2,m3,aj,q1,q2];refine B6 V (λv ac=>⟨ac,?_⟩);have G:=ac.trans (o6.drew v);have s8:=s7.more G;have bg:=s0.more s8.ext;obtain⟨sh,_,_,_,_,_,has,_,_,_,_,_,_,bM⟩:=hb.book rfl;obtain⟨vl,_,_,aY,_,_,_,_,bN⟩:=has.sh;have U:=aY.at_ (ej0 aB);have a6:A6.sz It=17:=rfl;rw[a6]at U;have aS:=aY.inS aB;generalize(d9 p).l[j]=it at U aw;obtain⟨aN,_,_⟩:=U.it;obtain⟨_,_,_,_,_,_,_,_,_,_,be⟩:=aN.st;generalize bt:it.s.proc=z at be;have az:∀l,o6 v.drew l->E2 (i5 w1) (i5 l):=λl h=>p7 bg.base (b7 h);have n0:∀K f d e,F8 prog (λl=>o6 v.drew l) (Instr.loadAt 87 (.pointer (some ⟨g,0,none⟩))) K f d e=K (C5 f d (.pointer (some ab))) e:=λK f d e=>B7 (w0:=v.drew) (p6.refl _) λl h=>(bg.more h).ld rfl aU9;have n1:=bM (λl=>o6 v.drew l) v.drew (p6.refl _) az;have n2:=bN (λl=>o6 v.drew l) v.drew (p6.refl _) az;have n3:=be (λl=>o6 v.drew l) v.drew (p6.refl _) az;have n4:=(L8.vx (SV.ofN (i5 y.drew) t) O).2 (λl=>o6 v.drew l) v.drew (p6.refl _) λl h=>p7 (B4 _ _) (b7 (((o6.drew A).trans G).trans h));have bw:IntKind.i64.wrap (t.id-1)=(j:Int):=by rw[hj];exact bx
 simp only[fd,simprocAttr,q3];refine C0 (λl=>o6 v.drew l) 18 (A7 [0,1,2,3,4,5,6,7,8,9,10,11,12,13,14,15,16,17]) ?_;simp only[D7,A7,i4,n9,A0,simprocAttr,n0,n1,n2,n3,n4,bw,aS];obtain⟨cD,ao,W⟩:=dD7 v.drew ⟨z,1,0,e0⟩;have ad:=o6.alloc v.drew (.cells (p8.cells (⟨z,1,0,e0⟩:Vx)).toArray 27);have ah:=em9 v.drew (.cells (p8.cells (⟨z,1,0,e0⟩:Vx)).toArray 27);generalize v.drew.alloc (.cells (p8.cells (⟨z,1,0,e0⟩:Vx)).toArray 27)=w9 at W ad ah;generalize aQ:v.drew.heap.size=c9 at ao W ah;have s9:=s8.more ad;have bT:=s0.more s9.ext;have aa:=G.trans ad;have lk:=ap.ip w9 (b7 (((o6.drew y).trans F).trans aa));have lI:=Q.vx.1 w9 (b7 aa);have l2:=bT.ld (i:=2) (u:=x.vV) rfl Y6;simp only[cY6,n9,simprocAttr,bP9,ao,W,lk];refine bT0 [0,6,7,8,9] (λf' l=>(k=3\/k=1)/\o6 v.drew l/\l.heap[c9]?=some (.cells (p8.cells (bh8 z J.slot k)).toArray TVx (0,0))) ?_ ?_
 .rcases ej1 (decide (k=3))with k3'|k3'
  .obtain⟨n,bO,bP,bQ⟩:=dW1 ah ⟨z,3,0,J.slot⟩;have br:=bo6 z 3 J.slot;simp only[i4,n9,A0,simprocAttr,k3',l2,aj,lI,br,bO];refine⟨.inl (ej3 k3'),p6.ext_of ad bQ λb hb=>by rw[hb,aQ];exact ek6 _,?_⟩;unfold bh8;rw[if_pos (ej3 k3')];exact bP
  .rcases ej1 (decide (k=1))with k1'|k1'
   .simp only[eH,simprocAttr,k3',k1',lk];refine⟨.inr (ej3 k1'),ad,?_⟩;unfold bh8;rw[if_neg (ej6 k3')];exact ah
   .simp only[eH,simprocAttr,k3',k1',lk];refine cL2 results152 (al aa ?_);unfold Bk.hopOf;rw[if_pos ⟨aC,av,q3⟩,if_neg (ej6 k3'),if_neg (ej6 k1')]
 rintro ca n ak ⟨aT,aZ,B⟩;simp only[em0,B8,↓reduceIte,Nat.reduceEqDiff]at ak;obtain⟨g0,g6,g7,g8,g9,_⟩:=ak;have Y:=aZ.trans (o6.drew n);have E:=G.trans Y;have aF:=s8.more Y;have ag:=s0.more aF.ext;have B:n.drew.heap[c9]?=some (.cells (p8.cells (bh8 z J.slot k)).toArray TVx (0,0)):=B;have aV:c9<n.drew.heap.size:=(ej4.1 B).1;obtain⟨q,hq⟩:∃q:Nat×Nat,q=(D6 (b9 p).wv (bh8 z J.slot k),D6 (b9 p).wv ⟨z,4,0,t.slot⟩):=⟨_,rfl⟩;have aW:(b9 p).hopOf ⟨J,t,k⟩=[q]:=by
  unfold Bk.hopOf;rw[if_pos ⟨aC,av,q3⟩];simp only[aw,bt];rw[hq];unfold bh8;rcases aT with h|h
  .rw[if_pos h,if_pos h]
  .rw[if_neg om,if_pos h,if_neg om]
 have bE:∀K f d e,F8 prog (λl=>o6 n.drew l) (Instr.lookup 88 (.map (some r)) (.agg (p8.cells (bh8 z J.slot k)).toArray) false) K f d e=K (C5 f d (.int .i64 q.1)) e:=λK f d e=>B7 (w0:=n.drew) (p6.refl _) λl h=>by
  have:=(ag.more h).look (bh8 z J.slot k);rw[aU,bH0]at this;rw[hq];exact this
 have a8:∀K f d e,F8 prog (λl=>o6 n.drew l) (Instr.lookup 88 (.map (some r)) (.agg (p8.cells (⟨z,4,0,t.slot⟩:Vx)).toArray) false) K f d e=K (C5 f d (.int .i64 q.2)) e:=λK f d e=>B7 (w0:=n.drew) (p6.refl _) λl h=>by
  have:=(ag.more h).look ⟨z,4,0,t.slot⟩;rw[aU,bH0]at this;rw[hq];exact this
 have o5:∀K f d e,F8 prog (λl=>o6 n.drew l) (Instr.loadAt 88 (.pointer (some ⟨g,5,none⟩))) K f d e=K (C5 f d (.map (some r))) e:=λK f d e=>B7 (w0:=n.drew) (p6.refl _) λl h=>(ag.more h).ld rfl bW3;have o9:∀K f d e,F8 prog (λl=>o6 n.drew l) (Instr.loadAt 27 (.pointer (some ⟨c9,0,none⟩))) K f d e=K (C5 f d (.agg (p8.cells (bh8 z J.slot k)).toArray)) e:=λK f d e=>B7 (w0:=n.drew) (p6.refl _) λl h=>dR9 ((h.block c9 aV id).trans B);have o7:=(L8.vx (SV.ofN (i5 y.drew) t) O).2 (λl=>o6 n.drew l) n.drew (p6.refl _) λl h=>p7 (B4 _ _) (b7 (((o6.drew A).trans E).trans h));have aP:=bo6 z 4 t.slot;have aA:=dc0 (q.1:Int) (q.2:Int);obtain⟨dh,bi,m,M,X,ae,a0,aM⟩:=dr0 (P:=prog) (w:=n.drew) (N:=cN gc rs vs vt) (T:=THp) (SV.ofN (i5 n.drew) (bp7 q)) (λb hb=>aF.lt hb) dp6 rfl bt6;have X:(Instr.storeAt THp (.pointer (some dh)) (.agg #[.int .i64 q.1,.int .i64 q.2])).run prog bi = .ok () m:=X;simp only[i4,simprocAttr];refine bg5 [0] (λl=>o6 n.drew l) 17 (.op 0 (.op 1 (.op 2 (.op 3 (.op 4 (.op 5 (.op 6 (.op 7 (.op 8 (.op 9 (.op 10 (.op 11 (.op 12 (.fork [13,16] (λi=>if i=13 then(.op 14 (.fork [15,16] (λi=>if i=15 then(A7 [16])else(A7 [15]))))else(A7 [13,14,15]))))))))))))))))
  (λf' l=>f' 10 = .pointer (some dh)/\f' 98 = .agg #[.int .i64 q.1,.int .i64 q.2]/\l=bi) (by decide +kernel) (by decide +kernel) (p6.refl _) ?_ ?_
 .simp only[D7,A7,i4,n9,simprocAttr,g6,g7,g8,g9,o5,o9,bE,o7];refine V3 (by decide +kernel) (λi hi=>?_);simp only[ek9,en5,es4]at hi;rcases hi with rfl|rfl
  .simp only[fc,simprocAttr,aP,a8];refine V3 (by decide +kernel) (λi hi=>?_);simp only[ek9,en5,es4]at hi;rcases hi with rfl|rfl
   .simp only[fc,simprocAttr,aA,M,G0];exact⟨ae,tt,tt,tt⟩
   .simp only[fc,simprocAttr,aA,M,G0];exact⟨ae,tt,tt,tt⟩
  .simp only[fc,simprocAttr,aP,a8,aA,M,G0];exact⟨ae,tt,tt,tt⟩
 rintro cb _ ak ⟨L,bn,rfl⟩;have j0:=ak 0 dP;rw[g0]at j0;have Z:=a0.trans (o6.drew m);have am:=aF.more Z;have hH:=L8.whole aM (SV.ofN (i5 n.drew) (bp7 q)) dn5 dp0 cE0 bt6;have aq:E2 (D0 m (cN gc rs vs vt)) (i5 m.drew):=p7 (B4 _ _) (b7 (o6.drew m));have u2:∀K f d e,F8 prog (λl=>l=m.drew) (Instr.loadAt 144 (.pointer (some ⟨gc,2,none⟩))) K f d e=K (C5 f d (.map (some rs))) e:=λK f d e=>B7 (w0:=m.drew) rfl λl h=>by subst h;exact am.ld (i:=2) rfl dn4
 have u4:=hH.2 (λl=>l=m.drew) m.drew rfl λl h=>by subst h;exact aq
 have u5:∀K f d e,F8 prog (λl=>l=m.drew) (Instr.lookup 144 (.map (some rs)) (.agg (p8.cells (bp7 q)).toArray) false) K f d e=K (C5 f d (.bool (H.contains q))) e:=λK f d e=>B7 (w0:=m.drew) rfl λl h=>by subst h;exact am.look q
 have D:o6 w m.drew:=((aD.trans F).trans E).trans Z;simp only[fc,simprocAttr,L,bn,X];refine C0 (λl=>l=m.drew) 7 (A7 [0,1,2,3,4,5,6]) ?_;rcases ej1 (H.contains q)with hm|hm
 .simp only[D7,A7,i4,n9,simprocAttr,j0,L,u2,u4,u5,hm];refine bk5 results152 ?_;rw[co7 ha I aW,if_pos (ek7.1 hm),em5,em5];exact⟨vt,am,p6.up D,λb hb=>.inl hb⟩
 have ay:q∉H:=λh=>by rw[ek7.2 h]at hm;cases hm
 have bd:=am.more (o6.drew m.drew);have bS:∀K f d e,F8 prog (λl=>l=m.drew.drew) (Instr.loadAt 144 (.pointer (some ⟨gc,2,none⟩))) K f d e=K (C5 f d (.map (some rs))) e:=λK f d e=>B7 (w0:=m.drew.drew) rfl λl h=>by subst h;exact bd.ld (i:=2) rfl dn4
 have ar:=p7 aq (b7 (o6.drew m.drew));have v4:=hH.2 (λl=>l=m.drew.drew) m.drew.drew rfl λl h=>by subst h;exact ar
 obtain⟨o,aE,bI,a9⟩:=bd.see ay;have aE:(Instr.mapUpdate 144 (.map (some rs)) (.agg (p8.cells (bp7 q)).toArray) (.bool true)).run prog m.drew.drew = .ok () o:=aE;have an:=bI.more (o6.drew o);have aO:E2 (D0 m (cN gc rs vs vt)) (i5 o.drew):=G4 ar (a9.trans (p6.up (o6.drew o))) λb hb=>by subst hb;exact G1 (.inr (.inl rfl))
 obtain⟨a1,bR,cA,cB,a2,a3,bJ,bF,bb,ba⟩:=an.pushT q hT;have a1:(Instr.buildSlice 145 1 #[(0,.agg (p8.cells (bp7 q)).toArray)]).run prog o.drew = .ok (.slice (some ⟨o.drew.heap.size,0,none⟩) 1 1) (o.drew.alloc (.cells #[.int .i64 q.1,.int .i64 q.2] THp)):=a1;have x3:∀K f d e,F8 prog (λl=>p6 (A5 vt) o.drew l) (Instr.loadAt 145 (.pointer (some ⟨gc,3,none⟩))) K f d e=K (C5 f d vt) e:=λK f d e=>B7 (w0:=o.drew) (p6.refl _) λl h=>F4 (P:=prog) (u:=vt) (i:=3) ((h.block gc an.ltg λhb=>(an.dT gc hb).2.1 rfl).trans an.cb) rfl ce7;have x5:=hH.2 (λl=>p6 (A5 vt) o.drew l) o.drew (p6.refl _) λl h=>G4 aO h λb hb=>G1 (.inr (.inr (.inr hb)));simp only[D7,A7,i4,n9,simprocAttr,j0,L,u2,u4,u5,hm];refine C0 (λl=>l=m.drew.drew) 5 (A7 [0,1,2,3,4]) ?_;simp only[D7,A7,i4,n9,simprocAttr,j0,L,bS,v4,ax6,aE];refine C0 (λl=>p6 (A5 vt) o.drew l) 8 (A7 [0,1,2,3,4,5,6,7]) ?_;simp only[D7,A7,i4,n9,simprocAttr,j0,L,x3,x5,a1,a2,G0];refine⟨p6.up (o6.alloc _ _),ba,?_⟩;simp only[i4,simprocAttr,a3];refine bk5 results152 ?_;rw[co7 ha I aW,if_neg ay];have bA:o6 w m.drew.drew:=D.trans (o6.drew m.drew);have ax:p6 (cN gc rs vs vt) w o.drew:=(p6.up bA).trans ((a9.weaken λ_ _ h=>.inr (.inl h)).trans (p6.up (o6.drew o)));refine⟨bR,bJ,ax.trans bF,λb hb=>?_⟩;rcases bb b hb with h|h
 .exact .inl h
 .exact .inr (ej7 ax.size h)
end
def bB9(V:List Vx)(L C:List Eg)(o i:Nat):Prop:=∀(a:Vx),W1 (R3 V L [1,2,3]) (i:Int) (o:Int)->V[i]?=some a->a.kind=3->∀x∈L,∀e∈aA9 V o a.slot x,e∈C
def dv8{V:List Vx}{L C:List Eg}{o:Nat}(f:0<V.length)(h:∀i,i<V.length->bB9 V L C o i):bC0 V L C o:=λq e l i n j c d=>by
 have k:I9 V.length i=true:=by
  have m:=(ej5.1 e).1;have g:=(S9 f).1 j;have:=cf6 (ae4 (V:=V) (L:=L) (ks:=[1,2,3]) f) (a:=(o:Int)) (b:=i) (by rw[Z8];exact B5.2 ⟨om,om⟩) g;rw[Z8]at this;exact this
 obtain⟨g,p⟩:=B5.1 k;obtain⟨I,rfl⟩:∃I:Nat,i=(I:Int):=⟨i.toNat,om⟩;rw[el5]at c;exact h I om n j c d
def cO8{V:List Vx}{L:List Eg}{o i:Nat}(b:0<V.length)(k:o<V.length)(j:i<V.length):(I7 (Z7 V L [1,2,3]) (S8 V.length [(o:Int)]))[i]?=some true↔W1 (R3 V L [1,2,3]) (i:Int) (o:Int):=by
 have e:(I7 (Z7 V L [1,2,3]) (S8 V.length [(o:Int)])).length=V.length:=by rw[H8,E0]
 have h:z7 (I7 (Z7 V L [1,2,3]) (S8 V.length [(o:Int)])) (i:Int)=true↔W1 (R3 V L [1,2,3]) (i:Int) (o:Int):=by
  rw[M3 (ae4 b) (by rw[Z8,E0])];constructor
  .rintro⟨a,g,c⟩;obtain⟨_,d⟩:=an5.1 g;simp only[ek5]at d;subst d;exact(S9 b).2 c
  .intro c;exact⟨_,an5.2 ⟨B5.2 ⟨om,om⟩,dP⟩,(S9 b).1 c⟩
 rw[<-h];unfold z7;have f:I9 (I7 (Z7 V L [1,2,3]) (S8 V.length [(o:Int)])).length (i:Int)=true:=B5.2 ⟨om,by rw[e];omega⟩;rw[f,eq4,el5,List.getD_eq_getElem?_getD];rw[ej0 (by rw[e];exact j)];simp
def bf6{p:Pg}{w1 w:World}{g r:Nat}{ab:Addr}{vP:Value}{x:WX}(s:WS w1 w g r ab vP x (wcC p [] []))(hR:D4 p=true)(hw:C4 p<=1000000):
  y5 prog 52 #[.pointer (some ⟨g,0,none⟩)] w λu K=>(∃(x':WX) (C:List Eg),u = .pointer (some ⟨g,0,none⟩)/\WS w1 K g r ab vP x' (wcC p C (av2 C))/\bo0 p C/\(∀e,e∈C↔e∈(b9 p).sums)/\p6 (cf5 g r x) w K):=by
 refine z6 [.pointer (some ⟨g,0,none⟩)] func52 rfl ?_;have hr:=E9 hR;have h0:=O1 hr.toKnown;have hn:=ai3 hr hw;have cs:=bu2 hr hw;have bY:=λe (S:e∈(b9 p).we)=>cf7 hR hw S;have U:=λ(C:List Eg) (h:bo0 p C)=>h.few hr hw;have b0:A6.sz Vx=4:=rfl;obtain⟨aG,be,aK⟩:=au6.new (P:=prog) (enc:=cx9) w 141;have sI:bo0 p []:=⟨dP,λe S=>by cases S⟩;have am:HS p w1 (w.alloc (.map #[] 0)) g r ab vP w.heap.size x []:=⟨s.more aK,be,s.ext.size,λi h=>by have:=s.lt h;omega,sI⟩;generalize w.alloc (.map #[] 0)=wm at aG be aK am;generalize cr:w.heap.size=rh at am aG;have bT:∀C,bo0 p C->OkA (Z6 (b9 p).wv ((b9 p).we++C)).length (Z6 (b9 p).wv ((b9 p).we++C)):=λC h=>by
  rw[am1];refine cp1 h0 (λe S=>?_) (by rw[ej2];have:=U C h;omega);rcases ej9.1 S with d|d
  .exact bY e d
  .have:=(h.kind d).1;omega
 simp only[eH,simprocAttr,aB8,aG];refine A9 [0,3] (σ:=Bool×WX×List Eg) (λt f K=>f 4 = .bool t.1/\HS p w1 K g r ab vP rh t.2.1 t.2.2/\(t.1=false->∀o,o<(b9 p).wv.length->bC0 (b9 p).wv ((b9 p).we++t.2.2) t.2.2 o)/\p6 (cf5 g r x) w K/\(∀i b,V5 g r t.2.1 i b->V5 g r x i b\/w.heap.size<=b)) (λt=>2*(15840000-t.2.2.length)+if t.1 then 1 else 0) (true,x,[]) ?_ ?_
 .simp only[B8,simprocAttr];exact⟨tt,am,λh=>(by cases h),p6.up aK,λi b h=>.inl h⟩
 clear am sI;rintro⟨bt,x2,C⟩ f w2 ⟨e0,e3,_⟩ ⟨h4,M,z,aa,G⟩;simp only at h4 M z G;have co:=U C M.sum;cases bt with
 | false=>
  have J:=cX8 M.sum (z rfl);simp only[eH,simprocAttr,h4,e0,M.ws.ld (i:=4) (u:=x2.vS) rfl bm3];refine y4 (bb9 M.ws.oS (by show C.length<=_;omega) (M0 _)) ?_;rintro u3 w3 ⟨bS,bf,bL⟩;obtain⟨ct,a8,bO⟩:=cm2;obtain⟨w4,q1,s4,bQ⟩:=M.ws.putS bf bS (λb I=>.inl (bL b I)) a8 bO;simp only[eH,simprocAttr,q1,e0];exact o8 results52 ⟨_,C,rfl,s4,M.sum,J,(aa.chain bf λb I h=>⟨4,(G 4 b h).resolve_right om⟩).chain bQ λb I h=>⟨0,h⟩⟩
 | true=>
 have l2:=M.ws.ld (i:=2) (u:=x2.vV) rfl Y6;have bR:vlen x2.vV=(b9 p).wv.length:=M.ws.oV.vlen;simp only[eH,simprocAttr,h4,e0,l2,M.ws.oV.isS,bR];refine A9 [0,3,15,16] (σ:=(Nat×Bool)×(WX×List Eg)) (λt f K=>f 17 = .int .i64 t.1.1/\f 4 = .bool t.1.2/\t.1.1<=(b9 p).wv.length/\HS p w1 K g r ab vP rh t.2.1 t.2.2/\t.2.1.vV=x2.vV/\(t.1.2=false->t.2.2=C/\∀o,o<t.1.1->bC0 (b9 p).wv ((b9 p).we++C) C o)/\(t.1.2=true->C.length<t.2.2.length)/\p6 (cf5 g r x) w K/\(∀i b,V5 g r t.2.1 i b->V5 g r x i b\/w.heap.size<=b)) (λt=>(b9 p).wv.length-t.1.1) ((0,false),(x2,C)) ?_ ?_
 .simp only[B8,simprocAttr];exact⟨tt,tt,ek1 _,M,(by first|exact True.intro|rfl),λ_=>⟨(by first|exact True.intro|rfl),λo ho=>om⟩,λh=>(by cases h),aa,G⟩
 clear M l2 z aa G;rintro⟨⟨o,mo⟩,x3,j⟩ f3 w3 ⟨g0,g3,aB,aX,_⟩ ⟨N,ah,bU,s3,an,B,Z,E,n⟩;simp only at N ah bU s3 an B Z n;rw[e0]at g0;rw[e3]at g3;simp only[eH,simprocAttr,N,aX];refine A3 (λak=>?_) ?_;rotate_left
 .rintro rfl;have ca:=U j s3.sum;simp only[i4,simprocAttr,ah];refine⟨(mo,x3,j),?_,tt,s3,λh=>?_,E,n⟩
  .simp only[];cases mo with
   | false=>rw[(B rfl).1];simp
   | true=>
    have:=Z rfl;simp only[ep4];omega
  .obtain⟨rfl,J⟩:=B h;exact J
 have al:(b9 p).wv[o]?=some (b9 p).wv[o]:=ej0 ak;have a0:R (i5 w3) x2.vV (b9 p).wv:=by rw[<-an];exact s3.ws.rV
 have a7:=a0.inS ak;have aE:=bO2 a0 (n7 _) al;generalize bX:(b9 p).wv[o]=vo at al aE;clear bX;obtain⟨d6,cx,w4,a4,bm,ao,bK⟩:=aF6 (w:=w3) (λ_=>False) (SV.ofN (i5 w3) vo) λb I=>I.elim;have lk:=(L8.vx (SV.ofN (i5 w3) vo) bK).1 w4 (B4 _ _);have s4:=s3.more ao;have aw:bC0 (b9 p).wv ((b9 p).we++C) C o->mo=false->j=C/\∀o',o'<o+1->bC0 (b9 p).wv ((b9 p).we++C) C o':=λJ h=>⟨(B h).1,λo' cq=>by
  rcases en2 o' o with d|d
  .exact(B h).2 o' d
  .obtain rfl:o'=o:=om
   exact J⟩
 rcases ej1 (decide (vo.kind=4))with h4k|h4k;rotate_left
 .have J:bC0 (b9 p).wv ((b9 p).we++C) C o:=λv d h2=>by
   rw[al]at d;rw[<-el4 d]at h2;exact absurd h2 (ej6 h4k)
  simp only[i4,n9,A0,simprocAttr,N,ah,aB,a7,aE,a4,bm,lk,h4k];exact nx4 ((o+1,mo),(x3,j)) ⟨s4,an,aw J,Z,E.trans (p6.up ao),n⟩
 have bP:=ej3 h4k;simp only[i4,n9,A0,simprocAttr,N,g0,aB,a7,aE,a4,bm,lk,h4k];refine y4 (bn4 s4.ws o ak (bT j s4.sum) am1 (by show(b9 p).wv.length<=_;omega)) ?_;rintro ua w5 ⟨l,aJ⟩;have l:B0 (i5 w4) w5 4 ua (I7 (ad4 (Z6 (b9 p).wv ((b9 p).we++j)) [1,2,3]) (S8 (b9 p).wv.length [(o:Int)])):=l;rw[bT1]at l;have au:=λi hi=>cO8 (L:=(b9 p).we++j) h0 ak (i:=i) hi;have ar:(I7 (Z7 (b9 p).wv ((b9 p).we++j) [1,2,3]) (S8 (b9 p).wv.length [(o:Int)])).length=(b9 p).wv.length:=by rw[H8,E0]
 generalize I7 (Z7 (b9 p).wv ((b9 p).we++j) [1,2,3]) (S8 (b9 p).wv.length [(o:Int)])=A at l au ar;have s5:=s4.more aJ;have bV:∀b,A5 ua b->w4.heap.size<=b/\b<w5.heap.size:=λb I=>⟨C9 (l.free I),l.lt I⟩;have aZ:∀b,hN g r rh x3 b->b<w4.heap.size:=λb I=>s4.lt I;have aH:w.heap.size<=w5.heap.size:=ej7 E.size (ao.trans aJ).size;have bJ:=l.isS;have bh:=l.vlen;have bk:B0 hZ w5 4 ua A:=l.down (M0 _);have aY:C.length<=j.length:=by
  cases mo with
  | false=>rw[(B rfl).1];exact ek6 _
  | true=>exact Nat.le_of_lt (Z rfl)
 rw[ar]at bh;simp only[eH,simprocAttr,bJ,bh];refine E8 [0,3,5,15,16,17,28,29] (σ:=(Nat×Bool)×(WX×List Eg)) (λt f K=>f 30 = .int .i64 t.1.1/\f 4 = .bool t.1.2/\t.1.1<=(b9 p).wv.length/\HS p w1 K g r ab vP rh t.2.1 t.2.2/\t.2.1.vV=x2.vV/\B0 hZ K 4 ua A/\w5.heap.size<=K.heap.size/\(∀i b,V5 g r t.2.1 i b->V5 g r x3 i b\/w5.heap.size<=b) /\
  (∀e∈j,e∈t.2.2)/\j.length<=t.2.2.length/\(t.1.2=false->t.2.2=j/\mo=false)/\(t.1.2=true->C.length<t.2.2.length)/\(∀i,i<t.1.1->bB9 (b9 p).wv ((b9 p).we++j) t.2.2 o i)/\p6 (cf5 g r x) w K) (λt=>(b9 p).wv.length-t.1.1) ((0,mo),(x3,j)) ?_ ?_
 .simp only[B8,simprocAttr];exact⟨tt,ah,ek1 _,s5,an,bk,ek6 _,λi b h=>.inl h,λ_ h=>h,ek6 _,λh=>⟨(by first|exact True.intro|rfl),h⟩,Z,λi hi=>om,E.trans (p6.up (ao.trans aJ))⟩
 rintro⟨⟨i,m⟩,x6,C6⟩ f6 w6 hk ⟨y,O,bN,s6,q,ac,H,c,a,k,T,ae,aC,F⟩;simp only at y O bN s6 q c a k T ae aC;simp only[em0,B8,simprocAttr]at hk;obtain⟨j0,j3,j5,b2,b3,bq,aL,b4,_⟩:=hk;rw[g0]at j0;rw[g3]at j3;rw[aB]at b2;rw[aX]at b3;rw[N]at bq;have bi:∀b,A5 ua b->¬hN g r rh x6 b:=λb I h=>by
  obtain⟨d,h2⟩:=bV b I;rcases h with h|⟨i,h⟩
  .have:=aZ b (.inl h);omega
  .rcases c i b h with h|h
   .have:=aZ b (.inr ⟨i,h⟩);omega
   .omega
 simp only[eH,simprocAttr,y,b4];refine A3 (λY=>?_) ?_;rotate_left
 .rintro rfl;simp only[eH,simprocAttr,bq,O];refine nx4 ((o+1,m),(x6,C6)) ⟨s6,q,λh=>?_,ae,F,λi b h=>?_⟩
  .obtain⟨rfl,bg⟩:=T h;obtain⟨rfl,_⟩:=B bg;exact aw (dv8 h0 aC) bg
  .rcases c i b h with h|h
   .exact n i b h
   .exact .inr (ej7 aH h)
 have X:i<A.length:=om
 have W:=ac.inS X;have D:(Instr.loadAt 4 (.pointer (some (G8 ua i)))).run prog w6 = .ok (.bool A[i]) w6:=E1 (P:=prog) ac (ej0 X) ai9;have aj:=au i Y;rw[ej0 X]at aj;generalize A[i]=ai at D aj;have aD:∀C',(∀e∈C6,e∈C')->bB9 (b9 p).wv ((b9 p).we++j) C' o i->∀i',i'<i+1->bB9 (b9 p).wv ((b9 p).we++j) C' o i':=λC' d h2 i' cp=>by
  rcases en2 i' i with h|h
  .intro vi a1 a2 a3 xe hx e S;exact d e (aC i' h vi a1 a2 a3 xe hx e S)
  .obtain rfl:i'=i:=om
   exact h2
 rcases ej1 ai with d|d<;>subst d;rotate_left
 .have J:bB9 (b9 p).wv ((b9 p).we++j) C6 o i:=λvi aI=>by
   have:=aj.2 aI;simp at this
  simp only[i4,n9,A0,simprocAttr,y,O,aL,W,D];exact nx4 ((i+1,m),(x6,C6)) ⟨s6,q,ac,H,c,a,k,T,ae,aD C6 (λ_ h=>h) J,F⟩
 have bp:=aj.1 rfl;have V:(b9 p).wv[i]?=some (b9 p).wv[i]:=ej0 Y;have aq:R (i5 w6) x2.vV (b9 p).wv:=by rw[<-q];exact s6.ws.rV
 have br:=s6.ws.ld (i:=2) (u:=x2.vV) (by rw[<-q];rfl) Y6;have av:=aq.inS Y;have Q:=aq.at_ V;rw[b0]at Q;generalize bW:(b9 p).wv[i]=vi at V Q;clear bW;have bs:=Q.vx.1 w6 (n7 _);rcases ej1 (decide (vi.kind=3))with h3k|h3k;rotate_left
 .have J:bB9 (b9 p).wv ((b9 p).we++j) C6 o i:=λv aI d h2=>by
   rw[V]at d;rw[<-el4 d]at h2;exact absurd h2 (ej6 h3k)
  simp only[i4,n9,A0,simprocAttr,y,O,j0,aL,W,D,br,av,bs,h3k];exact nx4 ((i+1,m),(x6,C6)) ⟨s6,q,ac,H,c,a,k,T,ae,aD C6 (λ_ h=>h) J,F⟩
 simp only[i4,n9,A0,simprocAttr,y,j0,j3,j5,aL,W,D,br,av,bs,h3k];refine y4 (dg1 s6 hR hw i o V (ej3 h3k) al bP (bL9 (λe S=>?_) bp)) ?_
 .rcases ej9.1 S with h|h
  .exact em4 _ h
  .exact en7 _ (a e h)
 rintro _ w7 ⟨mh,x7,C7,rfl,s7,ad,a6,bn,bM,aF,bl,bo⟩;have bj:=ac.mod aF bi;have bc:C6.length<=C7.length:=by
  cases mh with
  | false=>rw[a6 rfl];exact ek6 _
  | true=>exact Nat.le_of_lt (bn rfl)
 have J:bB9 (b9 p).wv ((b9 p).we++j) C7 o i:=λv aI d h2 xe hx e S=>by
  rw[V]at d;obtain rfl:=el4 d;refine bM xe ?_ e S;rcases ej9.1 hx with h|h
  .exact em4 _ h
  .exact en7 _ (a xe h)
 have az:w5.heap.size<=w7.heap.size:=ej7 H aF.size;have ay:∀i b,V5 g r x7 i b->V5 g r x3 i b\/w5.heap.size<=b:=λi b h=>by
  rcases bl i b h with h|h
  .exact c i b h
  .exact .inr (ej7 H h)
 have a5:=aD C7 ad J;have ax:p6 (cf5 g r x) w w7:=F.chain aF λb I h=>by
  rcases h with h|⟨i,h⟩
  .omega
  .exact⟨i,(n i b ((c i b h).resolve_right om)).resolve_right om⟩
 have a9:(b9 p).wv.length-(i+1)<(b9 p).wv.length-i:=om
 have ba:IntKind.i64.wrap ((i:Int)+1)=((i+1:Nat):Int):=J2 i;have bb:i+1<=(b9 p).wv.length:=om
 cases mh with
 | true=>
  have bd:=bn rfl;simp only[eH,simprocAttr,y];exact⟨((i+1,true),(x7,C7)),a9,by rw[ba],(by first|exact True.intro|rfl),bb,s7,bo.trans q,bj,az,ay,λe h=>ad e (a e h),ej7 k bc,λh=>Bool.noConfusion h,λ_=>Nat.lt_of_le_of_lt (ej7 aY k) bd,a5,ax⟩
 | false=>
  obtain rfl:=a6 rfl;simp only[eH,simprocAttr,y,O];exact⟨((i+1,m),(x7,C7)),a9,by rw[ba],(by first|exact True.intro|rfl),bb,s7,bo.trans q,bj,az,ay,a,k,T,ae,a5,ax⟩
def aG1(x:Option Addr):D1 prog .eql 83 (.pointer x) (.pointer none)=some (.bool x.isNone):=bg2 rfl kr
def cK6(x:Option Addr):D1 prog .neq 83 (.pointer x) (.pointer none)=some (.bool (!x.isNone)):=by
 have h:eqT prog 83=2:=kr
 cases x<;>simp[D1,h]
theorem bM0(p:Pg):(⟨(b9 p).wv,(b9 p).we,[],at3 (b9 p).wv,Z4 (b9 p).wv ((b9 p).we++[]),Z6 (b9 p).wv ((b9 p).we++[])⟩:WC)=wcC p [] []:=rfl
section
variable {p:Pg}
def R9(v:Value)(w:World)(hv:SV (i5 w) v p)(hw:C4 p<=1000000):
  y5 prog 17 #[v] w λu k=>(R (i5 k) u (if D4 p then(b9 p).wv else[])/\o6 w k):=by
 refine z6 [v] func17 rfl ?_;obtain⟨c,m,e,j,b⟩:=U2 hv (n7 _);obtain⟨z,f,d,_⟩:=b.pg_v;simp only[eH,simprocAttr,e,d m (n7 _)];refine y4 (az9 z p m f hw) ?_;rintro u l ⟨o,q,h⟩;have a:=j.trans h;cases hR:D4 p
 .obtain rfl:=o hR;simp only[eH,simprocAttr,cK6];exact o8 results17 ⟨(B0.nil (i5 l) l 0).rw_ (n7 _),a⟩
 obtain⟨C,g,r,A,B,x,rfl,y,n,t,s⟩:=q hR;simp only[eH,simprocAttr,cK6,s.ld (i:=2) (u:=x.vV) rfl Y6];exact o8 results17 ⟨s.rV,a⟩
def aq3(b:D4 p=true)(hw:C4 p<=1000000){C:List Eg}(a:∀e,e∈C↔e∈(b9 p).sums){ks:List Int}{S:List Bool}(hS:S.length=(b9 p).wv.length):I7 (ad4 (Z6 (b9 p).wv ((b9 p).we++C)) ks) S=I7 (Z7 (b9 p).wv (b9 p).all ks) S:=by
 rw[bT1];exact(bD9 (O1 (E9 b).toKnown) (λe=>by unfold Bk.all;rw[ej9,ej9,a]) hS).1
def aq2(b:D4 p=true)(hw:C4 p<=1000000){C:List Eg}(a:∀e,e∈C↔e∈(b9 p).sums){ks:List Int}{S:List Bool}(hS:S.length=(b9 p).wv.length):I7 (ad4 (Z4 (b9 p).wv ((b9 p).we++C)) ks) S=I7 (R3 (b9 p).wv (b9 p).all ks) S:=by
 rw[cT6];exact(bD9 (O1 (E9 b).toKnown) (λe=>by unfold Bk.all;rw[ej9,ej9,a]) hS).2
def bj3(d:D4 p=true)(hw:C4 p<=1000000){C:List Eg}(h:bo0 p C):OkA (Z6 (b9 p).wv ((b9 p).we++C)).length (Z6 (b9 p).wv ((b9 p).we++C))/\OkA (Z4 (b9 p).wv ((b9 p).we++C)).length (Z4 (b9 p).wv ((b9 p).we++C)):=by
 have b:=E9 d;have c:=O1 b.toKnown;have f:∀e∈(b9 p).we++C,1<=e.kind/\e.kind<=6:=λe i=>by
  rcases ej9.1 i with a|a
  .exact cf7 d hw a
  .have:=(h.kind a).1;omega
 have g:((b9 p).we++C).length<=1000000000:=by
  have:=bu2 b hw;have:=h.few b hw;rw[ej2];omega
 rw[am1,al9];exact⟨cp1 c f g,dk4 c f g⟩
def bB1(b:D4 p=true){vs:List Vx}{l:List Int}(h:O3 (b9 p).wv vs=some l):(∀a∈l,I9 (b9 p).wv.length a=true)/\l.length=vs.length:=by
 obtain⟨_,rfl⟩:=bj2 h;refine⟨λa c=>?_,dP⟩;obtain⟨v,_,rfl⟩:=el2.1 c;exact au9 (O1 (E9 b).toKnown) v
end
def aL1{l:List Bool}{k:Nat}(h:k<l.length):z7 l (k:Int)=l[k]:=by
 have a:I9 l.length (k:Int)=true:=B5.2 ⟨om,om⟩;rw[(N1 a).2,el5,List.getD,ej0 h];rfl
section
variable {p:Pg} {w1 w0 w:World} {g r gc rs:Nat} {ab:Addr} {vP vs vt:Value} {x:WX} {c:WC} {S X Y:List Bool} {H T H0 T0:List (Nat×Nat)}
def InA(N:List (List (Int×Int)))(a:Nat)(t:Int×Int):Prop:=∃b,N[a]?=some b/\t∈b
def BwJ.size(K:Known p){done:Nat->Int×Int->Prop}(j:BwJ p X Y H0 T0 H T done)(e:∀h∈H0,h∈aR7 (b9 p).wv.length)(i:T0.length<=H0.length):(∀h∈H,h∈aR7 (b9 p).wv.length)/\T.length<=H.length/\H.length<=(b9 p).wv.length*(b9 p).wv.length:=by
 have b:∀h∈H,h∈aR7 (b9 p).wv.length:=λh g=>by
  rcases j.le h g with b|⟨a,t,_,_,_,f⟩
  .exact e h b
  .exact aX1.2 (cP0 K f)
 obtain⟨D,c,d⟩:=j.new;refine⟨b,?_,?_⟩
 .rw[c,d,ej2,ej2];omega
 .have:=I5 j.nd b
  rwa [bo4]at this
def ci5{v:Value}{b:Nat}(hv:E7 w vt v)(hb:b<w.heap.size)(h:cN gc rs vs v b):cN gc rs vs vt b:=by
 rcases h with h|h|h|h
 .exact .inl h
 .exact .inr (.inl h)
 .exact .inr (.inr (.inl h))
 .rcases hv b h with h|h
  .exact .inr (.inr (.inr h))
  .omega
def aR9(s0:WS w1 w0 g r ab vP x c)(hV:c.V=(b9 p).wv)(bd:c.kv=at3 (b9 p).wv)(hA:OkA c.N.length c.N)(a6:c.N.length=(b9 p).wv.length)(hb:At (i5 w1) ab (b9 p))(hR:D4 p=true)(hw:C4 p<=1000000)(s:CS w0 w g gc rs vs vt S H0 T0){vX vY:Value}
  (hX:R (D0 w (cN gc rs vs vt)) vX X) (hY:R (D0 w (cN gc rs vs vt)) vY Y) (b5:X.length=(b9 p).wv.length) (b8:Y.length=(b9 p).wv.length) (b4:S.length=(b9 p).wv.length) (hn:H0.Nodup) (h0:∀h∈H0,h∈aR7 (b9 p).wv.length) (a9:T0.length<=H0.length) :
  y5 prog 93 #[.pointer (some ⟨gc,0,none⟩),vX,vY] w λ_ y=>(∃(aP:Value) (S':List Bool) (H T:List (Nat×Nat)),CS w0 y g gc rs vs aP S' H T/\BwJ p X Y H0 T0 H T (InA c.N)/\S'.length=S.length/\(∀v,v<(b9 p).wv.length->(z7 S' (v:Int)=true↔z7 S (v:Int)=true\/(z7 X (v:Int)=true/\z7 Y (v:Int)=true)))/\p6 (cN gc rs vs vt) w y/\E7 w vt aP):=by
 refine z6 [.pointer (some ⟨gc,0,none⟩),vX,vY] func93 rfl ?_;have hr:=E9 hR;have K:=hr.toKnown;have ag:=ai3 hr hw;have ce:(b9 p).wv.length*(b9 p).wv.length<=480000*480000:=Nat.mul_le_mul ag ag;have aI:R (i5 w0) x.vn c.N:=s0.rn.roK (M0 _) λb hb=>rfl;have sw:=s0.more s.ext;have aG:=s0.oV.vlen;rw[hV]at aG;simp only[eH,simprocAttr,s.ld (i:=0) (u:=.pointer (some ⟨g,0,none⟩)) rfl dF4,sw.ld (i:=2) (u:=x.vV) rfl Y6,sw.oV.isS,aG];refine A9 [0,1,2,6,18] (σ:=(Nat×Value)×(List Bool×List (Nat×Nat)×List (Nat×Nat))) (λt f y=>f 19 = .int .i64 t.1.1/\t.1.1<=(b9 p).wv.length/\CS w0 y g gc rs vs t.1.2 t.2.1 t.2.2.1 t.2.2.2/\BwJ p X Y H0 T0 t.2.2.1 t.2.2.2 (λa u=>a<t.1.1/\InA c.N a u)/\t.2.1.length=S.length /\
  (∀v,v<(b9 p).wv.length->(z7 t.2.1 (v:Int)=true↔z7 S (v:Int)=true\/(v<t.1.1/\z7 X (v:Int)=true/\z7 Y (v:Int)=true)))/\p6 (cN gc rs vs vt) w y/\E7 w vt t.1.2) (λt=>(b9 p).wv.length-t.1.1) ((0,vt),(S,H0,T0)) ?_ ?_
 .simp only[B8,simprocAttr];exact⟨tt,ek1 _,s,⟨⟨[],dP,dP⟩,λh hh=>.inl hh,hn,λa t hd=>by have:=hd.1;omega⟩,(by first|exact True.intro|rfl),λv hv=>dP,p6.refl _,λb hb=>.inl hb⟩
 rintro⟨⟨k,v3⟩,Q,H3,T3⟩ f C ⟨e0,e1,e2,e6,a0,_⟩ ⟨G,bc,s3,j3,W,J,Z,ac⟩;simp only at G bc s3 j3 W J ac;simp only[eH,simprocAttr,G,a0];refine A3 (λbf=>?_) ?_;rotate_left
 .rintro rfl;simp only[i4,simprocAttr];refine bk5 results93 ?_;refine⟨v3,Q,H3,T3,s3,j3.skip (λb u h=>h.2) (λb u h _ _=>⟨?_,h⟩),W,λv hv=>?_,Z,ac⟩
  .obtain⟨E,n,_⟩:=h;rw[<-a6];exact(ej5.1 n).1
  .rw[J v hv];simp[hv]
 have an:k<X.length:=om
 have ap:k<Y.length:=om
 have U:k<Q.length:=om
 have V:k<c.N.length:=om
 have ad:E2 (D0 w (cN gc rs vs vt)) (i5 C):=G4 (B4 _ _) Z λb hb=>G1 hb;have aj:=hX.inS an;have au:(Instr.loadAt 4 (.pointer (some (G8 vX k)))).run prog C = .ok (.bool X[k]) C:=O4 (P:=prog) (t:=4) hX ad (ej0 an) ai9;have bX:=aL1 an;generalize X[k]=xk at au bX;rcases ej1 xk with n|n<;>subst n;rotate_left
 .simp only[i4,n9,A0,simprocAttr,G,e1,aj,au];refine V1 ((k+1,v3),(Q,H3,T3)) ⟨s3,j3.skip (λb u h=>⟨Nat.lt_succ_of_lt h.1,h.2⟩) (λb u h hx _=>⟨?_,h.2⟩),W,λv hv=>?_,Z,ac⟩
  .rcases en2 b k with F|F
   .exact F
   .obtain rfl:b=k:=Nat.le_antisymm (Nat.le_of_lt_succ h.1) F;rw[bX]at hx;cases hx
  .rw[J v hv];refine or_congr_right ⟨λ⟨n,m⟩=>⟨Nat.lt_succ_of_lt n,m⟩,λ⟨n,m,h3⟩=>⟨?_,m,h3⟩⟩;rcases en2 v k with F|F
   .exact F
   .obtain rfl:v=k:=Nat.le_antisymm (Nat.le_of_lt_succ n) F;rw[bX]at m;cases m
 have s4:=s3.more (o6.drew C);have aB:=p7 ad (b7 (o6.drew C));have L:=s3.oS.inS U;have aE:=hY.inS ap;have bY:=aL1 ap;have bS:=aL1 U;have k1:∀K f d o,F8 prog (λy=>y=C.drew) (Instr.loadAt 95 (.pointer (some ⟨gc,1,none⟩))) K f d o=K (C5 f d vs) o:=λK f d o=>B7 (w0:=C.drew) rfl λy h=>by subst h;exact s4.ld (i:=1) (u:=vs) rfl aK0
 have k2:∀K f d o,F8 prog (λy=>y=C.drew) (Instr.loadAt 4 (.pointer (some (G8 vs k)))) K f d o=K (C5 f d (.bool Q[k])) o:=λK f d o=>B7 (w0:=C.drew) rfl λy h=>by subst h;exact E1 (P:=prog) s4.oS (ej0 U) ai9
 have k3:∀K f d o,F8 prog (λy=>y=C.drew) (Instr.loadAt 4 (.pointer (some (G8 vY k)))) K f d o=K (C5 f d (.bool Y[k])) o:=λK f d o=>B7 (w0:=C.drew) rfl λy h=>by subst h;exact O4 (P:=prog) (t:=4) hY aB (ej0 ap) ai9
 generalize Q[k]=sk at k2 bS;generalize Y[k]=yk at k3 bY;obtain⟨w5,br,s5,m5⟩:=s4.setS U (sk||yk);have bs:=s0.more s5.ext;have bg:p6 (cN gc rs vs vt) w w5:=(Z.trans (p6.up (o6.drew C))).trans (m5.weaken λ_ _ h=>.inr (.inr (.inl h)));have a8:∀e:Int,z7 (Q.set k (sk||yk)) e=if e=(k:Int)then(sk||yk)else z7 Q e:=λe=>by
  have:=M9 (l:=Q) (a:=(k:Int)) (b:=e) (v:=(sk||yk)) (B5.2 ⟨om,om⟩);rw[el5]at this;exact this
 obtain⟨uR,N,ba⟩:=R.row aI (ej0 V);have M:=ej0 V;have aD:=aI.inS V;have be:=J7 (P:=prog) (t:=216) ba (b7 s5.ext) bL0;obtain⟨bi,aH⟩:=hA _ (ek0 V);generalize c.N[k]=E at N bi aH M;have a7:=N.isS;have bh:=N.vlen;simp only[i4,n9,A0,simprocAttr,G,e1,aj,au];refine bg5 [0,1,2,6,7,18,19] (λy=>y=C.drew) 18 (A7 [0,1,2,3,4,5,6,7,8,9,10,11,12,13,14,15,16,17]) (λf' y=>f' 30=vs/\f' 31 = .int .i64 (k:Int)/\f' 44 = .bool (sk||yk)/\y=C.drew) (by decide +kernel) (by decide +kernel) rfl ?_ ?_
 .rcases ej1 sk with q|q<;>subst q
  .simp only[D7,A7,i4,n9,A0,simprocAttr,e0,k1,k2,L];exact⟨tt,tt,tt,tt⟩
  .simp only[D7,A7,i4,n9,A0,simprocAttr,e0,e2,k1,k2,k3,L,aE];exact⟨tt,tt,tt,tt⟩
 rintro f5 _ aF ⟨a2,a3,a4,rfl⟩;simp only[em0,B8,↓reduceIte,Nat.reduceEqDiff]at aF;obtain⟨g0,g1,g2,g6,g7,b0,aA,_⟩:=aF;rw[e0]at g0;rw[e2]at g2;rw[e6]at g6;rw[G]at aA;simp only[D7,i4,n9,A0,simprocAttr,a2,a3,a4,g6,g7,L,br,bs.ld (i:=6) (u:=x.vn) rfl aF5,aD,be,a7,bh];refine A9 [0,2,7,19,52,53] (σ:=(Nat×Value)×(List (Nat×Nat)×List (Nat×Nat))) (λt f y=>f 54 = .int .i64 t.1.1/\t.1.1<=E.length/\CS w0 y g gc rs vs t.1.2 (Q.set k (sk||yk)) t.2.1 t.2.2/\BwJ p X Y H0 T0 t.2.1 t.2.2 (λa u=>(a<k/\InA c.N a u)\/(a=k/\u∈E.take t.1.1))/\p6 (cN gc rs vs vt) w y/\E7 w vt t.1.2) (λt=>E.length-t.1.1) ((0,v3),(H3,T3)) ?_ ?_
 .simp only[B8,simprocAttr];exact⟨tt,ek1 _,s5,j3.skip (λb u h=>.inl h) (λb u h _ _=>h.elim id λh=>by have:=h.2;simp at this),bg,ac⟩
 rintro⟨⟨j,v6⟩,H6,T6⟩ f6 w6 ⟨r0,r2,r7,aK,aL,bo,_⟩ ⟨I,bb,s6,b6,m6,O⟩;simp only at I bb s6 b6 O;rw[g0]at r0;rw[g2]at r2;rw[g7]at r7;rw[aA]at aK;simp only[eH,simprocAttr,I,bo];refine A3 (λA=>?_) ?_;rotate_left
 .rintro rfl;rw[ek4]at b6;simp only[eH,simprocAttr,aK];refine V1 ((k+1,v6),(Q.set k (sk||yk),H6,T6)) ⟨s6,b6.skip (λb u h=>?_) (λb u h _ _=>?_),by simp only[eq3];exact W,λv hv=>?_,m6,O⟩
  .rcases h with h|⟨rfl,h⟩
   .exact⟨Nat.lt_succ_of_lt h.1,h.2⟩
   .exact⟨Nat.lt_succ_self _,E,M,h⟩
  .rcases en2 b k with F|F
   .exact .inl ⟨F,h.2⟩
   .obtain rfl:b=k:=Nat.le_antisymm (Nat.le_of_lt_succ h.1) F;obtain⟨bQ,n,m⟩:=h.2;rw[M]at n;obtain rfl:=el4 n;exact .inr ⟨rfl,m⟩
  .simp only[a8];by_cases hvk:v=k
   .subst hvk;rw[if_pos rfl,eu2,<-bS,<-bY,J v hv];constructor
    .rintro((h|h)|h)
     .exact .inl h
     .exact .inr ⟨Nat.lt_succ_self _,h.2⟩
     .exact .inr ⟨Nat.lt_succ_self _,bX,h⟩
    .rintro(h|h)
     .exact .inl (.inl h)
     .exact .inr h.2.2
   .rw[if_neg om,J v hv];exact or_congr_right ⟨λ⟨n,m⟩=>⟨Nat.lt_succ_of_lt n,m⟩,λ⟨n,m⟩=>⟨by have:=Nat.le_of_lt_succ n;omega,m⟩⟩
 have ak:=N.inS A;have z:=di0 N (b7 s6.ext) (ej0 A);obtain⟨aq,_,_⟩:=aH _ (ek0 A);have aa:=ej8 A;generalize E[j]=t at z aq aa;obtain⟨d,q⟩:=t;simp only at z aq;obtain⟨cb,cc⟩:=B5.1 aq;obtain⟨D,rfl⟩:∃D:Nat,d=(D:Int):=⟨d.toNat,om⟩;obtain⟨da,bu,w7,ae,B,aJ,af⟩:=bA2 (P:=prog) (w:=w6) (T:=218) (SV.ofN (i5 w6) (((D:Int),q):Int×Int)) (n7 _) dq0 rfl cf0;have B:(Instr.storeAt 218 (.pointer (some da)) (.agg #[.int .i64 (D:Int),.int .i64 q])).run prog bu = .ok () w7:=B;have s7:=s6.more aJ;have m7:p6 (cN gc rs vs vt) w w7:=m6.trans (p6.up aJ);have lk:=af.ip w7 (n7 _);have bm:=af.ipv dn8 dp3 cE3 cf0 w7 (n7 _);have aC:E2 (D0 w (cN gc rs vs vt)) (i5 w7):=G4 (B4 _ _) m7 λb hb=>G1 hb;have a5:D<(b9 p).wv.length:=om
 have ao:D<Y.length:=om
 have ah:=hY.inS ao;have ar:(Instr.loadAt 4 (.pointer (some (G8 vY D)))).run prog w7 = .ok (.bool Y[D]) w7:=O4 (P:=prog) (t:=4) hY aC (ej0 ao) ai9;have bD:=aL1 ao;generalize Y[D]=yd at ar bD;rcases ej1 yd with n|n<;>subst n;rotate_left
 .simp only[i4,n9,A0,simprocAttr,I,r2,aL,ak,z,ae,B,lk,ah,ar];refine V1 ((j+1,v6),(H6,T6)) ⟨s7,b6.skip (λb u h=>h.imp id λh=>⟨h.1,?_⟩) (λb u h _ hy=>h.imp id λh=>⟨h.1,?_⟩),m7,O⟩
  .simp only[aa];exact em4 _ h.2
  .have m:=h.2;simp only[aa]at m;rcases ej9.1 m with m|m
   .exact m
   .rw[ek5.1 m]at hy;rw[bD]at hy;cases hy
 have cf:=b6.size K h0 a9;simp only[i4,n9,A0,simprocAttr,I,r0,r2,r7,aL,ak,z,ae,B,lk,bm,ah,ar];refine y4 (dh5 s0 hV bd hb hR hw s7 q (ej0 bf) (ej0 a5) om) ?_;rintro _ w8 ⟨v8,s8,m8,bj⟩;simp only[eH,simprocAttr,I];refine V1 ((j+1,v8),(H6++bd1 p H6 k ((D:Int),q),T6++bd1 p H6 k ((D:Int),q))) ⟨s8,b6.keep bX bD λb u=>?_,m7.chain m8 λb hb h=>ci5 O hb h,λb hb=>?_⟩
 .simp only[aa,ej9,ek5];constructor
  .rintro(h|⟨n,m|m⟩)
   .exact .inl (.inl h)
   .exact .inl (.inr ⟨n,m⟩)
   .exact .inr ⟨n,m⟩
  .rintro((h|⟨n,m⟩)|⟨n,m⟩)
   .exact .inl h
   .exact .inr ⟨n,.inl m⟩
   .exact .inr ⟨n,.inr m⟩
 .rcases bj b hb with h|h
  .exact O b h
  .exact .inr (ej7 m7.size h)
end
def db4(g b:Nat)(vs:Value)(hS:isS vs=true):C1 prog TCh [(0,.pointer (some ⟨g,0,none⟩)),(1,vs),(2,.map (some b))]=some (.agg #[.pointer (some ⟨g,0,none⟩),vs,.map (some b),.slice none 0 0]):=by
 have c:∀a,(Value.pointer a).cells=#[.pointer a]:=λ_=>rfl;have d:(Value.map (some b)).cells=#[.map (some b)]:=rfl;simp[C1,TCh,dK7,K7,Instr.fill,F7 hS,c,d]
def CS.start{w a:World}{vs:Value}{S:List Bool}(g:Nat)(k:o6 w a)(c:B0 hZ a 4 vs S)(h:∀b,A5 vs b->w.heap.size<=b)(t:TypeId):(Instr.makeMap t none).run prog a = .ok (.map (some a.heap.size)) (a.alloc (.map #[] 0)) /\
  (Instr.box TCh (.agg #[.pointer (some ⟨g,0,none⟩),vs,.map (some a.heap.size),.slice none 0 0])).run prog (a.alloc (.map #[] 0)) = .ok (.pointer (some ⟨a.heap.size+1,0,none⟩)) ((a.alloc (.map #[] 0)).alloc (.cells #[.pointer (some ⟨g,0,none⟩),vs,.map (some a.heap.size),.slice none 0 0] TCh)) /\
  CS w ((a.alloc (.map #[] 0)).alloc (.cells #[.pointer (some ⟨g,0,none⟩),vs,.map (some a.heap.size),.slice none 0 0] TCh)) g (a.heap.size+1) a.heap.size vs (.slice none 0 0) S [] []:=by
 obtain⟨n,o,l⟩:=au6.new (P:=prog) (enc:=de4) a t;have i:(a.alloc (.map #[] 0)).heap.size=a.heap.size+1:=dP
 have f:(Instr.box TCh (.agg #[.pointer (some ⟨g,0,none⟩),vs,.map (some a.heap.size),.slice none 0 0])).run prog (a.alloc (.map #[] 0)) = .ok (.pointer (some ⟨(a.alloc (.map #[] 0)).heap.size,0,none⟩)) ((a.alloc (.map #[] 0)).alloc (.cells #[.pointer (some ⟨g,0,none⟩),vs,.map (some a.heap.size),.slice none 0 0] TCh)):=rfl;rw[i]at f;have d:=o6.alloc (a.alloc (.map #[] 0)) (.cells #[.pointer (some ⟨g,0,none⟩),vs,.map (some a.heap.size),.slice none 0 0] TCh);have j:=em9 (a.alloc (.map #[] 0)) (.cells #[.pointer (some ⟨g,0,none⟩),vs,.map (some a.heap.size),.slice none 0 0] TCh);rw[i]at j;have m:=k.size;exact⟨n,f,(k.trans l).trans d,j,c.ext (l.trans d),o.mod d id,B0.nil _ _ _,⟨om,om,om⟩,λb e=>⟨h b e,by have:=c.lt e;omega,by have:=c.lt e;omega,D8⟩,λb e=>absurd e D8⟩
def L8.atI{h:Hp}{a:Addr}{x:Int×Int}(b:L8 h a (.agg (p8.cells x).toArray)):At h a x:=by
 obtain⟨d,e,c⟩:=b;obtain rfl:=aj2 e;exact⟨_,(p8.iff_ _ _ _).2 rfl,c⟩
def dG7{p:Pg}(b:D4 p=true)(hw:C4 p<=1000000):∀e∈(b9 p).all,e.src∈(b9 p).wv/\e.dst∈(b9 p).wv:=λe a=>by
 unfold Bk.all at a;rcases ej9.1 a with h|h
 .exact bz4 b hw h
 .have:=bm2 h;exact⟨this.2.1,this.2.2.1⟩
def ChJ.start{p:Pg}{k l:List Int}{i b:List Bool}{f a j:List (Nat×Nat)}(K:Known p)(e:a=j)(hn:a.Nodup)(o:∀h,h∈f↔h∈([]:List (Nat×Nat))\/h∈aI1 (b9 p) ((b9 p).first k) ((b9 p).before l))(q:∀h,h∈a↔h∈f\/h∈aI1 (b9 p) ((b9 p).thenB k) ((b9 p).last l))(s:b.length=(b9 p).wv.length)
  (t:∀v,v<(b9 p).wv.length->(z7 i (v:Int)=true↔z7 (List.replicate (b9 p).wv.length false) (v:Int)=true\/(z7 ((b9 p).first k) (v:Int)=true/\z7 ((b9 p).before l) (v:Int)=true))) (u:∀v,v<(b9 p).wv.length->(z7 b (v:Int)=true↔z7 i (v:Int)=true\/(z7 ((b9 p).thenB k) (v:Int)=true/\z7 ((b9 p).last l) (v:Int)=true))) :
  ChJ p k l b a j []:=by
 have m:∀h,h∈a↔h∈(b9 p).hops0 k l:=λh=>by
  rw[q,o];unfold Bk.hops0;rw[List.mem_eraseDups,ej9];simp
 refine⟨s,hn,λh=>by rw[e];simp,λh c=>(m h).2 c,λg r=>(by cases r),λh c=>(Y8 K k l).1 h ((m h).1 c),λv d=>?_⟩;have n:z7 (List.replicate (b9 p).wv.length false) (v:Int)=false:=by
  rw[aL1 (by simpa using d)];simp
 rw[u v d,t v d,n];simp
section
variable {p:Pg} {w1 w:World} {g r:Nat} {ab:Addr} {vP:Value} {x:WX}
def cZ3{C:List Eg}(s:WS w1 w g r ab vP x (wcC p C (av2 C)))(aE:At (i5 w1) ab (b9 p))(Z:D4 p=true)(hw:C4 p<=1000000)(bn:bo0 p C)(hC:∀e,e∈C↔e∈(b9 p).sums){vk vl:Value}{k l:List Int}(ch:R (i5 w) vk k)(ci:R (i5 w) vl l)
  (hk:∀a∈k,I9 (b9 p).wv.length a=true) (hl:∀a∈l,I9 (b9 p).wv.length a=true) (bS:k.length<=1000000000) (bX:l.length<=1000000000) :
  y5 prog 53 #[.pointer (some ⟨g,0,none⟩),vk,vl] w λu m=>(B0 (i5 w) m 4 u ((b9 p).chopB k l)/\o6 w m):=by
 refine z6 [.pointer (some ⟨g,0,none⟩),vk,vl] func53 rfl ?_;have hr:=E9 Z;have K:=hr.toKnown;have ax:=ai3 hr hw;have hE:=dG7 Z hw;have db:(b9 p).wv.length*(b9 p).wv.length<=480000*480000:=Nat.mul_le_mul ax ax;obtain⟨aD,V⟩:=bj3 Z hw bn;have ca:vlen x.vV=(b9 p).wv.length:=s.oV.vlen;obtain⟨vs,w2,bZ,bl,cj,cb,_⟩:=mk (P:=prog) (w:=w) (h:=hZ) (α:=Bool) bl6 V4 (y:=false) rfl (n:=(b9 p).wv.length) om om (M0 _);obtain⟨mm,mb,sc⟩:=CS.start g cj bl cb 144;have a7:=db4 g w2.heap.size vs bl.isS;generalize(w2.alloc (.map #[] 0)).alloc (.cells #[.pointer (some ⟨g,0,none⟩),vs,.map (some w2.heap.size),.slice none 0 0] TCh)=wc at mb sc;generalize c8:w2.heap.size+1=gc at mb sc;generalize dc:w2.heap.size=rs at mm mb sc a7;simp only[eH,simprocAttr,s.ld (i:=2) (u:=x.vV) rfl Y6,s.oV.isS,ca,bZ,aB8,mm,a7,mb];have sw:=s.more sc.ext;refine y4 (aq1 sw vk k (A6.mono (b7 sc.ext) ch) hk (by show(b9 p).wv.length<=_;omega) bS) ?_;rintro u1 w3 ⟨aI,aK⟩;obtain⟨v4,w4,bU,cc,aL,bP⟩:=lit (P:=prog) (w:=w3) (h:=hZ) (α:=Int) (xs:=[.int .i64 1,.int .i64 2,.int .i64 3,.int .i64 6]) (ys:=[1,2,3,6]) (parts:=#[(0,.int .i64 1),(1,.int .i64 2),(2,.int .i64 3),(3,.int .i64 6)]) (n:=4) W3 rfl (G9.2 rfl) (by simp[Value.cells]) rfl rfl dP dP (M0 _);simp only[eH,simprocAttr,(sw.more aK).ld (i:=6) (u:=x.vn) rfl aF5,bU];refine y4 (ar8 ((sw.more (aK.trans aL)).rn) (λb c=>sw.lt (i:=5) c) (aI.ext aL) (aK.trans aL) cc (λb c I=>by have:=aI.lt I;have:=bP b c;omega) V (by rw[E0];exact al9) (by rw[E0];show(b9 p).wv.length<=_;omega) dP dP) ?_;rintro _ w5 ⟨E,_,ah⟩;dsimp only[wcC]at E;rw[aq2 Z hw hC E0]at E;have E:B0 (i5 wc) w5 4 u1 ((b9 p).first k):=E;have s5:=sw.more ah;simp only[i4,simprocAttr];refine y4 (aq1 s5 vl l (A6.mono (b7 (sc.ext.trans ah)) ci) hl (by show(b9 p).wv.length<=_;omega) bX) ?_;rintro u6 w6 ⟨aJ,aM⟩;obtain⟨v7,w7,bW,cd,aN,bR⟩:=lit (P:=prog) (w:=w6) (h:=hZ) (α:=Int) (xs:=[.int .i64 1,.int .i64 2,.int .i64 3,.int .i64 4,.int .i64 5]) (ys:=[1,2,3,4,5]) (parts:=#[(0,.int .i64 1),(1,.int .i64 2),(2,.int .i64 3),(3,.int .i64 4),(4,.int .i64 5)]) (n:=5) W3 rfl (G9.2 rfl) (by simp[Value.cells]) rfl rfl dP dP (M0 _);simp only[eH,simprocAttr,(s5.more aM).ld (i:=7) (u:=x.vp) rfl aF5,bW];refine y4 (ar8 ((s5.more (aM.trans aN)).rp) (λb c=>s5.lt (i:=6) c) (aJ.ext aN) (aM.trans aN) cd (λb c I=>by have:=aJ.lt I;have:=bR b c;omega) aD (by rw[E0];exact am1) (by rw[E0];show(b9 p).wv.length<=_;omega) dP dP) ?_;rintro _ w8 ⟨F,_,M⟩;dsimp only[wcC]at F;rw[aq3 Z hw hC E0]at F;have F:B0 (i5 w5) w8 4 u6 ((b9 p).last l):=F;have s8:=s5.more M;have J:((b9 p).first k).length=(b9 p).wv.length:=bR7;have o:((b9 p).last l).length=(b9 p).wv.length:=cn0;obtain⟨u9,w9,p9,aq,bY,dg⟩:=ae6 (P:=prog) (t:=95) (e:=95) bl6 (B0.nil (i5 w8) w8 4) ((E.ext M).rw_ (b7 (ah.trans M))) (n7 _) (by rw[J];simp;omega) (by rw[J];simp;omega) (n7 _);rw[er6]at aq;have aO:o6 w8 w9:=bY.weaken λ_ _ h=>absurd h D8;obtain⟨du,dx,be,bj,ad,a8⟩:=lit (P:=prog) (w:=w9) (h:=hZ) (α:=Int) (xs:=[.int .i64 1,.int .i64 2,.int .i64 3,.int .i64 4,.int .i64 5]) (ys:=[1,2,3,4,5]) (parts:=#[(0,.int .i64 1),(1,.int .i64 2),(2,.int .i64 3),(3,.int .i64 4),(4,.int .i64 5)]) (n:=5) W3 rfl (G9.2 rfl) (by simp[Value.cells]) rfl rfl dP dP (M0 _);simp only[eH,simprocAttr,p9,(s8.more aO).ld (i:=6) (u:=x.vn) rfl aF5,be];refine y4 (ar8 ((s8.more (aO.trans ad)).rn) (λb c=>s8.lt (i:=5) c) (aq.ext ad) (aO.trans ad) bj (λb c I=>by have:=aq.lt I;have:=a8 b c;omega) V (by rw[J];exact al9) (by rw[J];omega) dP dP) ?_;rintro _ al ⟨v,_,A⟩;dsimp only[wcC]at v;rw[aq2 Z hw hC J]at v;have v:B0 (i5 w8) al 4 u9 ((b9 p).thenB k):=v;have aS:=s8.more A;obtain⟨aT,bB,cq,S,bh,cT⟩:=ae6 (P:=prog) (t:=95) (e:=95) bl6 (B0.nil (i5 al) al 4) ((F.ext A).rw_ (b7 (M.trans A))) (n7 _) (by rw[o];simp;omega) (by rw[o];simp;omega) (n7 _);rw[er6]at S;have ae:o6 al bB:=bh.weaken λ_ _ h=>absurd h D8;obtain⟨dv,dy,bf,bk,af,a9⟩:=lit (P:=prog) (w:=bB) (h:=hZ) (α:=Int) (xs:=[.int .i64 1,.int .i64 2,.int .i64 3,.int .i64 6]) (ys:=[1,2,3,6]) (parts:=#[(0,.int .i64 1),(1,.int .i64 2),(2,.int .i64 3),(3,.int .i64 6)]) (n:=4) W3 rfl (G9.2 rfl) (by simp[Value.cells]) rfl rfl dP dP (M0 _);simp only[eH,simprocAttr,cq,(aS.more ae).ld (i:=7) (u:=x.vp) rfl aF5,bf];refine y4 (ar8 ((aS.more (ae.trans af)).rp) (λb c=>aS.lt (i:=6) c) (S.ext af) (ae.trans af) bk (λb c I=>by have:=S.lt I;have:=a9 b c;omega) aD (by rw[o];exact am1) (by rw[o];omega) dP dP) ?_;rintro _ O ⟨z,_,U⟩;dsimp only[wcC]at z;rw[aq3 Z hw hC o]at z;have z:B0 (i5 al) O 4 aT ((b9 p).before l):=z;have a1:B0 hZ O 4 u1 ((b9 p).first k):=(E.ext ((M.trans A).trans U)).down (M0 _);have a2:B0 hZ O 4 u6 ((b9 p).last l):=(F.ext (A.trans U)).down (M0 _);have a3:B0 hZ O 4 u9 ((b9 p).thenB k):=(v.ext U).down (M0 _);have a4:B0 hZ O 4 aT ((b9 p).before l):=z.down (M0 _);have z5:=ah.size;have z8:=M.size;have dE:=A.size;have b1:∀b,A5 u1 b->wc.heap.size<=b:=λb c=>C9 (E.free c);have b2:∀b,A5 u6 b->wc.heap.size<=b:=λb c=>by have:=C9 (F.free c);omega
 have b3:∀b,A5 u9 b->wc.heap.size<=b:=λb c=>by have:=C9 (v.free c);omega
 have b4:∀b,A5 aT b->wc.heap.size<=b:=λb c=>by have:=C9 (z.free c);omega
 have hc:∀b,cN gc rs vs (.slice none 0 0) b->b<wc.heap.size:=λb c=>sc.lt c;have bs:=sc.more (((ah.trans M).trans A).trans U);have l1:((b9 p).thenB k).length=(b9 p).wv.length:=by unfold Bk.thenB;rw[H8,J]
 have l2:((b9 p).before l).length=(b9 p).wv.length:=by unfold Bk.before;rw[H8,o]
 have ao:(wcC p C (av2 C)).N.length=(b9 p).wv.length:=al9;clear aI E aJ F aq v S z;simp only[i4,simprocAttr];refine y4 (aR9 s rfl rfl V ao aE Z hw bs (a1.flatR λb c=>E4 λh=>by have:=hc b h;have:=b1 b c;omega) (a4.flatR λb c=>E4 λh=>by have:=hc b h;have:=b4 b c;omega) J l2 dP dP dP (ek6 _)) ?_;rintro _ cy ⟨bA,S2,H2,T2,bt,j2,bg,a0,bq,cg⟩;obtain⟨⟨D2,e2,aW⟩,b5,ba⟩:=j2.fin hE hC (λa t=>er4);have aj:=j2.size K dP (ek6 _);have hq:∀b,wc.heap.size<=b->b<O.heap.size->¬cN gc rs vs bA b:=λb h1 h2 h=>by
  have:=hc b (ci5 cg h2 h);omega
 have ac:∀{u:Value} {X:List Bool},B0 hZ O 4 u X->(∀b,A5 u b->wc.heap.size<=b)->R (D0 cy (cN gc rs vs bA)) u X:=λha c=>(ha.mod bq λb h h'=>by have:=hc b h';have:=c b h;omega).flatR λb h=>E4 (hq b (c b h) (ha.lt h));simp only[i4,simprocAttr];refine y4 (aR9 s rfl rfl V ao aE Z hw bt (ac a3 b3) (ac a2 b2) l1 o (by rw[bg];simp) b5 aj.1 aj.2.1) ?_;rintro _ dz ⟨cx,S3,H3,T3,bu,j3,bT,a5,co,de⟩;obtain⟨⟨D3,e3,aX⟩,b6,bb⟩:=j3.fin hE hC (λa t=>er4);have aP:=j3.size K aj.1 aj.2.1;have aZ:H3=T3:=by rw[e3,aX,e2,aW]
 have bm:=ChJ.start K aZ b6 ba bb (by rw[bT,bg];simp) a0 a5;clear a1 a2 a3 a4 hq ac j2 j3 e2 aW e3 aX ba bb a0 a5 bs bt bq co aj aZ;simp only[i4,simprocAttr];refine A9 [0,7] (σ:=(Value×List Bool)×(List (Nat×Nat)×List (Nat×Nat)×List (Nat×Nat))) (λt f m=>CS w m g gc rs vs t.1.1 t.1.2 t.2.1 t.2.2.1/\ChJ p k l t.1.2 t.2.1 t.2.2.1 t.2.2.2/\(∀h∈t.2.1,h∈aR7 (b9 p).wv.length)/\t.2.2.1.length<=t.2.1.length) (λt=>2*((b9 p).wv.length*(b9 p).wv.length-t.2.1.length)+t.2.2.1.length) ((cx,S3),(H3,T3,[])) ?_ ?_
 .simp only[simprocAttr];exact⟨bu,bm,aP.1,aP.2.1⟩
 clear bu bm aP;rintro⟨⟨v4,S4⟩,H4,T4,Q4⟩ f H ⟨r0,r7,_⟩ ⟨B,j4,aa,a6⟩;simp only at B j4 aa a6;have bi:vlen v4=T4.length:=by rw[B.oT.vlen,ek2]
 simp only[eH,simprocAttr,r7,B.ld (i:=3) (u:=v4) rfl ce7,B.oT.isS,bi];refine A8 (λaH=>?_) (λaH=>?_);rotate_left
 .have cf:T4=[]:=by
   have:¬(0:Int)<(T4.length:Int):=by simpa using aH
   exact List.length_eq_zero_iff.1 om
  subst cf;have bc:=j4.fin K;subst bc;simp only[eH,simprocAttr,r7,B.ld (i:=1) (u:=vs) rfl aK0];exact o8 results53 ⟨B.oS.up (M0 _) λb c=>aW5 (B.ge (.inr (.inr (.inl c)))),B.ext⟩
 obtain⟨n,b0⟩:∃n,T4.length=n+1:=⟨T4.length-1,by
  have:(0:Int)<(T4.length:Int):=by simpa using aH
  omega⟩
 obtain⟨T,q,rfl,dd,_,_⟩:=bc8 b0;have cl:=aa q ((j4.hqt q).2 (.inr dP));obtain⟨ac,ce⟩:=aX1.1 cl;have bL:=I5 j4.nd aa;rw[bo4]at bL;have bo:IntKind.i64.wrap (((T.length+1:Nat):Int)-1)=(T.length:Int):=by rw[M7 _ om];omega
 have ak:=B.more (o6.drew H);obtain⟨_,bd,az,aG,ay,_⟩:=ak.popT;obtain⟨d,wz,Q,aF,L,ck,bp,ap⟩:=dr0 (P:=prog) (w:=H.drew) (N:=cN gc rs vs v4) (T:=THp) (SV.ofN (i5 H.drew) (bp7 q)) (λb c=>ak.lt c) dp6 rfl bt6;have L:(Instr.storeAt THp (.pointer (some d)) (.agg #[.int .i64 q.1,.int .i64 q.2])).run prog wz = .ok () Q:=L;have k1:∀K f d j,F8 prog (λm=>o6 H.drew m) (Instr.loadAt 145 (.pointer (some ⟨gc,3,none⟩))) K f d j=K (C5 f d v4) j:=λK f d j=>B7 (w0:=H.drew) (p6.refl _) λm h=>(ak.more h).ld (i:=3) (u:=v4) rfl ce7;have k2:∀K f d j,F8 prog (λm=>o6 H.drew m) (Instr.loadAt THp (.pointer (some (G8 v4 (T.length*2))))) K f d j=K (C5 f d (.agg #[.int .i64 q.1,.int .i64 q.2])) j:=λK f d j=>B7 (w0:=H.drew) (p6.refl _) λm h=>(ak.more h).popT.1;have bv:=ak.more (bp.trans (o6.drew Q));obtain⟨_,_,_,_,_,D,bx,cr,cp,cO⟩:=bv.popT;have k3:∀K f d j,F8 prog (λm=>m=Q.drew) (Instr.loadAt 145 (.pointer (some ⟨gc,3,none⟩))) K f d j=K (C5 f d v4) j:=λK f d j=>B7 (w0:=Q.drew) rfl λm h=>by subst h;exact bv.ld (i:=3) (u:=v4) rfl ce7
 have ap:=L8.atI ap;have aw:E2 (D0 Q (cN gc rs vs v4)) (i5 D.drew):=p7 (G4 (p7 (B4 _ _) (b7 (o6.drew Q))) cp λb c=>G1 c) (b7 (o6.drew D));have k4:∀K f d' j,F8 prog (λm=>o6 D.drew m) (Instr.loadAt 3 (.pointer (some d))) K f d' j=K (C5 f d' (.int .i64 q.1)) j:=λK f d' j=>B7 (w0:=D.drew) (p6.refl _) λm h=>(ap.ip m (p7 aw (b7 h))).1;have k5:∀K f d' j,F8 prog (λm=>o6 D.drew m) (Instr.loadAt 3 (.pointer (some (d.add 1)))) K f d' j=K (C5 f d' (.int .i64 q.2)) j:=λK f d' j=>B7 (w0:=D.drew) (p6.refl _) λm h=>(ap.ip m (p7 aw (b7 h))).2;have ar:=cr.more (o6.drew D);have aB:=s.more ar.ext;rw[ej2,em3]at bi a6;simp only[i4,simprocAttr];refine C0 (λm=>o6 H.drew m) 13 (A7 [0,1,2,3,4,5,6,7,8,9,10,11,12]) ?_;simp only[D7,A7,i4,n9,A0,simprocAttr,r7,k1,ay,az,bo,bd,k2,aF,G0];refine⟨ck,?_⟩;simp only[i4,simprocAttr,L];refine C0 (λm=>m=Q.drew) 12 (A7 [0,1,2,3,4,5,6,7,8,9,10,11]) ?_;simp only[D7,A7,i4,n9,M4,simprocAttr,r7,k3,ay,az,bo,aG];simp only[i4,simprocAttr,bx];refine C0 (λm=>o6 D.drew m) 9 (A7 [0,1,2,3,5,6,7,4,8]) ?_;simp only[D7,A7,i4,n9,simprocAttr,r0,r7,k4,k5];refine y4 (bB7 aB q.1 ac V ao (by show(b9 p).wv.length<=_;omega)) ?_;rintro ub bD ⟨Y,G⟩;refine⟨G,?_⟩;dsimp only[wcC]at Y;rw[aq2 Z hw hC E0]at Y;have Y:B0 (i5 D.drew) bD 4 ub ((b9 p).behind q.1):=Y;simp only[fc,simprocAttr];refine y4 (bn4 (aB.more G) q.2 ce aD am1 (by show(b9 p).wv.length<=_;omega)) ?_;rintro ua cz ⟨W,ag⟩;refine⟨G.trans ag,?_⟩;dsimp only[wcC]at W;rw[aq3 Z hw hC E0]at W;have W:B0 (i5 bD) cz 4 ua ((b9 p).ahead q.2):=W;have cs:=ar.more (G.trans ag);have bO:((b9 p).behind q.1).length=(b9 p).wv.length:=by unfold Bk.behind;rw[H8,E0]
 have bN:((b9 p).ahead q.2).length=(b9 p).wv.length:=by unfold Bk.ahead;rw[H8,E0]
 have dF:=G.size;simp only[fc,simprocAttr];refine y4 (aR9 s rfl rfl V ao aE Z hw cs (((Y.ext ag).down (M0 _)).flatR λb c=>E4 λh=>by have:=ar.lt h;have:=C9 (Y.free c);omega) ((W.down (M0 _)).flatR λb c=>E4 λh=>by have:=ar.lt h;have:=C9 (W.free c);omega) bO bN j4.len j4.nd aa om) ?_;rintro _ dA ⟨v5,S5,H5,T5,ct,j5,bV,bM,dp,df⟩;obtain⟨⟨D5,e5,aY⟩,b8,bQ⟩:=j5.fin hE hC (λa t=>er4);have aQ:=j5.size K aa om;have cP:H5.length=H4.length+D5.length:=by rw[e5,ej2]
 have cQ:T5.length=T.length+D5.length:=by rw[aY,ej2]
 simp only[i4,simprocAttr];refine⟨((v5,S5),(H5,T5,Q4++[q])),?_,ct,?_,aQ.1,aQ.2.1⟩
 .have:=aQ.2.2;simp only[ej2,em3];omega
 .simp only[];rw[aY];exact j4.step K e5 b8 bQ bV bM
end
def cP7:C1 prog 27 []=some (.agg (p8.cells cN0).toArray):=by
 have h:p8.cells cN0=[t8 e0,.int .i64 0,.int .i64 0,t8 e0]:=rfl;rw[h];simp[C1,bW4,K7,Instr.fill,t8,e0];rfl
section
variable {p:Pg}
def levelB(p:Pg)(a b:Vx):Bool:=z7 (I7 (R3 (b9 p).wv (b9 p).all [1,2,3]) (S8 (b9 p).wv.length [((D6 (b9 p).wv a:Nat):Int)])) ((D6 (b9 p).wv b:Nat):Int)
end
section
variable {p:Pg} {a v u b x y:Vx} {e g:Eg} {o:List Int}
def cX0(a:D4 p=true)(hw:C4 p<=1000000)(j:e∈(b9 p).we)(o:e.kind=6):(b9 p).isCall e.dst.id=true:=by
 have b:=E9 a;rcases ej9.1 (bI0.1 j)with h|h
 .obtain⟨n,l,h⟩:=em2.1 h;obtain⟨i,k,c,q⟩:=Y0 b.toKnown l;rw[c]at h;obtain⟨_,_,f⟩:=cj5 a hw k e (aX2.1 h);rcases f with h|h<;>omega
 .obtain⟨z,m,h⟩:=em2.1 h;have g:e.dst=z:=by
   rcases(cb5 b hw m h).kind with h|h|h
   .omega
   .omega
   .exact h.2.1
  unfold Bk.joinOf at h;split at h
  .simp at h
  .next d=>
   rw[g];cases hc:(b9 p).isCall z.id with
   | true=>rfl
   | false=>exact absurd (.inr hc) d
def bD8(s:D4 p=true)(hw:C4 p<=1000000)(I:g∈(b9 p).we)(w:g.kind=4\/g.kind=5)(z:e∈(b9 p).we)(D:e.kind=6)(A:e.dst.id=g.src.id)(H:bo1 p lvK g.dst e.src):
  ∃r∈(b9 p).all,r.src=g.src/\r.dst=e.dst/\r.kind∈lvK/\(D6 (b9 p).wv g.dst,D6 (b9 p).wv e.src)∈(b9 p).hopOf r:=by
 have t:=E9 s;have K:=t.toKnown;have b:=cX0 s hw z D;have E:(b9 p).s=d9 p:=rfl;have M:∃y,bO6 p y e:=by
  rcases au4 s hw z with⟨_,_,h⟩|h
  .rcases h with h|h<;>omega
  .exact h
 obtain⟨y,n⟩:=M;have O:e.dst=y/\y.kind=6/\e.src=⟨((d9 p).it y.id).s.proc,4,0,y.slot⟩:=by
  rcases n.kind with h|h|h
  .omega
  .omega
  .exact h.2
 obtain⟨j,u,v⟩:=O;have L:∃x,bO6 p x g:=by
  rcases au4 s hw I with⟨_,_,h⟩|h
  .rcases h with h|h<;>rcases w with k|k<;>omega
  .exact h
 obtain⟨x,f⟩:=L;have c:g.src=x:=by
  rcases f.kind with h|h|h
  .exact h.2.1
  .exact h.2.1
  .rcases w with k|k<;>omega
 have G:(x.kind=2/\g.dst=⟨((d9 p).it x.id).s.proc,1,0,e0⟩)\/(x.kind=5/\g.dst=⟨((d9 p).it x.id).s.proc,3,0,x.slot⟩):=by
  rcases f.kind with h|h|h
  .exact .inl h.2.2
  .exact .inr h.2.2
  .rcases w with k|k<;>omega
 have o:x.kind=2\/x.kind=5\/x.kind=6:=G.elim (λh=>.inl h.1) λh=>.inr (.inl h.1);have a:x.id=y.id:=by rw[<-c,<-A,j]
 have l:=bV3 t hw f.mem n.mem o (.inr (.inr u)) a;obtain⟨i,J,_,_,B⟩:=aK4 K f.mem;have C:bC5 p i x:=as0 t.may hw J B o;rw[j]at b;rcases G with⟨F,d⟩|⟨N,d⟩
 .have q:(⟨y.proc,2,y.id,e0⟩:Vx)=x:=by
   have:=C.st F;cases x;simp only at *;subst l a F this;rfl
  refine⟨⟨⟨y.proc,2,y.id,e0⟩,y,1⟩,aA1 (bQ2 t hw n.mem (.inr u)),by rw[c,q],by rw[j],by simp[lvK],?_⟩;unfold Bk.hopOf;rw[if_pos ⟨u,rfl,b⟩,if_neg dP,if_pos rfl,d,v,E,a];simp
 .have q:(⟨y.proc,5,y.id,x.slot⟩:Vx)=x:=by
   cases x;simp only at *;subst l a N;rfl
  have m:(⟨x,y,3⟩:Eg)∈(b9 p).sums:=by
   refine aF3 _ ⟨D6 (b9 p).wv e.src,e.src,D6 (b9 p).wv g.dst,g.dst,Z5 n.src,by rw[v],H,by rw[el5];exact Z5 f.dst,by rw[d],e,em4 _ z,?_⟩;refine at4.2 ⟨⟨D,rfl⟩,y,by rw[j];exact Z5 n.mem,?_,?_⟩
   .rw[d];show(⟨y.proc,5,y.id,x.slot⟩:Vx)∈_;rw[q];exact f.mem
   .rw[d];show(⟨x,y,3⟩:Eg)=⟨⟨y.proc,5,y.id,x.slot⟩,y,3⟩;rw[q]
  refine⟨⟨x,y,3⟩,en7 _ m,c.symm,by rw[j],by simp[lvK],?_⟩;unfold Bk.hopOf;rw[if_pos ⟨u,a.symm,b⟩,if_pos rfl,d,v,E,a];simp
def bf5(p:Pg)(b:Vx):List Int->Vx->Prop
 | [],v=>∃m:Int,as4 p upK (D6 (b9 p).wv v:Nat) m/\as4 p dnK m (D6 (b9 p).wv b:Nat)
 | id::o,v=>bo1 p dnK v b\/∃e,e∈(b9 p).we/\e.kind=6/\e.dst.id=id/\bo1 p lvK v e.src/\bf5 p b o e.dst
def bf5.level(hw:bo1 p lvK u v)(h:bf5 p b o v):bf5 p b o u:=by
 cases o with
 | nil=>
  obtain⟨m,i,j⟩:=h;exact⟨m,W1.trans (di6 hw) i,j⟩
 | cons id o=>
  rcases h with h|⟨e,a,c,d,f,g⟩
  .exact .inl (W1.trans (di5 hw) h)
  .exact .inr ⟨e,a,c,d,W1.trans hw f,g⟩
def bf5.opn(a:D4 p=true)(hw:C4 p<=1000000)(c:e∈(b9 p).we)(d:e.kind=4\/e.kind=5)(h:bf5 p b (e.src.id::o) e.dst):bf5 p b o e.src:=by
 have K:=(E9 a).toKnown;have f:bo1 p dnK e.src e.dst:=ad9 K (aA1 c) (by rcases d with h|h<;>simp[dnK,h]);rcases h with h|⟨g,i,j,k,l,m⟩
 .cases o with
  | nil=>exact⟨_,.refl,W1.trans f h⟩
  | cons id o=>exact .inl (W1.trans f h)
 .obtain⟨r,n,q,s,t,_⟩:=bD8 a hw c d i j k l;have:=ad9 K n t;rw[q,s]at this;exact m.level this
inductive az8 (E:List Eg):Vx->List Int->Vx->Prop
 | done {v:Vx} {o:List Int}:az8 E v o v
 | flat {b:Vx} {o:List Int} {e:Eg}:e∈E->(e.kind=1\/e.kind=2)->az8 E e.dst o b->az8 E e.src o b
 | opn {b:Vx} {o:List Int} {e:Eg}:e∈E->(e.kind=4\/e.kind=5)->az8 E e.dst (e.src.id::o) b->az8 E e.src o b
 | up {b:Vx} {e:Eg}:e∈E->e.kind=6->az8 E e.dst [] b->az8 E e.src [] b
 | cls {b:Vx} {o:List Int} {e:Eg}:e∈E->e.kind=6->az8 E e.dst o b->az8 E e.src (e.dst.id::o) b
def az8.rest(e:D4 p=true)(hw:C4 p<=1000000)(h:az8 (b9 p).we v o b):bf5 p b o v:=by
 have K:=(E9 e).toKnown
 induction h with
 | @done v o=>
  cases o with
  | nil=>exact⟨_,.refl,.refl⟩
  | cons id o=>exact .inl .refl
 | flat a c _ d=>exact d.level (ad9 K (aA1 a) (by rcases c with h|h<;>simp[lvK,h]))
 | opn a c _ d=>exact d.opn e hw a c
 | up a c _ d=>
  obtain⟨m,f,g⟩:=d;exact⟨m,W1.trans (ad9 (ks:=upK) K (aA1 a) (by simp[upK,c])) f,g⟩
 | cls a c _ d=>exact .inr ⟨_,a,c,rfl,.refl,d⟩
end
def bT4(V:List Vx)(S:List Bool):(G6 V S).length<=S.length:=by
 refine ej7 (List.length_filterMap_le _ _) ?_;unfold ae5;rw[ek2];refine ej7 (el8 _ _) ?_;rw[en9];exact ek6 _
def cw0{V:List Vx}{y:Vx}(h:y∈V):atV V y=some (D6 V y):=by
 obtain⟨a,b⟩:=eo6.1 (af5.2 h);unfold D6;rw[b];rfl
def cG3{V:List Vx}{y:Vx}(h:y∉V):atV V y=none:=by
 cases e:atV V y with
 | none=>rfl
 | some a=>exact absurd (af5.1 (by rw[e];rfl)) h
def dS7{V vs:List Vx}{u:Value}{w d:World}(f:O3 V vs=none->u = .tuple #[.slice none 0 0,.bool false])(g:∀l,O3 V vs=some l->∃c,u = .tuple #[c,.bool true]/\B0 (i5 w) d 3 c l):
  ∃a b,u = .tuple #[a,.bool b]/\(b=false->O3 V vs=none)/\(b=true->∃l,O3 V vs=some l/\B0 (i5 w) d 3 a l):=by
 cases h:O3 V vs with
 | none=>exact⟨_,_,f h,λ_=>rfl,λh=>(by cases h)⟩
 | some l=>
  obtain⟨a,e,i⟩:=g l h;exact⟨a,true,e,λh=>(by cases h),λ_=>⟨l,rfl,i⟩⟩
section
variable {p:Pg}
def X6(v O P:Value)(xs ys:List Vx)(w:World)(hv:SV (i5 w) v p)(hw:C4 p<=1000000)(ah:R (i5 w) O xs)(aj:R (i5 w) P ys)(aF:xs.length<=1000000)(aG:ys.length<=1000000):
  y5 prog 18 #[v,O,P] w λu w'=>(∃ul,u = .tuple #[ul,.int .i64 (N3 p xs ys).2]/\R (i5 w') ul (N3 p xs ys).1/\(N3 p xs ys).1.length<=480000/\o6 w w'):=by
 refine z6 [v,O,P] func18 rfl ?_;obtain⟨c,wa,V,M,B⟩:=U2 hv (n7 _);obtain⟨sp,aa,N,_⟩:=B.pg_v;simp only[eH,simprocAttr,V,N wa (n7 _)];refine y4 (az9 sp p wa aa hw) ?_;rintro u w2 ⟨hf,ht,ag⟩;have f:=M.trans ag;cases hR:D4 p
 .obtain rfl:=hf hR;have o:N3 p xs ys=([],1):=by unfold N3;rw[if_pos hR]
  simp only[eH,simprocAttr,aG1];refine U5 results18 ?_;simp only[B8,simprocAttr];rw[o];exact⟨_,rfl,(B0.nil (i5 w2) w2 0).rw_ (n7 _),ek1 _,f⟩
 obtain⟨w1,g,r,ab,vP,x,rfl,af,T,aI,s⟩:=ht hR;rw[bM0]at s;have ae:=ai3 (E9 hR) hw;simp only[eH,simprocAttr,aG1];refine y4 (aE2 s rfl O xs (A6.mono (b7 f) ah) om) ?_;rintro u3 w3 ⟨k,H,q⟩;have m:=f.trans q;obtain⟨a3,b3,rfl,D,d⟩:=dS7 k H;have s3:=s.more q;simp only[i4,simprocAttr];refine y4 (aE2 s3 rfl P ys (A6.mono (b7 m) aj) om) ?_;rintro u4 Q ⟨l,I,t⟩;have n:=m.trans t;obtain⟨a4,b4,rfl,E,e⟩:=dS7 l I;have s4:=s3.more t;have W:(wcC p [] []).V=(b9 p).wv:=rfl;rw[W]at D d E e;clear k H l I;rcases ej1 b3 with q3|q3<;>subst q3;rotate_left
 .have o:N3 p xs ys=([],9):=by
   unfold N3;rw[if_neg (by rw[hR];simp),D rfl]
  simp only[eH,simprocAttr];refine U5 results18 ?_;simp only[B8,simprocAttr];rw[o];exact⟨_,rfl,(B0.nil (i5 Q) Q 0).rw_ (n7 _),ek1 _,n⟩
 obtain⟨z,S,d⟩:=d rfl;rcases ej1 b4 with q4|q4<;>subst q4;rotate_left
 .have o:N3 p xs ys=([],9):=by
   unfold N3;rw[if_neg (by rw[hR];simp),E rfl,S]
  simp only[eH,simprocAttr];refine U5 results18 ?_;simp only[B8,simprocAttr];rw[o];exact⟨_,rfl,(B0.nil (i5 Q) Q 0).rw_ (n7 _),ek1 _,n⟩
 obtain⟨A,e4,e⟩:=e rfl;obtain⟨X,aD⟩:=bB1 hR S;obtain⟨Y,aE⟩:=bB1 hR e4;have o:N3 p xs ys=(G6 (b9 p).wv ((b9 p).chopB z A),0):=by
  unfold N3;rw[if_neg (by rw[hR];simp),S,e4]
 simp only[eH,simprocAttr];refine y4 (bf6 s4 hR hw) ?_;rintro _ w5 ⟨x5,C,rfl,s5,J,hC,G⟩;have K:o6 w w5:=M.trans (af.trans s5.ext);have z3:=q.size;have ac:R (i5 w5) a3 z:=((d.ext t).mod G λb U ⟨i,h⟩=>by
  have:=s.lt h;have:=C9 (d.free U);omega).flatR λ_ _=>rfl
 have ad:R (i5 w5) a4 A:=(e.mod G λb U ⟨i,h⟩=>by
  have:=s.lt h;have:=C9 (e.free U);omega).flatR λ_ _=>rfl
 simp only[i4,simprocAttr];refine y4 (cZ3 s5 T hR hw J hC ac ad X Y om om) ?_;rintro u6 w6 ⟨Z,y⟩;have F:((b9 p).chopB z A).length=(b9 p).wv.length:=bD5;have a:=bT4 (b9 p).wv ((b9 p).chopB z A);simp only[i4,simprocAttr];refine y4 (aK6 (s5.more y) u6 _ (Z.rw_ (b7 y)) F (by show(b9 p).wv.length<=_;omega)) ?_;rintro u7 w7 ⟨j,L⟩;have j:B0 (i5 w6) w7 27 u7 (G6 (b9 p).wv ((b9 p).chopB z A)):=j;rw[o];rw[F]at a;generalize G6 (b9 p).wv ((b9 p).chopB z A)=LL at j a;simp only[i4,simprocAttr];exact U5 results18 ⟨u7,rfl,j.rw_ (b7 L),ej7 a ae,(K.trans y).trans L⟩
def aF8(v:Value)(a b:Vx)(w:World)(hv:SV (i5 w) v p)(hw:C4 p<=1000000):
  y5 prog 19 #[v,.agg (p8.cells a).toArray,.agg (p8.cells b).toArray] w λu w'=>(∃ul,u = .tuple #[ul,.int .i64 (G3 p a b).2]/\R (i5 w') ul (G3 p a b).1/\(G3 p a b).1.length<=480000/\o6 w w'):=by
 refine z6 [v,.agg (p8.cells a).toArray,.agg (p8.cells b).toArray] func19 rfl ?_;obtain⟨c,wa,aN,aT,aj⟩:=af7 (w:=w) (λ_=>False) hv (λ_ h=>h.elim);obtain⟨ca,wb,aK,aw,ag⟩:=aL2 (w:=wa) (λ_=>False) (SV.ofN (i5 wa) a) (λ_ h=>h.elim);obtain⟨cb,wc,aL,Z,ah⟩:=aL2 (w:=wb) (λ_=>False) (SV.ofN (i5 wb) b) (λ_ h=>h.elim);have l1:=(L8.pg_v hv aj).1 wc (p7 (B4 _ _) (b7 (aw.trans Z)));have D:=(aT.trans aw).trans Z;simp only[eH,simprocAttr,aN,aK,aL,l1];refine y4 (az9 v p wc (hv.mono (b7 D)) hw) ?_;rintro u w2 ⟨hf,ht,X⟩;have O:=D.trans X;cases hR:D4 p
 .obtain rfl:=hf hR;have F:G3 p a b=([],1):=by unfold G3;rw[if_pos hR]
  simp only[eH,simprocAttr,aG1];refine U5 results19 ?_;simp only[B8,simprocAttr];rw[F];exact⟨_,rfl,(B0.nil (i5 w2) w2 0).rw_ (n7 _),ek1 _,O⟩
 obtain⟨w1,g,r,ab,vP,x,rfl,aS,a8,bd,s⟩:=ht hR;rw[bM0]at s;have hr:=E9 hR;have aR:=ai3 hr hw;have h0:=O1 hr.toKnown;have la:=(L8.vx_v (SV.ofN (i5 wa) a) ag).1 w2 (p7 (B4 _ _) (b7 (Z.trans X)));have am:(wcC p [] []).kv=at3 (b9 p).wv:=rfl;simp only[eH,simprocAttr,aG1,la];refine B6 (cu7 s a) (λw3 Y=>?_);rw[am,bH0,cb8];have s3:=s.more Y;have lb:=(L8.vx_v (SV.ofN (i5 wb) b) ah).1 w3 (p7 (B4 _ _) (b7 (X.trans Y)));simp only[i4,simprocAttr,lb];refine B6 (cu7 s3 b) (λw4 ar=>?_);rw[am,bH0,cb8];have s4:=s3.more ar;have Q:=(O.trans Y).trans ar;cases hda:decide (a∈(b9 p).wv)
 .have F:G3 p a b=([],9):=by
   unfold G3;rw[if_neg (by rw[hR];simp),cG3 (ej6 hda)]
  simp only[eH,simprocAttr];refine U5 results19 ?_;simp only[B8,simprocAttr];rw[F];exact⟨_,rfl,(B0.nil (i5 w4) w4 0).rw_ (n7 _),ek1 _,Q⟩
 cases hdb:decide (b∈(b9 p).wv)
 .have F:G3 p a b=([],9):=by
   unfold G3;rw[if_neg (by rw[hR];simp),cG3 (ej6 hdb),cw0 (ej3 hda)]
  simp only[eH,simprocAttr];refine U5 results19 ?_;simp only[B8,simprocAttr];rw[F];exact⟨_,rfl,(B0.nil (i5 w4) w4 0).rw_ (n7 _),ek1 _,Q⟩
 have F:G3 p a b=(G6 (b9 p).wv ((b9 p).levelB (D6 (b9 p).wv a) (D6 (b9 p).wv b)),0):=by
  unfold G3;rw[if_neg (by rw[hR];simp),cw0 (ej3 hdb),cw0 (ej3 hda)]
 simp only[eH,simprocAttr];refine y4 (bf6 s4 hR hw) ?_;rintro _ w5 ⟨x5,C,rfl,s5,N,hC,_⟩;have aq:o6 w w5:=D.trans (aS.trans s5.ext);have an:=Y9 h0 a;have ao:=Y9 h0 b;generalize D6 (b9 p).wv a=A at an F;generalize D6 (b9 p).wv b=B at ao F;simp only[i4,simprocAttr];refine y4 (bB7 s5 A an (bj3 hR hw N).2 al9 (by show(b9 p).wv.length<=_;omega)) ?_;rintro u6 w6 ⟨i,au⟩;dsimp only[wcC]at i;rw[aq2 hR hw hC E0]at i;have i:B0 (i5 w5) w6 4 u6 ((b9 p).behind A):=i;simp only[i4,simprocAttr];refine y4 (bn4 (s5.more au) B ao (bj3 hR hw N).1 am1 (by show(b9 p).wv.length<=_;omega)) ?_;rintro u7 w7 ⟨j,av⟩;dsimp only[wcC]at j;rw[aq3 hR hw hC E0]at j;have j:B0 (i5 w6) w7 4 u7 ((b9 p).ahead B):=j;have U:((b9 p).behind A).length=(b9 p).wv.length:=by unfold Bk.behind;rw[H8,E0]
 have aJ:((b9 p).ahead B).length=(b9 p).wv.length:=by unfold Bk.ahead;rw[H8,E0]
 have aQ:vlen u6=(b9 p).wv.length:=by rw[i.vlen,U]
 have I:=λv (hv:v<(b9 p).wv.length)=>cU3 (p:=p) (x:=A) (y:=B) hv;have V:((b9 p).levelB A B).length=(b9 p).wv.length:=by simp[Bk.levelB]
 generalize(b9 p).levelB A B=LB at F I V;generalize(b9 p).behind A=XB at i U I;generalize(b9 p).ahead B=XA at j aJ I;simp only[eH,simprocAttr,i.isS,aQ];refine A9 [8,13,14,47] (σ:=Nat×List Bool) (λt f w'=>f 48 = .int .i64 t.1/\t.1<=(b9 p).wv.length/\B0 (i5 w5) w' 4 u6 t.2/\B0 (i5 w6) w' 4 u7 XA/\t.2.length=(b9 p).wv.length/\(∀v,v<(b9 p).wv.length->(z7 t.2 (v:Int)=true↔z7 XB (v:Int)=true/\(v<t.1->z7 XA (v:Int)=true)))/\o6 w5 w') (λt=>(b9 p).wv.length-t.1) (0,XB) ?_ ?_
 .simp only[B8,simprocAttr];exact⟨tt,ek1 _,i.ext av,j,U,λv hv=>⟨λh=>⟨h,λh=>om⟩,λh=>h.1⟩,au.trans av⟩
 rintro⟨k,S⟩ f w8 ⟨r8,ac,aU,aV,_⟩ ⟨G,aP,o,W,n,hS,J⟩;simp only at G aP o n hS;simp only[eH,simprocAttr,G,aV];refine A3 (λbb=>?_) ?_;rotate_left
 .rintro rfl;have aI:S=LB:=ch9 (by rw[n,V]) λv hv=>by
   rw[V]at hv;rw[hS v hv,I v hv];exact and_congr_right λ_=>⟨λh=>h hv,λh _=>h⟩
  subst aI;have z:=bT4 (b9 p).wv S;simp only[i4,simprocAttr,r8,ac];refine y4 (aK6 (s5.more J) u6 _ (o.rw_ (b7 J)) n (by show(b9 p).wv.length<=_;omega)) ?_;rintro u9 w9 ⟨d,E⟩;have d:B0 (i5 w8) w9 27 u9 (G6 (b9 p).wv S):=d;rw[F];rw[n]at z;generalize G6 (b9 p).wv S=LL at d z;simp only[i4,simprocAttr];exact U5 results19 ⟨u9,rfl,d.rw_ (b7 E),ej7 z aR,(aq.trans J).trans E⟩
 have H:k<S.length:=om
 have T:k<XA.length:=om
 have L:=o.inS H;have al:=W.inS T;have aa:(Instr.loadAt 4 (.pointer (some (G8 u6 k)))).run prog w8 = .ok (.bool S[k]) w8:=E1 (P:=prog) o (ej0 H) ai9;have ax:(Instr.loadAt 4 (.pointer (some (G8 u7 k)))).run prog w8 = .ok (.bool XA[k]) w8:=E1 (P:=prog) W (ej0 T) ai9;have bS:=aL1 H;have bA:=aL1 T;generalize S[k]=sk at aa bS;generalize XA[k]=xk at ax bA;obtain⟨ib,aO,ak⟩:=av3 (P:=prog) V4 aE0;obtain⟨w9,K,d,ap,_⟩:=F9 (P:=prog) (t:=4) o rfl H (x:=.bool (sk&&xk)) (y:=(sk&&xk)) rfl rfl aO ak;have E:o6 w5 w9:=o.ext2 J ap;have M:B0 (i5 w6) w9 4 u7 XA:=W.mod ap λb hb h=>by
  have:=i.lt h;have:=C9 (j.free hb);omega
 have aM:∀e:Int,z7 (S.set k (sk&&xk)) e=if e=(k:Int)then(sk&&xk)else z7 S e:=λe=>by
  have:=M9 (l:=S) (a:=(k:Int)) (b:=e) (v:=(sk&&xk)) (B5.2 ⟨om,om⟩);rw[el5]at this;exact this
 have m:∀v,v<(b9 p).wv.length->(z7 (S.set k (sk&&xk)) (v:Int)=true↔z7 XB (v:Int)=true/\(v<k+1->z7 XA (v:Int)=true)):=λv hv=>by
  rw[aM];by_cases hvk:v=k
  .subst hvk;rw[if_pos rfl,el3,<-bS,<-bA,hS v hv];exact⟨λh=>⟨h.1.1,λ_=>h.2⟩,λh=>⟨⟨h.1,λh'=>absurd h' (Nat.lt_irrefl _)⟩,h.2 (Nat.lt_succ_self _)⟩⟩
  .rw[if_neg om,hS v hv];exact and_congr_right λ_=>⟨λh h'=>h om,λh h'=>h om⟩
 rcases ej1 sk with q|q<;>subst q
 .rw[eq4]at K d m;simp only[i4,n9,A0,simprocAttr,G,ac,aU,L,al,aa,ax,K];exact V1 (k+1,S.set k xk) ⟨d,M,by simp only[eq3];exact n,m,E⟩
 .rw[Bool.false_and]at K d m;simp only[i4,n9,A0,simprocAttr,G,ac,L,aa,K];exact V1 (k+1,S.set k false) ⟨d,M,by simp only[eq3];exact n,m,E⟩
end
def dl5{P:Program}{T:TypeId}{z:Value}(l:I4 P T=some z)(c:z.cells.size=N6 P T)(i:∀u∈z.cells.toList,u.oneCell'=true)(q:J4 P T=true)(r:(P.underlying T).isSome=true)(p:(P.info? T).isSome=true)(w:World):
  ∃f,w.heap.size<f.heap.size/\(Instr.alloc T true (.tuple #[])).run P w = .ok (.pointer (some ⟨w.heap.size,0,none⟩)) f/\o6 w f/\∀(e:World) (cs:Array Value),cs.size=N6 P T->(∀u∈cs.toList,u.oneCell'=true)->o6 f e ->
  ∃a,(Instr.storeAt T (.pointer (some ⟨w.heap.size,0,none⟩)) (.agg cs)).run P e = .ok () a/\(Instr.loadAt T (.pointer (some ⟨w.heap.size,0,none⟩))).run P a = .ok (.agg cs) a/\o6 w a/\p6 (λb=>b=w.heap.size) e a:=by
 have o:=(aI8 (P:=P) (w:=w) (T:=T) l c (cs:=z.cells) c i).1;refine⟨_,dP,o,o6.alloc _ _,λe cs d h k=>?_⟩;have g:e.heap[w.heap.size]?=some (.cells z.cells T (0,0)):=(k.block _ dP id).trans (em9 w _);obtain⟨a,m,n,j⟩:=aj3 (P:=P) (T:=T) g l c d h;exact⟨a,m,af6 n q r p d.symm,p6.ext_of ((o6.alloc _ _).trans k) j λb g=>by rw[g];exact ek6 _,j⟩
def dl6(w:World):∃d,w.heap.size<d.heap.size/\(Instr.alloc 110 true (.tuple #[])).run prog w = .ok (.pointer (some ⟨w.heap.size,0,none⟩)) d/\o6 w d/\∀(e:World) (c:Array Value),c.size=N6 prog 110->(∀u∈c.toList,u.oneCell'=true)->o6 d e ->
  ∃a,(Instr.storeAt 110 (.pointer (some ⟨w.heap.size,0,none⟩)) (.agg c)).run prog e = .ok () a/\(Instr.loadAt 110 (.pointer (some ⟨w.heap.size,0,none⟩))).run prog a = .ok (.agg c) a/\o6 w a/\p6 (λb=>b=w.heap.size) e a:=
 dl5 cE7 (by rw[ak6];rfl) (by simp[Value.cells,Value.oneCell']) bt2 bt7 be5 w
theorem af8{k:IntKind}{n:Int}:(Value.int k n).cells=#[.int k n]:=rfl
theorem bc1{b:Bool}:(Value.bool b).cells=#[.bool b]:=rfl
theorem af9{s:B3}:(t8 s).cells=#[t8 s]:=rfl
theorem aH6{cs:Array Value}:(Value.agg cs).cells=cs:=rfl
theorem ab4:Value.string ⟨#[]⟩=t8 e0:=rfl
def db5(n:Int):C1 prog 110 [(0,.int .i64 1),(1,.int .i64 n)]=some (.agg #[.int .i64 1,.int .i64 n,t8 e0,.slice none 0 0]):=by
 simp[C1,cE4,K7,Instr.fill,af8,ab4]
def db6(s:B3):C1 prog 110 [(0,.int .i64 2),(2,t8 s)]=some (.agg #[.int .i64 2,.int .i64 0,t8 s,.slice none 0 0]):=by
 simp[C1,cE4,K7,Instr.fill,af8,af9,ab4]
def db7(op:Int)(a:Value)(b:a.cells=#[a]):C1 prog 110 [(0,.int .i64 op),(3,a)]=some (.agg #[.int .i64 op,.int .i64 0,t8 e0,a]):=by
 simp[C1,cE4,K7,Instr.fill,af8,ab4,b]
def cc6(n:Int)(w:World):y5 prog 73 #[.int .i64 n] w λu g=>(u = .agg #[.int .i64 1,.int .i64 n,t8 e0,.slice none 0 0]/\o6 w g):=by
 refine z6 [.int .i64 n] func73 rfl ?_;obtain⟨h,_,b,c,a⟩:=dl6 w;obtain⟨i,d,e,f,_⟩:=a h #[.int .i64 1,.int .i64 n,t8 e0,.slice none 0 0] (by rw[ak6];rfl) (by simp[t8,Value.oneCell']) (p6.refl _);simp only[eH,simprocAttr,b,db5 n,d];refine O5 results73 (ad:=⟨w.heap.size,0,none⟩) (by simp only[B8,simprocAttr]) e ?_;exact⟨rfl,f⟩
def ay8(s:B3)(w:World):y5 prog 74 #[t8 s] w λu g=>(u = .agg #[.int .i64 2,.int .i64 0,t8 s,.slice none 0 0]/\o6 w g):=by
 refine z6 [t8 s] func74 rfl ?_;obtain⟨h,_,b,c,a⟩:=dl6 w;obtain⟨i,d,e,f,_⟩:=a h #[.int .i64 2,.int .i64 0,t8 s,.slice none 0 0] (by rw[ak6];rfl) (by simp[t8,Value.oneCell']) (p6.refl _);simp only[eH,simprocAttr,b,db6 s,d];refine O5 results74 (ad:=⟨w.heap.size,0,none⟩) (by simp only[B8,simprocAttr]) e ?_;exact⟨rfl,f⟩
section
variable {h:Hp}
def aF4{op n:Int}{name:B3}{a:Value}{kids:List Ex}(b:R h a kids):SV h (.agg #[.int .i64 op,.int .i64 n,t8 name,a]) (Ex.mk op n name kids):=⟨_,rfl,ca1.2 ⟨a,rfl,b⟩⟩
def dE9{r:Bool}{name:B3}{a b c d:Value}{x:Ex}(e:SV h (.agg #[a,b,c,d]) x):SV h (.agg #[.bool r,t8 name,a,b,c,d]) (⟨r,name,x⟩:Ar):=⟨_,rfl,[a,b,c,d],rfl,e.enc⟩
def by8{id kind:Int}{g:Value}{labels:List B3}{name proc:B3}{a b c d:Value}{x:Ex}{has:Bool}{e i f:Value}{args:List Ar}{thn els:List St}
  (l:R h g labels) (n:SV h (.agg #[a,b,c,d]) x) (j:R h e args) (m:R h i thn) (k:R h f els) :
  SV h (.agg #[.int .i64 id,.int .i64 kind,g,t8 name,t8 proc,a,b,c,d,.bool has,e,i,f]) (St.mk id kind labels name proc x has args thn els):=
 ⟨_,rfl,ca2.2 ⟨g,[a,b,c,d],e,i,f,rfl,l,n.enc,j,m,k⟩⟩
def dF0{name:B3}{e f g i:Value}{a:List Pa}{c:List B3}{b:List St}{d:List B3}(j:R h e a)(k:R h f c)(l:R h g b)(m:R h i d):
  SV h (.agg #[t8 name,e,f,g,i]) (⟨name,a,c,b,d⟩:Pr):=⟨_,rfl,e,f,g,i,rfl,j,k,l,m⟩
def dW2{c d:Value}{a:List B3}{b:List Pr}(e:R h c a)(f:R h d b):SV h (.agg #[c,d]) (⟨a,b⟩:Pg):=⟨_,rfl,c,d,rfl,e,f⟩
def L6{α:Type}[A6 α]:R h (.slice none 0 0) ([]:List α):=⟨none,0,0,rfl,rfl,ek6 _,[],rfl,λj v h=>by simp at h⟩
end
def cF9{α:Type}[A6 α](h:Hp):List Value->List α->Prop
 | [],[]=>True
 | x::xs,y::ys=>SV h x y/\cF9 h xs ys
 | _,_=>False
def bU9{α:Type}[A6 α]{h:Hp}:∀{a:List Value} {b:List α},cF9 h a b->Q9 h (a.flatMap (·.cells.toList)) b/\(∀x∈a,x.cells.size=A6.sz α)/\b.length=a.length
 | [],[],_=>⟨rfl,λx d=>(by cases d),rfl⟩
 | x::a,y::b,⟨h1,h2⟩=>by
  obtain⟨e,f,g⟩:=bU9 h2;refine⟨⟨x.cells.toList,_,dP,h1.enc,e⟩,λz c=>?_,by simp[g]⟩;rcases ek9.1 c with rfl|c
  .have:=A6.len h1.enc;simpa using this
  .exact f z c
def dD5{P:Program}{t T:TypeId}{sz c:Nat}(q:G7 P t T sz c=true){α:Type}[A6 α](f:A6.sz α=sz){h:Hp}{w:World}{xs:List Value}{ys:List α}{parts:Array (Nat×Value)}{n:Nat}(o:parts.toList=(xs.zipIdx 0).map λp=>(p.2,p.1))
  (g:cF9 h xs ys) (hn:n=xs.length) (e:xs≠[]) (d:xs.length<=16) (hw:E2 h (i5 w)) :
  ∃v a,(Instr.buildSlice t n parts).run P w = .ok v a/\R (i5 a) v ys/\v.cells=#[v]/\o6 w a/\B0 h a T v ys/\∀b,A5 v b->w.heap.size<=b:=by
 obtain⟨k,l,m⟩:=bU9 g;obtain⟨v,a,r,i,j,s⟩:=lit q o k (by rw[<-f];exact l) hn m e d hw;exact⟨v,a,r,i.rw_ (p7 hw (b7 j)),F7 i.isS,j,i,s⟩
def noE{N:Nat->Prop}{w a:World}(c:o6 w a):E2 (D0 w N) (D0 a N):=K8 c (λ_ h=>h.elim) λb h=>.inl h
def cU5{P:Program}{t T:TypeId}{sz c:Nat}(o:G7 P t T sz c=true){α:Type}[A6 α](f:A6.sz α=sz){N:Nat->Prop}{w:World}(hN:∀b,N b->b<w.heap.size){xs:List Value}{ys:List α}{parts:Array (Nat×Value)}{n:Nat}(m:parts.toList=(xs.zipIdx 0).map λp=>(p.2,p.1))
  (g:cF9 (D0 w N) xs ys) (hn:n=xs.length) (e:xs≠[]) (d:xs.length<=16) :
  ∃v a,(Instr.buildSlice t n parts).run P w = .ok v a/\R (D0 a N) v ys/\v.cells=#[v]/\o6 w a/\B0 (D0 w N) a T v ys/\∀b,A5 v b->w.heap.size<=b:=by
 obtain⟨v,a,q,_,r,i,j,k⟩:=dD5 o f m g hn e d (B4 _ _);exact⟨v,a,q,j.ro (noE i) λb l=>E4 λh=>(by have:=hN b h;have:=k b l;omega),r,i,j,k⟩
def dJ3(s:B3){N:Nat->Prop}(w:World)(hN:∀b,N b->b<w.heap.size):∃v a,(Instr.buildSlice 22 1 #[(0,t8 s)]).run prog w = .ok v a/\R (D0 a N) v [s]/\v.cells=#[v]/\o6 w a:=by
 obtain⟨v,a,f,c,d,g⟩:=cJ7 s w (B4 w N);exact⟨v,a,f,c.ro (noE d) λb e=>E4 λh=>(by have:=hN b h;have:=g b e;omega),F7 c.isS,d⟩
def dV2:G7 prog 108 110 4 56=true:=kr
def dV1:G7 prog 111 125 6 80=true:=kr
def dm3:G7 prog 66 113 13 208=true:=kr
def dV7:G7 prog 65 72 2 24=true:=kr
def dV8:G7 prog 23 68 5 112=true:=kr
def bs1(id kind:Int)(n:B3)(a b c d:Value):C1 prog 113 [(0,.int .i64 id),(1,.int .i64 kind),(3,t8 n),(5,.agg #[a,b,c,d])]=some (.agg #[.int .i64 id,.int .i64 kind,.slice none 0 0,t8 n,t8 e0,a,b,c,d,.bool false,.slice none 0 0,.slice none 0 0,.slice none 0 0]):=by
 simp[C1,bt5,K7,Instr.fill,af8,af9,aH6,ab4]
def bs2(id kind:Int)(n q:B3)(a:Value)(b:a.cells=#[a]):C1 prog 113 [(0,.int .i64 id),(1,.int .i64 kind),(3,t8 n),(4,t8 q),(7,a)]=some (.agg #[.int .i64 id,.int .i64 kind,.slice none 0 0,t8 n,t8 q,.int .i64 0,.int .i64 0,t8 e0,.slice none 0 0,.bool false,a,.slice none 0 0,.slice none 0 0]):=by
 simp[C1,bt5,K7,Instr.fill,af8,af9,ab4,b]
def bs3(id kind:Int)(a b c d:Value):C1 prog 113 [(0,.int .i64 id),(1,.int .i64 kind),(5,.agg #[a,b,c,d])]=some (.agg #[.int .i64 id,.int .i64 kind,.slice none 0 0,t8 e0,t8 e0,a,b,c,d,.bool false,.slice none 0 0,.slice none 0 0,.slice none 0 0]):=by
 simp[C1,bt5,K7,Instr.fill,af8,aH6,ab4]
def bs4(id kind:Int)(n:B3):C1 prog 113 [(0,.int .i64 id),(1,.int .i64 kind),(3,t8 n)]=some (.agg #[.int .i64 id,.int .i64 kind,.slice none 0 0,t8 n,t8 e0,.int .i64 0,.int .i64 0,t8 e0,.slice none 0 0,.bool false,.slice none 0 0,.slice none 0 0,.slice none 0 0]):=by
 simp[C1,bt5,K7,Instr.fill,af8,af9,ab4]
def bs5(id kind:Int)(b c d e a:Value)(f:a.cells=#[a]):C1 prog 113 [(0,.int .i64 id),(1,.int .i64 kind),(5,.agg #[b,c,d,e]),(8,a)]=some (.agg #[.int .i64 id,.int .i64 kind,.slice none 0 0,t8 e0,t8 e0,b,c,d,e,.bool false,.slice none 0 0,a,.slice none 0 0]):=by
 simp[C1,bt5,K7,Instr.fill,af8,aH6,ab4,f]
def bs6(id kind:Int)(a b c d:Value):C1 prog 113 [(0,.int .i64 id),(1,.int .i64 kind),(6,.bool true),(5,.agg #[a,b,c,d])]=some (.agg #[.int .i64 id,.int .i64 kind,.slice none 0 0,t8 e0,t8 e0,a,b,c,d,.bool true,.slice none 0 0,.slice none 0 0,.slice none 0 0]):=by
 simp[C1,bt5,K7,Instr.fill,af8,bc1,aH6,ab4]
def ba1(a b c d:Value):C1 prog 125 [(2,.agg #[a,b,c,d])]=some (.agg #[.bool false,t8 e0,a,b,c,d]):=by
 simp[C1,do3,K7,Instr.fill,aH6,ab4]
def ba2(n:B3):C1 prog 125 [(0,.bool true),(1,t8 n)]=some (.agg #[.bool true,t8 n,.int .i64 0,.int .i64 0,t8 e0,.slice none 0 0]):=by
 simp[C1,do3,K7,Instr.fill,bc1,af9,ab4]
def bp1(n:B3)(a b:Value)(d:a.cells=#[a])(c:b.cells=#[b]):C1 prog 68 [(0,t8 n),(2,a),(3,b)]=some (.agg #[t8 n,.slice none 0 0,a,b,.slice none 0 0]):=by
 simp[C1,dF8,K7,Instr.fill,af9,ab4,d,c]
def bp2(n:B3)(a b c:Value)(f:a.cells=#[a])(d:b.cells=#[b])(e:c.cells=#[c]):C1 prog 68 [(0,t8 n),(1,a),(4,c),(3,b)]=some (.agg #[t8 n,a,.slice none 0 0,b,c]):=by
 simp[C1,dF8,K7,Instr.fill,af9,ab4,f,d,e]
def bq1(n:B3):C1 prog 72 [(0,t8 n)]=some (.agg #[t8 n,.bool false]):=by
 simp[C1,do5,K7,Instr.fill,af9,ab4]
def bq2(n:B3):C1 prog 72 [(0,t8 n),(1,.bool true)]=some (.agg #[t8 n,.bool true]):=by
 simp[C1,do5,K7,Instr.fill,bc1,af9,ab4]
def bg1(a b:Value)(d:a.cells=#[a])(c:b.cells=#[b]):C1 prog 25 [(0,a),(1,b)]=some (.agg #[a,b]):=by
 simp[C1,dX0,K7,Instr.fill,d,c]
def cM1{N:Nat->Prop}(op:Int)(a b:Ex)(j k l m o p q r:Value)(w:World)(hN:∀b,N b->b<w.heap.size)(z:SV (D0 w N) (.agg #[j,k,l,m]) a)(hb:SV (D0 w N) (.agg #[o,p,q,r]) b):
  y5 prog 75 #[.int .i64 op,.agg #[j,k,l,m],.agg #[o,p,q,r]] w λu i=>(∃g,u = .agg #[.int .i64 op,.int .i64 0,t8 e0,g]/\R (D0 i N) g [a,b]/\o6 w i):=by
 refine bu9 (args:=[.int .i64 op,.agg #[j,k,l,m],.agg #[o,p,q,r]]) hm func75 rfl kr (by show 3<=_;decide +kernel) ?_;obtain⟨Z,X,B,d,s⟩:=bA8 (w:=w) (λ_=>False) z (λb h=>h.elim);obtain⟨d2,D,C,e,t⟩:=bA8 (w:=X) (λ_=>False) (hb.mono (noE d)) (λb h=>h.elim);obtain⟨E,Q,A,f,v⟩:=dl6 D;have x:∀{w i:World},o6 w i->E2 (D0 w λ_=>False) (i5 i):=fun{w i} hx=>p7 (B4 _ _) (b7 hx);have S:=(L8.ex_v z s).1 E (x (e.trans f));have T:=(L8.ex_v (hb.mono (noE d)) t).1 E (x f);have c:=d.trans e;obtain⟨g,Y,U,_,V,W,H,I⟩:=dD5 (P:=prog) dV2 rfl (w:=E) (h:=D0 D N) (xs:=[.agg #[j,k,l,m],.agg #[o,p,q,r]]) (ys:=[a,b]) (parts:=#[(0,.agg #[j,k,l,m]),(1,.agg #[o,p,q,r])]) (n:=2) rfl ⟨z.mono (noE c),hb.mono (noE c),trivial⟩ rfl dP dP (p7 (B4 _ _) (b7 f));have y:=W8 H.isS;obtain⟨w5,J,K,F,L⟩:=v Y #[.int .i64 op,.int .i64 0,t8 Go.Proofs.YtpebpfiglfmegaaGreat.e0,g] (by rw[ak6];rfl) (λu G=>by
  simp only[ek9,en5,es4]at G;rcases G with rfl|rfl|rfl|rfl
  .rfl
  .rfl
  .rfl
  .exact y) W
 simp only[eH,simprocAttr,B,C,A,S,T,U,db7 op g V,J];refine O5 results75 (ad:=⟨D.heap.size,0,none⟩) (by simp only[B8,simprocAttr]) K ?_;refine⟨g,rfl,?_,(d.trans e).trans F⟩;refine(H.mod L λb M h2=>(by have O:=I b M;omega)).ro (noE F) λb hb=>E4 λh=>?_;have O:=I b hb;have h4:=hN b h;have h5:=c.size;omega
def dU6(w:World):∃d,w.heap.size<d.heap.size/\(Instr.alloc 25 true (.tuple #[])).run prog w = .ok (.pointer (some ⟨w.heap.size,0,none⟩)) d/\o6 w d/\∀(e:World) (c:Array Value),c.size=N6 prog 25->(∀u∈c.toList,u.oneCell'=true)->o6 d e ->
  ∃a,(Instr.storeAt 25 (.pointer (some ⟨w.heap.size,0,none⟩)) (.agg c)).run prog e = .ok () a/\(Instr.loadAt 25 (.pointer (some ⟨w.heap.size,0,none⟩))).run prog a = .ok (.agg c) a/\o6 w a/\p6 (λb=>b=w.heap.size) e a:=
 dl5 dG3 (by rw[ct5];rfl) (by simp[Value.cells,Value.oneCell']) do1 dp4 do2 w
theorem eg5:Value.string ⟨#[118]⟩=t8 sV:=rfl
theorem eg3:Value.string ⟨#[103]⟩=t8 sG:=rfl
theorem eg4:Value.string ⟨#[112]⟩=t8 sP:=rfl
theorem eg6:Value.string ⟨#[120]⟩=t8 sX:=rfl
theorem eg7:Value.string ⟨#[121]⟩=t8 sY:=rfl
theorem eg2:Value.string ⟨#[101]⟩=t8 sE:=rfl
theorem dU7:Value.string ⟨#[109,97,105,110]⟩=t8 J0:=rfl
def da2(w:World):y5 prog 42 #[] w λu y=>(SV (i5 y) u aw1/\o6 w y):=by
 refine z6 [] func42 rfl ?_;obtain⟨w0,bc,Z,bd,D⟩:=dU6 w;have hN:∀{y:World},o6 w0 y->∀b,b=w.heap.size->b<y.heap.size:=fun{y} hx b hb=>by have:=hx.size;omega
 obtain⟨v1,w1,q1,r1,k1,x1⟩:=dJ3 sV (N:=λb=>b=w.heap.size) w0 (hN (p6.refl _));simp only[i4,simprocAttr,Z,eg5,eg3,eg4,eg6,eg7,eg2,dU7,q1];refine B6 (cc6 2 w1) (λw2 x2=>?_);simp only[i4,simprocAttr,bs1];refine B6 (cc6 3 w2) (λw3 x3=>?_);have y3:=(x1.trans x2).trans x3;obtain⟨v4,w4,q4,r4,k4,x4,_,_⟩:=cU5 (P:=prog) (α:=Ar) dV1 rfl (N:=λb=>b=w.heap.size) (w:=w3) (hN y3) (xs:=[.agg #[.bool false,t8 e0,.int .i64 1,.int .i64 3,t8 e0,.slice none 0 0],.agg #[.bool true,t8 sV,.int .i64 0,.int .i64 0,t8 e0,.slice none 0 0]]) (ys:=[⟨false,e0,bv4 3⟩,⟨true,sV,.mk 0 0 e0 []⟩]) (parts:=#[(0,.agg #[.bool false,t8 e0,.int .i64 1,.int .i64 3,t8 e0,.slice none 0 0]),(1,.agg #[.bool true,t8 sV,.int .i64 0,.int .i64 0,t8 e0,.slice none 0 0])]) (n:=2) rfl ⟨dE9 (aF4 L6),dE9 (aF4 L6),trivial⟩ rfl dP dP;simp only[i4,simprocAttr,ba1,ba2,q4,bs2 _ _ _ _ _ k4];refine B6 (ay8 sV w4) (λw5 x5=>?_);simp only[i4,simprocAttr,bs3];refine B6 (ay8 sG w5) (λw6 x6=>?_);have y6:=((y3.trans x4).trans x5).trans x6;obtain⟨v7,w7,q7,r7,k7,x7,_,_⟩:=cU5 (P:=prog) (α:=St) dm3 rfl (N:=λb=>b=w.heap.size) (w:=w6) (hN y6) (xs:=[.agg #[.int .i64 1,.int .i64 1,.slice none 0 0,t8 sV,t8 e0,.int .i64 1,.int .i64 2,t8 e0,.slice none 0 0,.bool false,.slice none 0 0,.slice none 0 0,.slice none 0 0],.agg #[.int .i64 2,.int .i64 4,.slice none 0 0,t8 sG,t8 sP,.int .i64 0,.int .i64 0,t8 e0,.slice none 0 0,.bool false,v4,.slice none 0 0,.slice none 0 0],.agg #[.int .i64 3,.int .i64 3,.slice none 0 0,t8 e0,t8 e0,.int .i64 2,.int .i64 0,t8 sV,.slice none 0 0,.bool false,.slice none 0 0,.slice none 0 0,.slice none 0 0],.agg #[.int .i64 4,.int .i64 3,.slice none 0 0,t8 e0,t8 e0,.int .i64 2,.int .i64 0,t8 sG,.slice none 0 0,.bool false,.slice none 0 0,.slice none 0 0,.slice none 0 0]]) (ys:=[.mk 1 1 [] sV e0 (bv4 2) false [] [] [],.mk 2 4 [] sG sP (.mk 0 0 e0 []) false [⟨false,e0,bv4 3⟩,⟨true,sV,.mk 0 0 e0 []⟩] [] [],.mk 3 3 [] e0 e0 (ak0 sV) false [] [] [],.mk 4 3 [] e0 e0 (ak0 sG) false [] [] []]) (parts:=#[(0,.agg #[.int .i64 1,.int .i64 1,.slice none 0 0,t8 sV,t8 e0,.int .i64 1,.int .i64 2,t8 e0,.slice none 0 0,.bool false,.slice none 0 0,.slice none 0 0,.slice none 0 0]),(1,.agg #[.int .i64 2,.int .i64 4,.slice none 0 0,t8 sG,t8 sP,.int .i64 0,.int .i64 0,t8 e0,.slice none 0 0,.bool false,v4,.slice none 0 0,.slice none 0 0]),(2,.agg #[.int .i64 3,.int .i64 3,.slice none 0 0,t8 e0,t8 e0,.int .i64 2,.int .i64 0,t8 sV,.slice none 0 0,.bool false,.slice none 0 0,.slice none 0 0,.slice none 0 0]),(3,.agg #[.int .i64 4,.int .i64 3,.slice none 0 0,t8 e0,t8 e0,.int .i64 2,.int .i64 0,t8 sG,.slice none 0 0,.bool false,.slice none 0 0,.slice none 0 0,.slice none 0 0])]) (n:=4) rfl ⟨by8 L6 (aF4 L6) L6 L6 L6,by8 L6 (aF4 L6) (A6.mono (noE (x5.trans x6)) r4) L6 L6,by8 L6 (aF4 L6) L6 L6 L6,by8 L6 (aF4 L6) L6 L6 L6,trivial⟩ rfl dP dP;have y7:=y6.trans x7;have c:SV (D0 w7 λb=>b=w.heap.size) (.agg #[t8 J0,.slice none 0 0,v1,v7,.slice none 0 0]) bK4:=dF0 L6 (A6.mono (noE (((((x2.trans x3).trans x4).trans x5).trans x6).trans x7)) r1) r7 L6;obtain⟨d1,bz,w8,B,E,x8,C⟩:=aY5 (w:=w7) (λb=>b=w.heap.size) c (hN y7);have y8:=y7.trans x8;obtain⟨v9,w9,q9,r9,k9,x9,_,_⟩:=cU5 (P:=prog) (α:=Pa) dV7 rfl (N:=λb=>b=w.heap.size) (w:=w8) (hN y8) (xs:=[.agg #[t8 sX,.bool false],.agg #[t8 sY,.bool true]]) (ys:=[⟨sX,false⟩,⟨sY,true⟩]) (parts:=#[(0,.agg #[t8 sX,.bool false]),(1,.agg #[t8 sY,.bool true])]) (n:=2) rfl ⟨⟨_,rfl,rfl⟩,⟨_,rfl,rfl⟩,trivial⟩ rfl dP dP;have y9:=y8.trans x9;obtain⟨p,M,ag,am,aa,Q⟩:=dJ3 sE (N:=λb=>b=w.heap.size) w9 (hN y9);simp only[i4,simprocAttr,bs3,q7,bp1 _ _ _ k1 k7,B,E,bq1,bq2,q9,ag];refine B6 (ay8 sY M) (λay r=>?_);simp only[i4,simprocAttr];refine B6 (ay8 sX ay) (λaz s=>?_);have S:=((y9.trans Q).trans r).trans s;simp only[i4,simprocAttr];refine y4 (cM1 (N:=λb=>b=w.heap.size) 8 (ak0 sY) (ak0 sX) _ _ _ _ _ _ _ _ az (hN S) (aF4 L6) (aF4 L6)) ?_;rintro _ aA ⟨J,rfl,an,t⟩;simp only[i4,simprocAttr,bs1];refine B6 (ay8 sY aA) (λaB h=>?_);simp only[i4,simprocAttr];refine B6 (cc6 9 aB) (λaC i=>?_);have T:=((S.trans t).trans h).trans i;simp only[i4,simprocAttr];refine y4 (cM1 (N:=λb=>b=w.heap.size) 12 (ak0 sY) (bv4 9) _ _ _ _ _ _ _ _ aC (hN T) (aF4 L6) (aF4 L6)) ?_;rintro _ aD ⟨K,rfl,ao,j⟩;have U:=T.trans j;obtain⟨L,aE,ah,ap,ab,e,_,_⟩:=cU5 (P:=prog) (α:=St) dm3 rfl (N:=λb=>b=w.heap.size) (w:=aD) (hN U) (xs:=[.agg #[.int .i64 7,.int .i64 10,.slice none 0 0,t8 sE,t8 e0,.int .i64 0,.int .i64 0,t8 e0,.slice none 0 0,.bool false,.slice none 0 0,.slice none 0 0,.slice none 0 0]]) (ys:=[.mk 7 10 [] sE e0 (.mk 0 0 e0 []) false [] [] []]) (parts:=#[(0,.agg #[.int .i64 7,.int .i64 10,.slice none 0 0,t8 sE,t8 e0,.int .i64 0,.int .i64 0,t8 e0,.slice none 0 0,.bool false,.slice none 0 0,.slice none 0 0,.slice none 0 0])]) (n:=1) rfl ⟨by8 L6 (aF4 L6) L6 L6 L6,trivial⟩ rfl dP dP;simp only[i4,simprocAttr,bs4,ah,bs5 _ _ _ _ _ _ _ ab];refine B6 (ay8 sY aE) (λaF a=>?_);have V:=(U.trans e).trans a;have F:=A6.mono (noE ((((h.trans i).trans j).trans e).trans a)) an;obtain⟨q,f,aj,aq,ac,v,_,_⟩:=cU5 (P:=prog) (α:=St) dm3 rfl (N:=λb=>b=w.heap.size) (w:=aF) (hN V) (xs:=[.agg #[.int .i64 5,.int .i64 1,.slice none 0 0,t8 sY,t8 e0,.int .i64 8,.int .i64 0,t8 e0,J,.bool false,.slice none 0 0,.slice none 0 0,.slice none 0 0],.agg #[.int .i64 6,.int .i64 5,.slice none 0 0,t8 e0,t8 e0,.int .i64 12,.int .i64 0,t8 e0,K,.bool false,.slice none 0 0,L,.slice none 0 0],.agg #[.int .i64 8,.int .i64 9,.slice none 0 0,t8 e0,t8 e0,.int .i64 2,.int .i64 0,t8 sY,.slice none 0 0,.bool true,.slice none 0 0,.slice none 0 0,.slice none 0 0]]) (ys:=[.mk 5 1 [] sY e0 (cI7 8 (ak0 sY) (ak0 sX)) false [] [] [],.mk 6 5 [] e0 e0 (cI7 12 (ak0 sY) (bv4 9)) false [] [.mk 7 10 [] sE e0 (.mk 0 0 e0 []) false [] [] []] [],.mk 8 9 [] e0 e0 (ak0 sY) true [] [] []]) (parts:=#[(0,.agg #[.int .i64 5,.int .i64 1,.slice none 0 0,t8 sY,t8 e0,.int .i64 8,.int .i64 0,t8 e0,J,.bool false,.slice none 0 0,.slice none 0 0,.slice none 0 0]),(1,.agg #[.int .i64 6,.int .i64 5,.slice none 0 0,t8 e0,t8 e0,.int .i64 12,.int .i64 0,t8 e0,K,.bool false,.slice none 0 0,L,.slice none 0 0]),(2,.agg #[.int .i64 8,.int .i64 9,.slice none 0 0,t8 e0,t8 e0,.int .i64 2,.int .i64 0,t8 sY,.slice none 0 0,.bool true,.slice none 0 0,.slice none 0 0,.slice none 0 0])]) (n:=3) rfl ⟨by8 L6 (aF4 F) L6 L6 L6,by8 L6 (aF4 (A6.mono (noE (e.trans a)) ao)) L6 (A6.mono (noE a) ap) L6,by8 L6 (aF4 L6) L6 L6 L6,trivial⟩ rfl dP dP;have W:=V.trans v;have z9:o6 w9 f:=((((((((Q.trans r).trans s).trans t).trans h).trans i).trans j).trans e).trans a).trans v;have aL:o6 M f:=(((((((r.trans s).trans t).trans h).trans i).trans j).trans e).trans a).trans v;have d:SV (D0 f λb=>b=w.heap.size) (.agg #[t8 sP,v9,.slice none 0 0,q,p]) bK5:=dF0 (A6.mono (noE z9) r9) L6 aq (A6.mono (noE aL) am);obtain⟨d2,aU,aG,l,o,x,m⟩:=aY5 (w:=f) (λb=>b=w.heap.size) d (hN W);have X:=W.trans x;obtain⟨au,g,ak,G,ae,k⟩:=dJ3 sG (N:=λb=>b=w.heap.size) aG (hN X);have Y:=X.trans k;have z8:o6 w8 g:=((x9.trans z9).trans x).trans k;have l1:=(L8.pr_v c C).1 g (p7 (noE z8) (B4 _ _));have l2:=(L8.pr_v d m).1 g (p7 (noE k) (B4 _ _));obtain⟨av,O,al,I,af,R,_,_⟩:=cU5 (P:=prog) (α:=Pr) dV8 rfl (N:=λb=>b=w.heap.size) (w:=g) (hN Y) (xs:=[.agg #[t8 J0,.slice none 0 0,v1,v7,.slice none 0 0],.agg #[t8 sP,v9,.slice none 0 0,q,p]]) (ys:=[bK4,bK5]) (parts:=#[(0,.agg #[t8 J0,.slice none 0 0,v1,v7,.slice none 0 0]),(1,.agg #[t8 sP,v9,.slice none 0 0,q,p])]) (n:=2) rfl ⟨c.mono (noE (x8.trans z8)),d.mono (noE (x.trans k)),trivial⟩ rfl dP dP;have aK:=Y.trans R;have H:=A6.mono (noE R) G;have z:=ah2 G;have A:=ah2 I;obtain⟨aH,e1,e2,e3,e4⟩:=D O #[au,av] (by rw[ct5];rfl) (λu hu=>by
  simp only[ek9,en5,es4]at hu;rcases hu with rfl|rfl
  .exact z
  .exact A) aK
 simp only[i4,simprocAttr,bs6,aj,bp2 _ _ _ _ k9 ac aa,l,o,ak,l1,l2,al,bg1 _ _ ae af,e1];refine O5 results42 (ad:=⟨w.heap.size,0,none⟩) (by simp only[B8,simprocAttr]) e2 ?_;refine⟨?_,e3⟩;have hh:E2 (D0 O λb=>b=w.heap.size) (i5 aH):=G4 (B4 _ _) e4 λb hb=>G1 hb;exact dW2 (A6.mono hh H) (A6.mono hh I)
def cL7:C4 aw1<=1000000:=by decide +kernel
def bQ0(q:B3)(k d:Int):C1 prog 27 [(0,t8 q),(1,.int .i64 k),(2,.int .i64 d)]=some (.agg (p8.cells (⟨q,k,d,e0⟩:Vx)).toArray):=by
 have h:p8.cells (⟨q,k,d,e0⟩:Vx)=[t8 q,.int .i64 k,.int .i64 d,t8 e0]:=rfl;rw[h];simp[C1,bW4,K7,Instr.fill,Value.cells,t8,e0];rfl
def ab1(y:Vx)(w:World):∃u a,(Instr.buildSlice 35 1 #[(0,.agg (p8.cells y).toArray)]).run prog w = .ok u a/\R (i5 a) u [y]/\o6 w a:=by
 obtain⟨u,a,c,d,b,_⟩:=lit (P:=prog) (t:=35) (w:=w) (h:=i5 w) (α:=Vx) (xs:=[.agg (p8.cells y).toArray]) (ys:=[y]) (parts:=#[(0,.agg (p8.cells y).toArray)]) (n:=1) aD0 rfl (al6 ((p8.iff_ _ _ _).2 (by simp[Value.cells]))) (by simp[Value.cells];rfl) rfl rfl dP dP (n7 _);exact⟨u,a,c,d.rw_ (b7 b),b⟩
def P3(n:Nat):Int:=((min n 20001:Nat):Int)
def dv1(n:Nat):0<=P3 n/\P3 n<=20001:=by unfold P3;omega
def aA2{n:Nat}(h:P3 n<=20000):P3 n=(n:Int)/\n<=20000:=by unfold P3 at *;omega
def ap6{n m:Nat}(h:¬P3 n<=20000)(hm:n<=m):P3 m=20001/\P3 n=20001:=by unfold P3 at *;omega
def I3{α:Type}(f:α->Nat)(l:List α):Nat:=(l.map f).sum
section
variable {α:Type} {f:α->Nat}
def ar2{l:List α}{k:Nat}(a:k<l.length):I3 f (l.take (k+1))=I3 f (l.take k)+f l[k]:=by
 unfold I3;rw[ej8 a,em6,List.sum_append];simp only[en8,List.map_nil,eu6,List.sum_nil];omega
def aJ8(l:List α)(k:Nat):I3 f (l.take k)<=I3 f l:=by
 unfold I3
 conv=>rhs;rw[<-en4 k l]
 rw[em6,List.sum_append];omega
def ar1(h:∀x,1<=f x):∀(l:List α),l.length<=I3 f l
 | []=>dP
 | x::l=>by
  have:=ar1 h l;have:=h x;unfold I3 at *;simp only[en8,eu6,em1];omega
end
theorem cu4:∀l:List B3,aK3 l=I3 wtT l
 | []=>rfl
 | s::l=>by rw[aK3,cu4 l];rfl
theorem bX4:∀l:List Ex,aD7 l=I3 aa3 l
 | []=>rfl
 | s::l=>by rw[aD7,bX4 l];rfl
theorem bX2:∀l:List Ar,aj1 l=I3 av6 l
 | []=>rfl
 | s::l=>by rw[aj1,bX2 l];rfl
theorem bu5:∀l:List St,K0 l=I3 V7 l
 | []=>rfl
 | s::l=>by rw[K0,bu5 l];rfl
theorem bX5:∀l:List Pa,bM4 l=I3 (λa=>wtT a.name) l
 | []=>rfl
 | s::l=>by rw[bM4,bX5 l];rfl
theorem bX6:∀l:List Pr,aQ1 l=I3 ad1 l
 | []=>rfl
 | s::l=>by rw[aQ1,bX6 l];rfl
def aY8(s:B3):1<=wtT s:=by unfold wtT;omega
def dr7(a:Ar):1<=av6 a:=by unfold av6;have:=aY8 a.name;omega
def dr8(f:Pr):1<=ad1 f:=by unfold ad1;have:=aY8 f.name;omega
def Y4(s:B3)(n:Nat)(w:World):y5 prog 44 #[t8 s,.int .i64 (P3 n)] w λu g=>(u = .int .i64 (P3 (n+wtT s))/\g=w):=by
 refine z6 [t8 s,.int .i64 (P3 n)] func44 rfl ?_;have a:ab0 prog 9 (t8 s)=some (.int .i64 (s.b.length:Nat)):=dS0 kr kr;have k:=dv1 n;have l:wtT s=1+s.b.length:=rfl;rcases ej1 (decide (20000<P3 n))with h1|h1
 .have c:=ej3 h1;simp only[eH,simprocAttr,h1];refine o8 results44 ?_;simp only[B8,simprocAttr];exact⟨by rw[(ap6 om (by omega:n<=n+wtT s)).1],tt⟩
 have c:=ej6 h1;obtain⟨h,j⟩:=aA2 (n:=n) om;have b:IntKind.i64.wrap (20000-P3 n)=20000-P3 n:=M7 _ om;generalize i:((s.b.length:Nat):Int)=L at a;rcases ej1 (decide (20000-P3 n<=L))with h2|h2
 .have d:=ej3 h2;simp only[eH,simprocAttr,h1,a,b,h2];refine o8 results44 ?_;simp only[B8,simprocAttr];have:P3 (n+wtT s)=20001:=by unfold P3 at *;omega
  exact⟨by rw[this],tt⟩
 have d:=ej6 h2;have e:IntKind.i64.wrap (P3 n+1)=P3 n+1:=M7 _ om;have f:IntKind.i64.wrap (P3 n+1+L)=P3 n+1+L:=M7 _ om;simp only[eH,simprocAttr,h1,a,b,h2,e,f];refine o8 results44 ?_;simp only[B8,simprocAttr];have:P3 (n+wtT s)=P3 n+1+L:=by unfold P3 at *;omega
 exact⟨by rw[this],tt⟩
def ao8(v:Value)(l:List B3)(n:Nat)(w:World)(hv:R (i5 w) v l):y5 prog 43 #[v,.int .i64 (P3 n)] w λu t=>(u = .int .i64 (P3 (n+aK3 l))/\t=w):=by
 refine z6 [v,.int .i64 (P3 n)] func43 rfl ?_;have o:=hv.isS;have r:=hv.vlen;rw[cu4];simp only[eH,simprocAttr];refine A9 [0] (σ:=Nat) (λi f t=>f 5 = .int .i64 i/\f 1 = .int .i64 (P3 (n+I3 wtT (l.take i)))/\i<=l.length/\t=w) (λi=>l.length-i) 0 ?_ ?_
 .simp only[B8,simprocAttr];exact⟨tt,by simp[I3],ek1 _,tt⟩
 rintro i f z ⟨e0,_⟩ ⟨j,c,y,rfl⟩;rcases ej1 (decide ((i:Int)<(l.length:Int)))with hc|hc;rotate_left
 .have p:i=l.length:=by have:=ej6 hc;omega
  subst p;rw[ek4]at c;simp only[eH,simprocAttr,j,e0,o,r,hc,c];exact o8 results43 ⟨rfl,rfl⟩
 have a:i<l.length:=by have:=ej3 hc;omega
 have g:=aJ8 (f:=wtT) l i;have q:=hv.inS a;have d:=ldS hv (n7 _) a;have b:=ar2 (f:=wtT) a;have h:=ar1 aY8 (l.take i);rw[ek3]at h;generalize l[i]=s at d b;generalize I3 wtT (l.take i)=S at c b g h;rcases ej1 (decide (P3 (n+S)<=20000))with h2|h2;rotate_left
 .have k:=ej6 h2;have e:=ap6 (m:=n+I3 wtT l) k om;simp only[eH,simprocAttr,j,e0,o,r,hc,c,h2];refine o8 results43 ?_;simp only[B8,simprocAttr];exact⟨by rw[e.1,e.2],tt⟩
 obtain⟨_,x⟩:=aA2 (ej3 h2);simp only[i4,n9,A0,simprocAttr,j,e0,o,r,hc,c,h2,q,d];refine F6 (Y4 s (n+S) _) ?_;simp only[eH,simprocAttr,j];exact nx2 (i+1) ⟨by rw[b,<-et9],om,tt⟩
def bb3:∀(m:Nat) (x:Ex) (v:Value) (n:Nat) (w:World),aa3 x<=m->SV (i5 w) v x ->
  y5 prog 76 #[v,.int .i64 (P3 n)] w λu M=>(u = .int .i64 (P3 (n+aa3 x))/\o6 w M):=by
 intro m
 induction m using Nat.strongRecOn with
 | ind m Y=>
 intro x v n w V W;refine z6 [v,.int .i64 (P3 n)] func76 rfl ?_;have A:=cf9 x;rw[bX4]at A;have p:∀y∈x.kids,aa3 y<aa3 x:=λy X=>by
  have k:=bu4 X;have o:=cf9 x;have h3:=aY8 x.name;omega
 rw[A];obtain⟨a,O,G,B,F⟩:=aV6 W (n7 _);obtain⟨vk,c,R,_⟩:=F.ex;have h:=c.isS;have g:=c.vlen;simp only[eH,simprocAttr,G,R O (n7 _)];refine F6 (Y4 x.name n O) ?_;generalize hN:n+wtT x.name=N;rw[show n+(wtT x.name+I3 aa3 x.kids)=N+I3 aa3 x.kids by omega];generalize x.kids=l at c g p;simp only[i4,simprocAttr];refine A9 [2] (σ:=Nat) (λi f M=>f 5 = .int .i64 i/\f 1 = .int .i64 (P3 (N+I3 aa3 (l.take i)))/\i<=l.length/\o6 O M) (λi=>l.length-i) 0 ?_ ?_
 .simp only[B8,simprocAttr];exact⟨tt,by simp[I3],ek1 _,p6.refl _⟩
 rintro i f T ⟨D,_⟩ ⟨C,k,U,b⟩;have L:=R T (b7 b);rcases ej1 (decide ((i:Int)<(l.length:Int)))with hc|hc;rotate_left
 .have H:i=l.length:=by have:=ej6 hc;omega
  subst H;rw[ek4]at k;simp only[eH,simprocAttr,C,D,L,h,g,hc,k];exact o8 results76 ⟨rfl,B.trans b⟩
 have d:i<l.length:=by have:=ej3 hc;omega
 have r:=aJ8 (f:=aa3) l i;have j:=ar2 (f:=aa3) d;have s:=ar1 aV3 (l.take i);rw[ek3]at s;have I:=c.inS d;obtain⟨Z,z,q⟩:=H1 (P:=prog) (t:=110) c (b7 b) (ej0 d) bt2 bt7 be5 ak6;rw[ak6]at q;have J:=p _ (ek0 d);generalize l[i]=y at z j J;generalize I3 aa3 (l.take i)=S at k j r s;rcases ej1 (decide (P3 (N+S)<=20000))with o|o;rotate_left
 .have E:=ej6 o;have e:=ap6 (m:=N+I3 aa3 l) E om;simp only[eH,simprocAttr,C,D,L,h,g,hc,k,o];refine o8 results76 ?_;simp only[B8,simprocAttr];exact⟨by rw[e.1,e.2],B.trans b⟩
 obtain⟨_,Q⟩:=aA2 (ej3 o);simp only[i4,n9,A0,simprocAttr,C,D,L,h,g,hc,k,o,I,q];refine B6 (Y (aa3 y) om y Z (N+S) T (ek6 _) (z.mono (b7 b))) (λw3 K=>?_);simp only[eH,simprocAttr,C];exact nx2 (i+1) ⟨by rw[j,<-et9],om,b.trans K⟩
def aV2:∀(m:Nat) (l:List St) (v:Value) (n:Nat) (w:World),K0 l<=m->R (i5 w) v l ->
  y5 prog 45 #[v,.int .i64 (P3 n)] w λu b=>(u = .int .i64 (P3 (n+K0 l))/\o6 w b):=by
 intro m
 induction m using Nat.strongRecOn with
 | ind m ih=>
 intro l v n w aC hv;refine z6 [v,.int .i64 (P3 n)] func45 rfl ?_;have J:∀t∈l,K0 t.thn<K0 l/\K0 t.els<K0 l:=λt ht=>by
  have L:=ar5 ht;have V:=X3 t;have C:=aY8 t.name;omega
 have hS:=hv.isS;have hn:=hv.vlen;rw[bu5]at aC ⊢;rw[bu5 l]at J;simp only[eH,simprocAttr];refine A9 [0] (σ:=Nat) (λi f b=>f 5 = .int .i64 i/\f 1 = .int .i64 (P3 (n+I3 V7 (l.take i)))/\i<=l.length/\o6 w b) (λi=>l.length-i) 0 ?_ ?_
 .simp only[B8,simprocAttr];exact⟨tt,by simp[I3],ek1 _,p6.refl _⟩
 rintro i f w2 ⟨e0,_⟩ ⟨W,L,aZ,z⟩;rcases ej1 (decide ((i:Int)<(l.length:Int)))with hc|hc;rotate_left
 .have O:i=l.length:=by have:=ej6 hc;omega
  subst O;rw[ek4]at L;simp only[eH,simprocAttr,W,e0,hS,hn,hc,L];exact o8 results45 ⟨rfl,z⟩
 have D:i<l.length:=by have:=ej3 hc;omega
 have ad:=aJ8 (f:=V7) l i;have T:=ar2 (f:=V7) D;have af:=ar1 (f:=V7) (λt=>by have:=cu3 t;omega) (l.take i);rw[ek3]at af;have ax:=hv.inS D;obtain⟨sv,ah,ac⟩:=H1 (P:=prog) (t:=113) hv (b7 z) (ej0 D) be4 be7 aO3 af3;rw[af3]at ac;obtain⟨aA,aB⟩:=J _ (ek0 D);generalize l[i]=t at ah T aA aB;generalize I3 V7 (l.take i)=S at L T ad af;rcases ej1 (decide (P3 (n+S)<=20000))with V|V;rotate_left
 .have ar:=ej6 V;have e:=ap6 (m:=n+I3 V7 l) ar om;simp only[eH,simprocAttr,W,e0,hS,hn,hc,L,V];refine o8 results45 ?_;simp only[B8,simprocAttr];exact⟨by rw[e.1,e.2],z⟩
 obtain⟨_,aT⟩:=aA2 (ej3 V);obtain⟨d,wz,q,av,aD,aG,aw⟩:=bm8 (ah.mono (b7 z)) (n7 _);have ak:=z.trans aG;obtain⟨vl,va,vt,ve,ay,s,aj,aa,Z,aJ,am⟩:=aw.st;obtain⟨sx,aE,_,aM⟩:=Z.ex_v;have aF:=X3 t;have t1:=am (λb=>o6 q.drew b) q.drew (p6.refl _) λb h=>b7 ((o6.drew q).trans h);have t2:=aM (λb=>o6 q.drew b) q.drew (p6.refl _) λb h=>b7 ((o6.drew q).trans h);simp only[i4,n9,A0,simprocAttr,W,e0,hS,hn,hc,L,V,ax,ac,av,aD];refine C0 (λb=>o6 q.drew b) 14 (A7 [0,1,2,3,4,5,6,7,8,9,10,11,12,13]) ?_;simp only[D7,A7,i4,n9,simprocAttr,t1,t2,L];refine B6 (bb3 (aa3 t.x) t.x sx (n+S) q.drew (ek6 _) (aE.mono (b7 (o6.drew q)))) (λw4 p=>⟨p,?_⟩);simp only[fc,simprocAttr];refine F6 (ao8 vl t.labels (n+S+aa3 t.x) w4 (A6.mono (b7 ((o6.drew q).trans p)) ay)) ⟨p,?_⟩;simp only[fc,simprocAttr];refine F6 (Y4 t.name (n+S+aa3 t.x+aK3 t.labels) w4) ⟨p,?_⟩;simp only[fc,simprocAttr];refine F6 (Y4 t.proc (n+S+aa3 t.x+aK3 t.labels+wtT t.name) w4) ⟨p,?_⟩;generalize hB:n+S+aa3 t.x+aK3 t.labels+wtT t.name+wtT t.proc=B;have al:=(o6.drew q).trans p;have N:=s.isS;have E:=s.vlen;have M:n+I3 V7 (l.take (i+1))=B+I3 av6 t.args+K0 t.thn+K0 t.els:=by rw[T,aF,<-bX2,<-hB];omega
 generalize t.args=a at s E M;simp only[fc,simprocAttr];refine A9 [0,5,6] (σ:=Nat) (λk f' b=>f' 7 = .int .i64 k/\f' 1 = .int .i64 (P3 (B+I3 av6 (a.take k)))/\k<=a.length/\o6 q b) (λk=>a.length-k) 0 ?_ ?_
 .simp only[B8,simprocAttr];exact⟨tt,by simp[I3],ek1 _,al⟩
 rintro k f2 j ⟨g0,g5,U,_⟩ ⟨X,o,a0,F⟩;rw[e0]at g0;have l5:=aJ j (b7 F);have K:=ak.trans F;have aS:=aJ8 (f:=av6) a k;have g:=F.trans (o6.drew j);have t3:=am (λb=>o6 j.drew b) j.drew (p6.refl _) λb h=>b7 (g.trans h);rcases ej1 (decide ((k:Int)<(a.length:Int))&&decide (P3 (B+I3 av6 (a.take k))<=20000))with hg|hg;rotate_left
 .have H:P3 (B+I3 av6 (a.take k))=P3 (B+I3 av6 a):=by
   rcases ej1 (decide ((k:Int)<(a.length:Int)))with C|C
   .rw[C,eq4]at hg;have e:=ap6 (m:=B+I3 av6 a) (ej6 hg) om;rw[e.1,e.2]
   .have O:k=a.length:=by have:=ej6 C;omega
    rw[O,ek4]
  rw[H]at o;rcases ej1 (decide ((k:Int)<(a.length:Int)))with C|C
  .rw[C,eq4,H]at hg;simp only[eH,simprocAttr,X,U,l5,N,E,C,hg,o];refine C0 (λb=>o6 j.drew b) 8 (A7 [0,1,2,3,4,5,6,7]) ?_;simp only[D7,A7,i4,n9,simprocAttr,U,t3,o];refine B6 (ih (K0 t.thn) om t.thn vt (B+I3 av6 a) j.drew (ek6 _) (A6.mono (b7 g) aj)) (λw6 c=>⟨c,?_⟩);simp only[fc,simprocAttr];refine B6 (ih (K0 t.els) om t.els ve (B+I3 av6 a+K0 t.thn) w6 (ek6 _) (A6.mono (b7 (g.trans c)) aa)) (λw7 A=>⟨c.trans A,?_⟩);simp only[fc,simprocAttr];simp only[eH,simprocAttr,g5,W];exact nx2 (i+1) ⟨by rw[M],om,K.trans ((o6.drew j).trans (c.trans A))⟩
  .simp only[eH,simprocAttr,X,U,l5,N,E,C];refine C0 (λb=>o6 j.drew b) 8 (A7 [0,1,2,3,4,5,6,7]) ?_;simp only[D7,A7,i4,n9,simprocAttr,U,t3,o];refine B6 (ih (K0 t.thn) om t.thn vt (B+I3 av6 a) j.drew (ek6 _) (A6.mono (b7 g) aj)) (λw6 c=>⟨c,?_⟩);simp only[fc,simprocAttr];refine B6 (ih (K0 t.els) om t.els ve (B+I3 av6 a+K0 t.thn) w6 (ek6 _) (A6.mono (b7 (g.trans c)) aa)) (λw7 A=>⟨c.trans A,?_⟩);simp only[fc,simprocAttr];simp only[eH,simprocAttr,g5,W];exact nx2 (i+1) ⟨by rw[M],om,K.trans ((o6.drew j).trans (c.trans A))⟩
 rw[el3]at hg;have r:k<a.length:=by have:=ej3 hg.1;omega
 obtain⟨_,Q⟩:=aA2 (ej3 hg.2);have y:=ar2 (f:=av6) r;have I:=ar1 dr7 (a.take k);rw[ek3]at I;have ab:=s.inS r;have G:=s.at_ (i:=k) (x:=a[k]) (ej0 r);have aH:A6.sz Ar=6:=rfl;rw[aH]at G;obtain⟨Y,_,aL⟩:=G.ar;obtain⟨sa,ae,_,aK⟩:=Y.ex_v;have t4:=aL (λb=>o6 j.drew b) j.drew (p6.refl _) λb h=>b7 (g.trans h);have t5:=aK (λb=>o6 j.drew b) j.drew (p6.refl _) λb h=>b7 (g.trans h);generalize a[k]=ag at y ae t4;generalize I3 av6 (a.take k)=S2 at o y Q I hg;simp only[eH,simprocAttr,X,U,l5,N,E,hg.1,hg.2,o];refine C0 (λb=>o6 j.drew b) 16 (A7 [0,1,2,3,4,5,6,7,8,9,10,11,12,13,14,15]) ?_;simp only[D7,A7,i4,n9,A0,simprocAttr,U,X,t3,t4,t5,ab,o];refine B6 (bb3 (aa3 ag.x) ag.x sa (B+S2) j.drew (ek6 _) (ae.mono (b7 g))) (λw6 c=>⟨c,?_⟩);simp only[fc,simprocAttr];refine F6 (Y4 ag.name (B+S2+aa3 ag.x) w6) ⟨c,?_⟩;simp only[fc,simprocAttr];simp only[eH,simprocAttr,X];exact nx2 (k+1) ⟨by rw[y];unfold av6;rw[<-et9,<-et9],om,F.trans ((o6.drew j).trans c)⟩
def aQ8(v:Value)(p:Pg)(w:World)(hv:SV (i5 w) v p):y5 prog 12 #[v] w λu C=>(u = .bool (decide (C4 p<=20000))/\o6 w C):=by
 refine z6 [v] func12 rfl ?_;obtain⟨c,w1,aw,ae,W⟩:=U2 hv (n7 _);obtain⟨vg,vp,aB,z,ag,_⟩:=W.pg;have l1:=ag w1 (n7 _);have M:=z.isS;have E:=z.vlen;have s:∀m:Nat,P3 m=P3 (C4 p)->decide (P3 m<=20000)=decide (C4 p<=20000):=λm e=>by
  rw[e,eo4];unfold P3;omega
 have T:C4 p=aK3 p.globals+I3 ad1 p.procs:=by unfold C4;rw[bX6]
 simp only[eH,simprocAttr,aw,l1];have aq:Value.int IntKind.i64 0 = .int .i64 (P3 0):=rfl;rw[aq];refine F6 (ao8 vg p.globals 0 w1 aB) ?_;rw[en0];generalize aK3 p.globals=G at T;generalize p.procs=l at z E T;rw[T]at s ⊢;simp only[i4,simprocAttr];refine A9 [1] (σ:=Nat) (λi f C=>f 4 = .int .i64 i/\f 3 = .int .i64 (P3 (G+I3 ad1 (l.take i)))/\i<=l.length/\o6 w1 C) (λi=>l.length-i) 0 ?_ ?_
 .simp only[B8,simprocAttr];exact⟨tt,by simp[I3],ek1 _,p6.refl _⟩
 rintro i f w2 ⟨e1,_⟩ ⟨h4,V,aT,j⟩;have l2:=ag w2 (b7 j);rcases ej1 (decide ((i:Int)<(l.length:Int)))with hc|hc;rotate_left
 .have N:i=l.length:=by have:=ej6 hc;omega
  subst N;rw[ek4]at V;simp only[eH,simprocAttr,h4,e1,l2,M,E,hc,V,s _ rfl];exact o8 results12 ⟨rfl,ae.trans j⟩
 have Q:i<l.length:=by have:=ej3 hc;omega
 have aa:=aJ8 (f:=ad1) l i;have R:=ar2 (f:=ad1) Q;have ac:=ar1 dr8 (l.take i);rw[ek3]at ac;rcases ej1 (decide (P3 (G+I3 ad1 (l.take i))<=20000))with h2|h2;rotate_left
 .have ar:=ej6 h2;have e:=ap6 (m:=G+I3 ad1 l) ar om;have hr:=s _ (by rw[e.1,e.2]:P3 (G+I3 ad1 (l.take i))=P3 (G+I3 ad1 l));rw[hr]at h2;simp only[eH,simprocAttr,h4,e1,l2,M,E,hc,V,hr,h2];exact o8 results12 ⟨rfl,ae.trans j⟩
 obtain⟨_,ab⟩:=aA2 (ej3 h2);have ay:=z.inS Q;obtain⟨sv,ad,Z⟩:=H1 (P:=prog) (t:=68) z (b7 j) (ej0 Q) aD3 aD5 aw4 U0;rw[U0]at Z;generalize l[i]=q at ad R;generalize I3 ad1 (l.take i)=S at V R aa ac h2 ab;obtain⟨d,wz,A,au,az,aC,av⟩:=aY3 (ad.mono (b7 j)) (n7 _);have af:=j.trans aC;obtain⟨aZ,aJ,aj,aI,r,aA,X,ax,aG,aH⟩:=av.pr;have t1:=aH (λC=>o6 A.drew C) A.drew (p6.refl _) λC h=>b7 ((o6.drew A).trans h);simp only[i4,n9,A0,simprocAttr,h4,e1,l2,M,E,hc,V,h2,ay,Z,au,az];refine C0 (λC=>o6 A.drew C) 11 (A7 [0,1,2,3,4,5,6,7,8,9,10]) ?_;simp only[D7,A7,i4,n9,simprocAttr,t1,V];refine F6 (Y4 q.name (G+S) A.drew) ⟨p6.refl _,?_⟩;simp only[fc,simprocAttr];refine F6 (ao8 aJ q.vars (G+S+wtT q.name) A.drew (A6.mono (b7 (o6.drew A)) aA)) ⟨p6.refl _,?_⟩;simp only[fc,simprocAttr];refine F6 (ao8 aI q.fin (G+S+wtT q.name+aK3 q.vars) A.drew (A6.mono (b7 (o6.drew A)) ax)) ⟨p6.refl _,?_⟩;generalize hB:G+S+wtT q.name+aK3 q.vars+aK3 q.fin=B;have K:G+I3 ad1 (l.take (i+1))=B+I3 (λa:Pa=>wtT a.name) q.params+K0 q.body:=by
  rw[R,<-hB];unfold ad1;rw[bX5];omega
 have L:=r.isS;have D:=r.vlen;generalize q.params=b at r D K;simp only[fc,simprocAttr];refine A9 [1,4,5] (σ:=Nat) (λk f' C=>f' 6 = .int .i64 k/\f' 3 = .int .i64 (P3 (B+I3 (λa:Pa=>wtT a.name) (b.take k)))/\k<=b.length/\o6 A C) (λk=>b.length-k) 0 ?_ ?_
 .simp only[B8,simprocAttr];exact⟨tt,by simp[I3],ek1 _,o6.drew A⟩
 rintro k f2 w5 ⟨g1,g4,g5,_⟩ ⟨h6,g,aU,n⟩;rw[h4]at g4;have l5:=aG w5 (b7 n);have J:=af.trans n;have aN:=aJ8 (f:=λa:Pa=>wtT a.name) b k;have H:(decide ((k:Int)<(b.length:Int))&&decide (P3 (B+I3 (λa:Pa=>wtT a.name) (b.take k))<=20000))=false->P3 (B+I3 (λa:Pa=>wtT a.name) (b.take k))=P3 (B+I3 (λa:Pa=>wtT a.name) b):=λhg=>by
  rcases ej1 (decide ((k:Int)<(b.length:Int)))with h|h
  .rw[h,eq4]at hg;have e:=ap6 (m:=B+I3 (λa:Pa=>wtT a.name) b) (ej6 hg) om;rw[e.1,e.2]
  .have N:k=b.length:=by have:=ej6 h;omega
   rw[N,ek4]
 rcases ej1 (decide ((k:Int)<(b.length:Int)))with h7|h7;rotate_left
 .rw[H (by rw[h7];rfl)]at g;simp only[eH,simprocAttr,h6,g5,l5,L,D,h7,g];refine B6 (aV2 (K0 q.body) q.body aj (B+I3 (λa:Pa=>wtT a.name) b) w5 (ek6 _) (A6.mono (b7 n) X)) (λw6 U=>?_);simp only[eH,simprocAttr,g4];exact nx2 (i+1) ⟨by rw[K],om,J.trans U⟩
 rcases ej1 (decide (P3 (B+I3 (λa:Pa=>wtT a.name) (b.take k))<=20000))with h8|h8;rotate_left
 .have he:=H (by rw[h7,h8];rfl);rw[he]at g h8;simp only[eH,simprocAttr,h6,g5,l5,L,D,h7,h8,g];refine B6 (aV2 (K0 q.body) q.body aj (B+I3 (λa:Pa=>wtT a.name) b) w5 (ek6 _) (A6.mono (b7 n) X)) (λw6 U=>?_);simp only[eH,simprocAttr,g4];exact nx2 (i+1) ⟨by rw[K],om,J.trans U⟩
 have o:k<b.length:=by have:=ej3 h7;omega
 obtain⟨_,O⟩:=aA2 (ej3 h8);have y:=ar2 (f:=λa:Pa=>wtT a.name) o;have I:=ar1 (f:=λa:Pa=>wtT a.name) (λa=>aY8 _) (b.take k);rw[ek3]at I;have Y:=r.inS o;have F:=r.at_ (i:=k) (x:=b[k]) (ej0 o);have aD:A6.sz Pa=2:=rfl;rw[aD]at F;obtain⟨ah,_⟩:=F.pa;have l6:=ah w5 (b7 n);generalize b[k]=pa at y l6;generalize I3 (λa:Pa=>wtT a.name) (b.take k)=S2 at g y O I h8;simp only[i4,n9,A0,simprocAttr,h6,g5,l5,L,D,h7,h8,g,Y,l6];refine F6 (Y4 pa.name (B+S2) w5) ?_;simp only[eH,simprocAttr,h6];exact nx2 (k+1) ⟨by rw[y,<-et9],om,n⟩
def am0(l:List Vx)(n:Int):Vx:=l.getD (cA7 n l.length).toNat cN0
def P6(v:Value)(l:List Vx)(n:Int)(w:World)(hv:R (i5 w) v l)(t:l.length<=1000000000):
  y5 prog 16 #[v,.int .i64 n] w λu r=>(u = .agg (p8.cells (am0 l n)).toArray/\o6 w r):=by
 refine z6 [v,.int .i64 n] func16 rfl ?_;obtain⟨m,d,i,a⟩:=dE4 w;have o:=hv.isS;have p:=hv.vlen;rcases ej1 (decide ((l.length:Int)=0))with h0|h0
 .have g:l=[]:=List.length_eq_zero_iff.1 (by have:=ej3 h0;omega);obtain⟨s,j,k,c⟩:=a m cN0 (p6.refl _);simp only[eH,simprocAttr,d,o,p,h0,cP7,j];refine O5 results16 (ad:=⟨w.heap.size,0,none⟩) (by simp only[B8,simprocAttr]) k ?_;refine⟨?_,c⟩;subst g;rfl
 have e:0<l.length:=by have:=ej6 h0;omega
 obtain⟨N,hN,b⟩:=bi9 n l.length e;have f:=hv.inS b;have h:=bO2 hv (b7 i) (ej0 b);obtain⟨s,j,k,c⟩:=a m l[N] (p6.refl _);have q:am0 l n=l[N]:=by
  unfold am0;rw[hN,el5,List.getD,ej0 b];rfl
 simp only[eH,simprocAttr,d,o,p,h0];refine F6 (cc3 n l.length m om) ?_;rw[hN];simp only[i4,n9,A0,simprocAttr,f,h,j];refine O5 results16 (ad:=⟨w.heap.size,0,none⟩) (by simp only[B8,simprocAttr]) k ?_;exact⟨by rw[q],c⟩
def db1{α:Type}[A6 α][p8 α]{w:World}{c:Nat}{T:TypeId}{x:α}(a:w.heap[c]?=some (.cells (p8.cells x).toArray T (0,0))):At (i5 w) ⟨c,0,none⟩ x:=
 ⟨p8.cells x,(p8.iff_ _ _ _).2 rfl,λj u b=>by
  rw[add_lit,<-an1,en0,er9 w c j _ T (0,0) a];simpa using b⟩
def vx2(x y:Vx)(w:World):∃a b e i j g,(Instr.alloc 27 true (.tuple #[])).run prog w = .ok (.pointer (some a)) e/\(Instr.alloc 27 true (.tuple #[])).run prog e = .ok (.pointer (some b)) i /\
  (Instr.storeAt 27 (.pointer (some a)) (.agg (p8.cells x).toArray)).run prog i = .ok () j/\(Instr.storeAt 27 (.pointer (some b)) (.agg (p8.cells y).toArray)).run prog j = .ok () g/\o6 w g/\At (i5 g) a x/\At (i5 g) b y:=by
 obtain⟨z,h,d⟩:∃z,I4 prog 27=some z/\z.cells.size=N6 prog 27:=⟨_,aV1,by rw[P5];rfl⟩;have c:∀y:Vx,(p8.cells y).toArray.size=N6 prog 27:=λy=>by rw[P5];rfl
 have s:=(aI8 (P:=prog) (w:=w) (T:=27) h d (cs:=(p8.cells x).toArray) (c _) (λu f=>Z0 _ u (by simpa using f))).1;have r:=o6.alloc w (.cells z.cells 27);have k:=em9 w (.cells z.cells 27);generalize w.alloc (.cells z.cells 27)=e at s r k;have t:=(aI8 (P:=prog) (w:=e) (T:=27) h d (cs:=(p8.cells x).toArray) (c _) (λu f=>Z0 _ u (by simpa using f))).1;have o:=o6.alloc e (.cells z.cells 27);have m:=em9 e (.cells z.cells 27);generalize e.alloc (.cells z.cells 27)=i at t o m;have p:w.heap.size<e.heap.size:=(ej4.1 k).1;have l:=(o.block _ p id).trans k;obtain⟨j,D,v,A⟩:=aj3 (P:=prog) (T:=27) l h d (c x) (λu f=>Z0 x u (by simpa using f));have n:=(A.block _ (ej4.1 m).1 om).trans m;obtain⟨g,E,F,B⟩:=aj3 (P:=prog) (T:=27) n h d (c y) (λu f=>Z0 y u (by simpa using f));have q:=(B.block _ (ej4.1 v).1 om).trans v;exact⟨_,_,e,i,j,g,s,t,D,E,p6.ext_of (p6.ext_of (r.trans o) A λb C=>om) B λb C=>om,db1 q,db1 F⟩
def cP6(q:B3)(k d:Int)(s:B3):C1 prog 27 [(0,t8 q),(1,.int .i64 k),(2,.int .i64 d),(3,t8 s)]=some (.agg (p8.cells (⟨q,k,d,s⟩:Vx)).toArray):=by
 have h:p8.cells (⟨q,k,d,s⟩:Vx)=[t8 q,.int .i64 k,.int .i64 d,t8 s]:=rfl;rw[h];simp[C1,bW4,K7,Instr.fill,Value.cells,t8]
def as6(w:World):y5 prog 11 #[] w λu b=>(u = .bool true/\o6 w b):=by
 refine z6 [] func11 rfl ?_;have N:Value.string {data:=#[109,97,105,110]}=t8 J0:=rfl;have Q:Value.string {data:=#[121]}=t8 sY:=rfl;obtain⟨c1,c2,c3⟩:(N3 aw1 [R4] [ab3]).2=0/\(N3 aw1 [R4] [ab3]).1.length=7/\(N3 aw1 [R4] [ab3]).1[0]?=some R4:=by
  have h:=cX3;simp only[Prod.mk.injEq]at h;exact h
 obtain⟨m1,m2,m3⟩:(G3 aw1 R4 ab3).2=0/\(G3 aw1 R4 ab3).1.length=4/\(G3 aw1 R4 ab3).1[3]?=some ⟨J0,6,2,sY⟩:=by
  have h:=cC6;simp only[Prod.mk.injEq]at h;exact h
 simp only[i4,simprocAttr];refine y4 (da2 w) ?_;rintro u w1 ⟨hu,T⟩;obtain⟨d,wz,w2,H,O,U,I⟩:=dA7 hu (n7 _);obtain⟨sp,r,D,aA⟩:=I.pg_v;have J:C1 prog 27 [(0,t8 J0),(1,.int .i64 2),(2,.int .i64 1)]=some (.agg (p8.cells R4).toArray):=bQ0 J0 2 1;have L:C1 prog 27 [(0,t8 J0),(1,.int .i64 2),(2,.int .i64 3)]=some (.agg (p8.cells ab3).toArray):=bQ0 J0 2 3;have M:=cP6 J0 6 2 sY;obtain⟨dv,dw,aI,wa,wb,Z,n,o,s,t,g,p,q⟩:=vx2 R4 ab3 w2;obtain⟨uV,hV,B,Y⟩:=p.vx_v;obtain rfl:=hV.N;obtain⟨uW,hW,C,_⟩:=q.vx_v;obtain rfl:=hW.N;obtain⟨u4,w4,q4,r4,v⟩:=ab1 R4 Z;obtain⟨u5,w5,q5,r5,z⟩:=ab1 ab3 w4;have l:=v.trans z;simp only[i4,simprocAttr,H,O,N,J,L,n,o,s,t,D Z (b7 g),B Z (n7 _),q4,C w4 (b7 v),q5];refine y4 (X6 sp u4 u5 [R4] [ab3] w5 (r.mono (b7 (g.trans l))) cL7 (A6.mono (b7 z) r4) r5 dP dP) ?_;rintro _ G ⟨ul,rfl,rl,nl,V⟩;have c:=l.trans V;rw[c1];simp only[i4,simprocAttr,D G (b7 (g.trans c)),B G (b7 c),C G (b7 c)];refine y4 (aF8 sp R4 ab3 G (r.mono (b7 (g.trans c))) cL7) ?_;rintro _ e ⟨um,rfl,rm,nm,A⟩;rw[m1];have m:=(c.trans A).trans (o6.drew e);have i:R (i5 e.drew) ul (N3 aw1 [R4] [ab3]).1:=A6.mono (b7 (A.trans (o6.drew e))) rl;have j:R (i5 e.drew) um (G3 aw1 R4 ab3).1:=A6.mono (b7 (o6.drew e)) rm;have E:=i.vlen;have F:=j.vlen;have W:=i.inS (k:=0) om;have X:=j.inS (k:=3) om;rw[c2]at E;rw[m2]at F;have t1:=Y (λb=>o6 e.drew b) e.drew (p6.refl _) λb h=>b7 (m.trans h);have t2:∀K f d a,F8 prog (λb=>o6 e.drew b) (Instr.loadAt 27 (.pointer (some (G8 ul 0)))) K f d a=K (C5 f d (.agg (p8.cells R4).toArray)) a:=λK f d a=>B7 (w0:=e.drew) (p6.refl _) λb h=>bO2 i (b7 h) c3;have t3:∀K f d a,F8 prog (λb=>o6 e.drew b) (Instr.loadAt 27 (.pointer (some (G8 um 12)))) K f d a=K (C5 f d (.agg (p8.cells (⟨J0,6,2,sY⟩:Vx)).toArray)) a:=λK f d a=>B7 (w0:=e.drew) (p6.refl _) λb h=>bO2 j (b7 h) m3;have t4:=λ(x y:Operand) K f d a=>B7 (P:=prog) (S:=λb=>o6 e.drew b) (K:=K) (f:=f) (d:=d) (w:=a) (w0:=e.drew) (p6.refl _) λb h=>bF0 b x y R4 R4;have t5:=λ(x y:Operand) K f d a=>B7 (P:=prog) (S:=λb=>o6 e.drew b) (K:=K) (f:=f) (d:=d) (w:=a) (w0:=e.drew) (p6.refl _) λb h=>bF0 b x y (⟨J0,6,2,sY⟩:Vx) ⟨J0,6,2,sY⟩;have d4:decide (R4=R4)=true:=ep1 rfl;have d5:decide ((⟨J0,6,2,sY⟩:Vx)=⟨J0,6,2,sY⟩)=true:=ep1 rfl;rw[d4]at t4;rw[d5]at t5;simp only[i4,simprocAttr];refine C0 (λb=>o6 e.drew b) 31 (A7 [0,1,2,3,4,5,6,7,8,9,10,11,12,13,14,15,16,17,18,19,20,21,22,23,24,25,26,27,28,29,30]) ?_;simp only[D7,A7,i4,n9,A0,simprocAttr,t1,t2,t3,i.isS,E,j.isS,F,W,X,Q,M,S6,p8.cells,t4,t5];exact o8 results11 ⟨rfl,((T.trans U).trans g).trans m⟩
structure Im where
 s:St
 deep:Int
 up:Int
 els:Bool
instance:A6 Im where
 sz:=16
 pos:=om
 enc h cs p:=∃c,cs=c++[.int .i64 p.deep,.int .i64 p.up,.bool p.els]/\A6.enc h c p.s
 len:=by rintro h cs a ⟨c,rfl,h1⟩;have h4:c.length=13:=A6.len h1;simp[h4]
 mono:=by rintro h k cs a hk ⟨c,rfl,h1⟩;exact⟨c,rfl,A6.mono hk h1⟩
 one:=by
  rintro h cs a ⟨c,rfl,h1⟩ v hv;simp only[ej9,ek9,en5,es4]at hv;rcases hv with hv|rfl|rfl|rfl
  .exact A6.one h1 v hv
  all_goals rfl
end Go.Proofs.YtpebpfiglfmegaaGreat
