/- What the functions of the program do, for every input; plain facts. No condition, no statement of its own. Part 6. -/
import Derived.Test.YtggahhenbbgffaaGreatZ6
set_option maxRecDepth 1000000
set_option maxHeartbeats 8000000
set_option linter.unusedVariables false
set_option linter.unusedSimpArgs false
set_option linter.unnecessarySimpa false
set_option linter.defProp false
namespace Go.Proofs.YtggahhenbbgffaaGreat
open Go Tryz
def cQ7{w d:World}{v c:Value}(hm:o8 (A0 v) w d)(hv:E9 w v c):B8 (aq7 w v) (aq7 d c):=λb o e=>by
 by_cases h:A0 v b
 .rw[aE2 h]at e;cases e
 .rw[ad5 h]at e;have g:b<w.heap.size:=(ef5.1 e).1;have f:¬A0 c b:=λa=>by
   rcases hv b a with k|k
   .exact h k
   .omega
  rw[ad5 f,hm.block b g h];exact e
def cQ6{w a:World}{v:Value}(d:o6 w a):B8 (aq7 w v) (aq7 a v):=λb o e=>by
 by_cases h:A0 v b
 .rw[aE2 h]at e;cases e
 .rw[ad5 h]at e;have c:b<w.heap.size:=(ef5.1 e).1;rw[ad5 h,d.block b c id];exact e
section
variable {α:Type} [A3 α] {h:Hp} {w:World} {T:TypeId} {v:Value} {xs:List α}
def B0.but(e:B0 (aq7 w v) w T v xs){a:World}(c:o6 w a):B0 (aq7 a v) a T v xs:=
 (e.ext c).up (cQ6 c) λb d=>aE2 d
end
def dk7:P2 prog 111=some (#[.int .i64 0,.int .i64 0,.slice none 0 0,.string ⟨#[]⟩,.string ⟨#[]⟩,.int .i64 0,.int .i64 0,.string ⟨#[]⟩,.slice none 0 0,.bool false,.slice none 0 0,.slice none 0 0,.slice none 0 0,.int .i64 0,.int .i64 0,.bool false],[(0,13),(13,1),(14,1),(15,1)]):=by kernel_rfl
def bd6{h:Hp}{v:Value}{x:Vx}{w:World}(hv:SV h v x)(hw:B8 h (m8 w)):∃a b,(Instr.box 26 v).run prog w = .ok (.pointer (some a)) b/\o6 w b/\At (m8 b) a x:=bW0 hv hw
end Go.Proofs.YtggahhenbbgffaaGreat
namespace Go.Proofs
open Go.Shelf
end Go.Proofs
namespace Go.Proofs.YtggahhenbbgffaaGreat
open Go Tryz
def cx9(n m:Int):Int:=if m<1 then 0 else if n.tmod m<0 then n.tmod m+m else n.tmod m
def cH6(n m:Int)(w:World)(e:m<=1000000000):o9 prog 45 #[.int .i64 n,.int .i64 m] w λv g=>(v = .int .i64 (cx9 n m)/\g=w):=by
 refine p9 [.int .i64 n,.int .i64 m] func45 rfl ?_;simp only[L7,R9,C4,F6,simprocAttr];refine A4 (λh=>?_) (λh=>?_)
 .simp only[L7,simprocAttr];refine o7 results45 ?_;simp only[B3,simprocAttr];have b:m<1:=by simpa using h
  exact⟨by rw[cx9,if_pos b],by trivial⟩
 .have b:¬m<1:=by simpa using h
  have d:¬m=0:=by omega
  simp only[L7,C4,F6,simprocAttr,d];refine A4 (λc=>?_) (λc=>?_)
  .have a:n.tmod m<0:=by simpa using c
   have i : -m<n.tmod m:=by have:=Int.lt_tmod_of_pos n (show 0<m by omega);omega
   have f:IntKind.i64.wrap (n.tmod m+m)=n.tmod m+m:=M2 _ (by omega);simp only[L7,C4,F6,simprocAttr,f];refine o7 results45 ?_;simp only[B3,simprocAttr];exact⟨by rw[cx9,if_neg b,if_pos a],by trivial⟩
  .have a:¬n.tmod m<0:=by simpa using c
   simp only[L7,simprocAttr];refine o7 results45 ?_;simp only[B3,simprocAttr];exact⟨by rw[cx9,if_neg b,if_neg a],by trivial⟩
end Go.Proofs.YtggahhenbbgffaaGreat
namespace Go.Proofs
open Go.Shelf
end Go.Proofs
namespace Go.Proofs.YtggahhenbbgffaaGreat
open Go Tryz
def ce5{V:List Vx}{L:List Eg}(c:0<V.length){S:List Bool}(hS:S.length=V.length){a:Int}:
  B1 (I3 (ab7 V L [1,2,3,6]) (I3 (ab7 V L [1,2,3,4,5]) S)) a=true↔∃b,B1 S b=true/\dD2 V L a b:=by
 rw[R1 (ar1 c) (by rw[ah0,K7,hS])];constructor
 .rintro⟨m,hm,f⟩;obtain⟨b,d,e⟩:=(R1 (ar1 c) (by rw[ah0,hS])).1 hm;exact⟨b,d,m,(X4 c).2 f,(X4 c).2 e⟩
 .rintro⟨b,d,m,f,e⟩;exact⟨m,(R1 (ar1 c) (by rw[ah0,hS])).2 ⟨b,d,(X4 c).1 e⟩,(X4 c).1 f⟩
def ch7{V:List Vx}{L:List Eg}(c:0<V.length){S:List Bool}(hS:S.length=V.length){b:Int}:
  B1 (I3 (R4 V L [1,2,3,4,5]) (I3 (R4 V L [1,2,3,6]) S)) b=true↔∃a,B1 S a=true/\dD2 V L a b:=by
 rw[R1 (aF0 c) (by rw[ay6,K7,hS])];constructor
 .rintro⟨m,hm,f⟩;obtain⟨a,d,e⟩:=(R1 (aF0 c) (by rw[ay6,hS])).1 hm;exact⟨a,d,m,e,f⟩
 .rintro⟨a,d,m,e,f⟩;exact⟨m,(R1 (aF0 c) (by rw[ay6,hS])).2 ⟨a,d,e⟩,f⟩
end Go.Proofs.YtggahhenbbgffaaGreat
namespace Go.Proofs
open Go.Shelf
end Go.Proofs
namespace Go.Proofs.YtggahhenbbgffaaGreat
open Go Tryz
def bF3(n:Int)(k:Nat)(d:0<k):∃N:Nat,cx9 n k=N/\N<k:=by
 have a:¬((k:Int)<1):=by omega
 have b : -(k:Int)<n.tmod k:=Int.lt_tmod_of_pos n (by omega);have c:n.tmod k<k:=Int.tmod_lt_of_pos n (by omega);unfold cx9;rw[if_neg a];split
 .exact⟨(n.tmod k+k).toNat,by omega,by omega⟩
 .exact⟨(n.tmod k).toNat,by omega,by omega⟩
def bF0{V:List Vx}{S:List Bool}{v:Vx}:v∈E8 V S↔∃i:Int,B1 S i=true/\V[i.toNat]?=some v:=by
 unfold E8;rw[List.mem_filterMap];exact⟨λ⟨i,a,b⟩=>⟨i,ag8.1 a,b⟩,λ⟨i,a,b⟩=>⟨i,ag8.2 a,b⟩⟩
def bQ3{V:List Vx}{S:List Bool}{v:Vx}(h:v∈E8 V S):v∈V:=by
 obtain⟨i,_,h⟩:=bF0.1 h;exact eh3 h
def aI8{V:List Vx}(hn:V.Nodup){S:List Bool}{v:Vx}(hv:v∈V):v∈E8 V S↔B1 S ((E5 V v:Nat):Int)=true:=by
 rw[bF0];constructor
 .rintro⟨i,a,b⟩;have c:=cI0 hn b;have:=B4.1 (V8 a);have e:((E5 V v:Nat):Int)=i:=by omega
  rw[e];exact a
 .exact λh=>⟨_,h,by rw[eh6];exact ar0 hv⟩
section
variable {p:Pg} {vs:List Vx} {l:List Int} {v w:Vx}
def aU0{V:List Vx}(a:0<V.length){vs:List Vx}{l:List Int}(h:N8 V vs=some l){b:Int}:B1 (T7 V.length l) b=true↔∃u∈vs,((E5 V u:Nat):Int)=b:=by
 rw[ay4,(bF6 h).2,eh4];constructor
 .exact λc=>c.2
 .rintro⟨u,d,rfl⟩;exact⟨aJ5 a u,u,d,rfl⟩
def ak8(e:D3 p)(hw:B7 p<=1000000)(h:N8 (i4 p).wv vs=some l):v∈E8 (i4 p).wv ((i4 p).backB l)↔v∈(i4 p).wv/\∃u∈vs,cd5 p v u:=by
 have a:=ag5 e.toKnown;constructor
 .intro c;have hm:=bQ3 c;rw[aI8 (aA2 e hw) hm]at c;unfold Bk.backB at c;obtain⟨b,g,d⟩:=(ce5 a G2).1 c;obtain⟨u,f,rfl⟩:=(aU0 a h).1 g;exact⟨hm,u,f,d⟩
 .rintro⟨hm,u,f,d⟩;rw[aI8 (aA2 e hw) hm];exact(ce5 a G2).2 ⟨_,(aU0 a h).2 ⟨u,f,rfl⟩,d⟩
def aE1(e:D3 p)(hw:B7 p<=1000000)(h:N8 (i4 p).wv vs=some l):v∈E8 (i4 p).wv ((i4 p).forwB l)↔v∈(i4 p).wv/\∃u∈vs,cd5 p u v:=by
 have a:=ag5 e.toKnown;constructor
 .intro c;have hm:=bQ3 c;rw[aI8 (aA2 e hw) hm]at c;unfold Bk.forwB at c;obtain⟨b,g,d⟩:=(ch7 a G2).1 c;obtain⟨u,f,rfl⟩:=(aU0 a h).1 g;exact⟨hm,u,f,d⟩
 .rintro⟨hm,u,f,d⟩;rw[aI8 (aA2 e hw) hm];exact(ch7 a G2).2 ⟨_,(aU0 a h).2 ⟨u,f,rfl⟩,d⟩
def cd5.self(p:Pg)(v:Vx):cd5 p v v:=⟨_,.refl,.refl⟩
def ai8(b:D3 p)(hw:B7 p<=1000000)(hv:∀u∈vs,u∈(i4 p).wv):∃l,N8 (i4 p).wv vs=some l/\(∀u∈vs,u∈E8 (i4 p).wv ((i4 p).backB l))/\∀u∈vs,u∈E8 (i4 p).wv ((i4 p).forwB l):=by
 cases h:N8 (i4 p).wv vs with
 | none=>obtain⟨u,c,d⟩:=aE9.1 h;exact absurd (hv u c) d
 | some l=>exact⟨l,rfl,λu a=>(ak8 b hw h).2 ⟨hv u a,u,a,.self p u⟩,λu a=>(aE1 b hw h).2 ⟨hv u a,u,a,.self p u⟩⟩
end
def bY2(V:List Vx)(v:Vx):(al6 (as4 V) v).isSome=decide (v∈V):=by
 rw[aT4,Option.isSome_map,eq7,ab2,decide_eq_true_iff]
section
variable {p:Pg}
def R7(v:Value)(w:World)(hv:SV (m8 w) v p)(hw:B7 p<=1000000):
  o9 prog 17 #[v] w λu k=>(R (m8 k) u (if E0 p then(i4 p).wv else[])/\o6 w k):=by
 refine p9 [v] func17 rfl ?_;obtain⟨c,m,e,j,b⟩:=Q4 hv (n7 _);obtain⟨z,f,d,_⟩:=b.pg_v;simp only[i5,n9,simprocAttr,e,d m (n7 _)];refine t8 (aq3 z p m f hw) ?_;rintro u l ⟨o,q,h⟩;have a:=j.trans h;cases hR:E0 p
 .obtain rfl:=o hR;simp only[i5,n9,simprocAttr,bR6];exact o7 results17 ⟨(B0.nil (m8 l) l 0).rw_ (n7 _),a⟩
 obtain⟨C,g,r,A,B,x,rfl,y,n,t,s⟩:=q hR;simp only[i5,n9,simprocAttr,bR6,s.ld (i:=2) (u:=x.vV) rfl ab9];exact o7 results17 ⟨s.rV,a⟩
def bH3(v:Value)(y:Vx)(w:World)(hv:SV (m8 w) v p)(hw:B7 p<=1000000):
  o9 prog 20 #[v,.agg (p8.cells y).toArray] w λu F=>(u = .bool (E0 p&&decide (y∈(i4 p).wv))/\o6 w F):=by
 refine p9 [v,.agg (p8.cells y).toArray] func20 rfl ?_;obtain⟨c,o,j,n,d⟩:=W9 (w:=w) (λ_=>False) hv (λ_ h=>h.elim);obtain⟨I,q,k,i,e⟩:=aH1 (w:=o) (λ_=>False) (SV.ofN (m8 o) y) (λ_ h=>h.elim);have D:=(I6.pg_v hv d).1 q (p7 (A8 _ _) (b7 i));have b:=n.trans i;simp only[i5,n9,simprocAttr,j,k,D];refine t8 (aq3 v p q (hv.mono (b7 b)) hw) ?_;rintro u G ⟨z,A,f⟩;have a:=b.trans f;cases hR:E0 p
 .obtain rfl:=z hR;simp only[i5,n9,simprocAttr,aC4];exact o7 results20 ⟨rfl,a⟩
 obtain⟨K,g,r,H,J,x,rfl,C,t,B,s⟩:=A hR;rw[bK2]at s;have E:=(I6.vx_v (SV.ofN (m8 o) y) e).1 G (p7 (A8 _ _) (b7 f));simp only[i5,n9,simprocAttr,aC4,E];refine B2 (bU9 s y) (λL m=>?_);have l:(wcC p [] []).kv=as4 (i4 p).wv:=rfl;rw[l,bY2];simp only[i5,simprocAttr];exact o7 results20 ⟨rfl,a.trans m⟩
end
end Go.Proofs.YtggahhenbbgffaaGreat
namespace Go.Proofs
open Go.Shelf
end Go.Proofs
namespace Go.Proofs.YtggahhenbbgffaaGreat
open Go Tryz
def ae1(v:Value)(l:List Vx)(x:Vx)(w:World)(hv:R (m8 w) v l)(X:l.length<=1000000000):
  o9 prog 21 #[v,.agg (p8.cells x).toArray] w λu d=>(u = .bool (l.contains x)/\o6 w d):=by
 refine p9 [v,.agg (p8.cells x).toArray] func21 rfl ?_;have O:=hv.isS;have Q:=hv.vlen;obtain⟨V,U,C,k,o⟩:=bd6 (SV.ofN (m8 w) x) (n7 _);obtain⟨S,z,_,I⟩:=o.vx_v;obtain rfl:=z.N;simp only[i5,n9,simprocAttr,C,O,Q];refine A6 [0,3,6,7] (σ:=Nat) (λi f d=>f 8 = .int .i64 i/\i<=l.length/\(∀j y,j<i->l[j]?=some y->y≠x)/\o6 U d) (λi=>l.length-i) 0 ?_ ?_
 .simp only[B3,simprocAttr];exact⟨by trivial,eg3 _,λj _ h=>by omega,o8.refl _⟩
 rintro i f m ⟨e0,K,W,N,_⟩ ⟨B,P,r,A⟩;simp only[i5,n9,simprocAttr,B,N];refine y5 (λg=>?_) ?_;rotate_left
 .rintro rfl;simp only[i5,simprocAttr];refine o7 results21 ?_;simp only[B3,simprocAttr];refine⟨?_,k.trans A⟩;have:l.contains x=false:=by
   rw[ep7];intro h;obtain⟨j,D⟩:=eo5.1 (eg7.1 h);exact r j x (ef6.1 D).1 D rfl
  rw[this]
 have p:=hv.inS g;have c:=A.trans (o6.drew m);have n:=hv.at_ (i:=i) (x:=l[i]) (ef1 g);have H:A3.sz Vx=4:=rfl;rw[H]at n;obtain⟨Y,F,_,J⟩:=n.vx_v;obtain rfl:=F.N;have L:=J (λd=>o6 m.drew d) m.drew (o8.refl _) λd h=>b7 (k.trans (c.trans h));have M:=I (λd=>o6 m.drew d) m.drew (o8.refl _) λd h=>b7 (c.trans h);have t:=λT a b=>bl8 T a b l[i] x;have q:l[i]=x->l.contains x=true:=λe=>eg7.2 (e ▸ eg2 g);have s:l[i]≠x->∀j y,j<i+1->l[j]?=some y->y≠x:=λE j y D G=>by
  rcases ej6 j i with h|h
  .exact r j y h G
  .obtain rfl:j=i:=by omega
   rw[ef1 g]at G;obtain rfl:=eh1 G;exact E
 rcases ef2 (decide (l[i]=x))with hq|hq
 .simp only[i5,simprocAttr,B];refine B9 (λd=>o6 m.drew d) 5 (A5 [0,1,2,3,4]) ?_;simp only[D0,A5,i5,n9,y4,simprocAttr,e0,K,p,L,M];simp only[i5,simprocAttr,L8,p8.cells,t,hq];refine o7 results21 ?_;simp only[B3,simprocAttr];exact⟨by rw[q (ef3 hq)],k.trans c⟩
 .simp only[i5,simprocAttr,B];refine B9 (λd=>o6 m.drew d) 5 (A5 [0,1,2,3,4]) ?_;simp only[D0,A5,i5,n9,y4,simprocAttr,e0,K,p,L,M];simp only[i5,n9,simprocAttr,L8,p8.cells,t,hq,B];exact T4 (i+1) ⟨s (ef7 hq),c⟩
def ab6(l:List Vx)(n:Int):Vx:=l.getD (cx9 n l.length).toNat ah5
def aR2{l:List Vx}(h:0<l.length)(n:Int):ab6 l n∈l:=by
 obtain⟨N,b,a⟩:=bF3 n l.length h;unfold ab6;rw[b,eh6,List.getD,ef1 a];exact eg2 a
def V0(v:Value)(l:List Vx)(n:Int)(w:World)(hv:R (m8 w) v l)(t:l.length<=1000000000):
  o9 prog 16 #[v,.int .i64 n] w λu r=>(u = .agg (p8.cells (ab6 l n)).toArray/\o6 w r):=by
 refine p9 [v,.int .i64 n] func16 rfl ?_;obtain⟨m,d,i,a⟩:=di6 w;have o:=hv.isS;have p:=hv.vlen;rcases ef2 (decide ((l.length:Int)=0))with h0|h0
 .have g:l=[]:=List.length_eq_zero_iff.1 (by have:=ef3 h0;omega);obtain⟨s,j,k,c⟩:=a m ah5 (o8.refl _);simp only[i5,n9,simprocAttr,d,o,p,h0,aj4,j];refine N9 results16 (ad:=⟨w.heap.size,0,none⟩) (by simp only[B3,simprocAttr]) k ?_;refine⟨?_,c⟩;subst g;rfl
 have e:0<l.length:=by have:=ef7 h0;omega
 obtain⟨N,hN,b⟩:=bF3 n l.length e;have f:=hv.inS b;have h:=cj8 hv (b7 i) (ef1 b);obtain⟨s,j,k,c⟩:=a m l[N] (o8.refl _);have q:ab6 l n=l[N]:=by
  unfold ab6;rw[hN,eh6,List.getD,ef1 b];rfl
 simp only[i5,n9,simprocAttr,d,o,p,h0];refine E6 (cH6 n l.length m (by omega)) ?_;rw[hN];simp only[i5,n9,y4,simprocAttr,f,h,j];refine N9 results16 (ad:=⟨w.heap.size,0,none⟩) (by simp only[B3,simprocAttr]) k ?_;exact⟨by rw[q],c⟩
end Go.Proofs.YtggahhenbbgffaaGreat
