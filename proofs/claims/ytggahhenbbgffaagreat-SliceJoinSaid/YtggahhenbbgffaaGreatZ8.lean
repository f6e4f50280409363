/- What the functions of the program do, for every input; plain facts. No condition, no statement of its own. Part 6. -/
import Derived.Test.YtggahhenbbgffaaGreatZ6
set_option maxRecDepth 1000000
set_option maxHeartbeats 8000000
set_option linter.unusedVariables false
set_option linter.unusedSimpArgs false
set_option linter.unnecessarySimpa false
set_option linter.defProp false
namespace Go.Proofs.YtggahhenbbgffaaGreat
open Go Tryz
def bd6{h:Hp}{v:Value}{x:Vx}{w:World}(hv:SV h v x)(hw:B8 h (m8 w)):∃a b,(Instr.box 26 v).run prog w = .ok (.pointer (some a)) b/\o6 w b/\At (m8 b) a x:=bW0 hv hw
def cO3:∀(m:Nat) (l:List St) (v:Value) (w:World),A7 l<=m->R (m8 w) v l->J4 l<=1000000->o9 prog 85 #[v] w λu a=>(u = .int .i64 (A7 l:Nat)/\o6 w a):=by
 intro m
 induction m with
 | zero=>
  intro l v w z e E;have n:l.length=0:=by have:=V9 l;omega
  refine p9 [v] func85 rfl ?_;simp only[n8,n9,simprocAttr,e.isS,e.vlen];refine A6 [7,8] (σ:=Nat) (λk f a=>f 9 = .int .i64 0/\f 3 = .int .i64 ((l.length:Nat):Int)/\a=w) (λk=>0) 0 ?_ ?_
  .simp only[B3,simprocAttr];exact⟨by trivial,by trivial,by trivial⟩
  .rintro k f q ⟨L,r,_⟩ ⟨i,g,rfl⟩;have K:decide ((0:Int)<((l.length:Nat):Int))=false:=by rw[n];decide
   simp only[n8,n9,simprocAttr,i,r,K,g];refine o7 results85 ?_;simp only[B3,simprocAttr];exact⟨by rw[List.eq_nil_of_length_eq_zero n];rfl,o8.refl _⟩
 | succ m I=>
  intro l v w z e E;refine p9 [v] func85 rfl ?_;have H:=aA1 l;have M:=V9 l;simp only[n8,n9,simprocAttr,e.isS,e.vlen];refine A6 [0,7,8] (σ:=Nat) (λk f a=>f 9 = .int .i64 k/\k<=l.length/\f 3 = .int .i64 ((l.length+A7 (l.take k)-k:Nat):Int)/\o6 w a) (λk=>l.length-k) 0 ?_ ?_
  .simp only[B3,simprocAttr];exact⟨by trivial,eg3 _,by simp[A7],o8.refl _⟩
  .rintro k f q ⟨e0,L,r,_⟩ ⟨i,x,g,o⟩;have y:=V9 (l.take k);rw[eg0,el2 x]at y;simp only[n8,n9,simprocAttr,i,r];refine y5 (λb=>?_) ?_
   .have s:=e.inS b;have j:=(e.at_ (ef1 b));have A:=aP0 l b;have G:=ax7 l (k+1);have D:=ap0 (eg2 b);generalize l[k]=t at j A D;have O:=az4 t;have T:=V7 t;obtain⟨vl,Z,X,W,P,Q,S,N,F,Y,V⟩:=j.st;have d:=o.trans (o6.drew q);have J:=V (λa=>o6 q.drew a) q.drew (o8.refl _) (λa h=>b7 (d.trans h));have U:A3.sz St=13:=rfl;rw[U]at J;simp only[n8,simprocAttr,i];refine B9 (λa=>o6 q.drew a) 16 (A5 [0,1,2,3,4,5,7,8,9,10,11,6,12,13,14,15]) ?_;simp only[D0,A5,n8,n9,y4,simprocAttr,e0,g,s,J];refine B2 (I t.thn X _ (by omega) (A3.mono (b7 d) S) (by omega)) (λw3 c=>?_);simp only[D0,n8,simprocAttr,F2];refine⟨c,?_⟩;refine B2 (I t.els W _ (by omega) (A3.mono (b7 (d.trans c)) N) (by omega)) (λw4 p=>?_);have B:IntKind.i64.wrap (((A7 t.thn:Nat):Int)+((A7 t.els:Nat):Int))=((A7 t.thn+A7 t.els:Nat):Int):=by rw[M2 _ (by omega)];omega
    have C:IntKind.i64.wrap (((l.length+A7 (l.take k)-k:Nat):Int)+((A7 t.thn+A7 t.els:Nat):Int))=((l.length+A7 (l.take (k+1))-(k+1):Nat):Int):=by rw[M2 _ (by omega)];omega
    simp only[D0,n8,n9,simprocAttr,F2,B,C,i];refine⟨c.trans p,?_⟩;exact nx4 (k+1) (d.trans (c.trans p))
   .rintro rfl;rw[eg4]at g;simp only[n8,simprocAttr,g];refine o7 results85 ?_;simp only[B3,simprocAttr];exact⟨by congr 1;congr 1;omega,o⟩
def cL3(v:Value)(p:Pg)(w:World)(hv:SV (m8 w) v p)(z:B7 p<=1000000):o9 prog 53 #[v] w λu D=>(u = .int .i64 (bB0 p:Nat)/\o6 w D):=by
 refine p9 [v] func53 rfl ?_;obtain⟨a,F,o,Q,K⟩:=Q4 hv (n7 _);obtain⟨Y,Z,V,i,S,W⟩:=K.pg;have R:=S F (n7 _);have J:=i.isS;have N:=i.vlen;have O:=ak3 p.procs;have L:=bx9 p.procs;unfold B7 at z;simp only[n8,n9,simprocAttr,o,R,J,N];refine A6 [1,7,8] (σ:=Nat) (λk f D=>f 9 = .int .i64 k/\k<=p.procs.length/\f 3 = .int .i64 ((((p.procs.take k).map λf=>A7 f.body).sum:Nat):Int)/\o6 F D) (λk=>p.procs.length-k) 0 ?_ ?_
 .simp only[B3,simprocAttr];exact⟨by trivial,eg3 _,by simp,o8.refl _⟩
 .rintro k f w2 ⟨U,H,I,_⟩ ⟨l,M,j,d⟩;simp only[n8,n9,simprocAttr,l,I];refine y5 (λc=>?_) ?_
  .have r:=i.inS c;obtain⟨X,g,e⟩:=F5 (P:=prog) (t:=75) i (b7 d) (ef1 c) at8 at9 ar9 Q9;rw[Q9]at e;have y:((p.procs.take (k+1)).map λf=>A7 f.body).sum=((p.procs.take k).map λf=>A7 f.body).sum+A7 p.procs[k].body:=by
    rw[ef8 c,ei4,List.sum_append];simp
   have E:((p.procs.take (k+1)).map λf=>A7 f.body).sum<=(p.procs.map λf=>A7 f.body).sum:=by
    conv=>rhs;rw[<-ej2 (k+1) p.procs,ei4,List.sum_append]
    omega
   have h:=aw8 (eg2 c);generalize p.procs[k]=q at g y h;obtain⟨b,wz,G,m,x,A,n⟩:=aV8 (g.mono (b7 d)) (n7 _);obtain⟨_,_,T,_,_,_,s,_,C,_⟩:=n.pr;simp only[n8,n9,y4,simprocAttr,l,H,r,e,m,x,C G (n7 _),j];refine B2 (cO3 _ q.body T G (eg6 _) s (by unfold ab0 at h;omega)) (λw4 B=>?_);simp only[n8,n9,simprocAttr,l];exact T4 (k+1) ⟨by rw[M2 _ (by omega)];congr 1;omega,d.trans (A.trans B)⟩
  .rintro rfl;rw[eg4]at j;simp only[n8,simprocAttr,j];exact o7 results53 ⟨rfl,Q.trans d⟩
end Go.Proofs.YtggahhenbbgffaaGreat
namespace Go.Proofs
open Go.Shelf
end Go.Proofs
namespace Go.Proofs.YtggahhenbbgffaaGreat
open Go Tryz
def cx9(n m:Int):Int:=if m<1 then 0 else if n.tmod m<0 then n.tmod m+m else n.tmod m
def cH6(n m:Int)(w:World)(e:m<=1000000000):o9 prog 45 #[.int .i64 n,.int .i64 m] w λv g=>(v = .int .i64 (cx9 n m)/\g=w):=by
 refine p9 [.int .i64 n,.int .i64 m] func45 rfl ?_;simp only[L7,R9,C4,F6,simprocAttr];refine A4 (λh=>?_) (λh=>?_)
 .simp only[L7,simprocAttr];refine o7 results45 ?_;simp only[B3,simprocAttr];have b:m<1:=by simpa using h
  exact⟨by rw[cx9,if_pos b],by trivial⟩
 .have b:¬m<1:=by simpa using h
  have d:¬m=0:=by omega
  simp only[L7,C4,F6,simprocAttr,d];refine A4 (λc=>?_) (λc=>?_)
  .have a:n.tmod m<0:=by simpa using c
   have i : -m<n.tmod m:=by have:=Int.lt_tmod_of_pos n (show 0<m by omega);omega
   have f:IntKind.i64.wrap (n.tmod m+m)=n.tmod m+m:=M2 _ (by omega);simp only[L7,C4,F6,simprocAttr,f];refine o7 results45 ?_;simp only[B3,simprocAttr];exact⟨by rw[cx9,if_neg b,if_pos a],by trivial⟩
  .have a:¬n.tmod m<0:=by simpa using c
   simp only[L7,simprocAttr];refine o7 results45 ?_;simp only[B3,simprocAttr];exact⟨by rw[cx9,if_neg b,if_neg a],by trivial⟩
end Go.Proofs.YtggahhenbbgffaaGreat
namespace Go.Proofs
open Go.Shelf
end Go.Proofs
namespace Go.Proofs.YtggahhenbbgffaaGreat
open Go Tryz
def bO6{α:Type}[A3 α]{h:Hp}{v:Value}{xs:List α}(e:R h v xs)(c:Nat):
  ∃(k:Nat) (u:Value),(if(c:Int)<(xs.length:Int)then(c:Int)else(xs.length:Int))=(k:Int)/\decide ((k:Int)<=(vcap v:Int))=true/\reS v 0 k (A3.sz α)=u/\R h u (xs.take c):=by
 have d:=e.vcap;have b:=e.pre (k:=min xs.length c) (by omega);have a:xs.take (min xs.length c)=xs.take c:=by
  rcases Nat.le_total xs.length c with h|h
  .rw[el2 h,eg4,ej5 h]
  .rw[Nat.min_eq_right h]
 rw[a]at b;exact⟨min xs.length c,_,by split<;>omega,by simp;omega,rfl,b⟩
def dG0(w:World)(x y:Operand)(p q:Vx):(do eqGuard .neq 26 x y (.agg p.cells.toArray) (.agg q.cells.toArray);binOp .neq 26 (.agg p.cells.toArray) (.agg q.cells.toArray):Sem Value).run prog w = .ok (.bool (!decide (p=q))) w:=by
 have b:=run_eqGuard_agg (P:=prog) w .neq 26 x y p.cells.toArray q.cells.toArray (by kernel_rfl);have a:=run_neq_struct (P:=prog) w 26 p.cells.toArray q.cells.toArray;simp only[eh7,b,eg9,a,be0 w 9998 p q]
def dv1{S:List Bool}:(af0 S).Pairwise (· < ·):=by
 unfold af0;refine List.Pairwise.map _ (λa b h=>?_) (List.Pairwise.filter _ List.pairwise_lt_range);exact Int.ofNat_lt.2 h
def ce5{V:List Vx}{L:List Eg}(c:0<V.length){S:List Bool}(hS:S.length=V.length){a:Int}:
  B1 (I3 (ab7 V L [1,2,3,6]) (I3 (ab7 V L [1,2,3,4,5]) S)) a=true↔∃b,B1 S b=true/\dD2 V L a b:=by
 rw[R1 (ar1 c) (by rw[ah0,K7,hS])];constructor
 .rintro⟨m,hm,f⟩;obtain⟨b,d,e⟩:=(R1 (ar1 c) (by rw[ah0,hS])).1 hm;exact⟨b,d,m,(X4 c).2 f,(X4 c).2 e⟩
 .rintro⟨b,d,m,f,e⟩;exact⟨m,(R1 (ar1 c) (by rw[ah0,hS])).2 ⟨b,d,(X4 c).1 e⟩,(X4 c).1 f⟩
def ch7{V:List Vx}{L:List Eg}(c:0<V.length){S:List Bool}(hS:S.length=V.length){b:Int}:
  B1 (I3 (R4 V L [1,2,3,4,5]) (I3 (R4 V L [1,2,3,6]) S)) b=true↔∃a,B1 S a=true/\dD2 V L a b:=by
 rw[R1 (aF0 c) (by rw[ay6,K7,hS])];constructor
 .rintro⟨m,hm,f⟩;obtain⟨a,d,e⟩:=(R1 (aF0 c) (by rw[ay6,hS])).1 hm;exact⟨a,d,m,e,f⟩
 .rintro⟨a,d,m,e,f⟩;exact⟨m,(R1 (aF0 c) (by rw[ay6,hS])).2 ⟨a,d,e⟩,f⟩
end Go.Proofs.YtggahhenbbgffaaGreat
namespace Go.Proofs
open Go.Shelf
end Go.Proofs
namespace Go.Proofs.YtggahhenbbgffaaGreat
open Go Tryz
def bF3(n:Int)(k:Nat)(d:0<k):∃N:Nat,cx9 n k=N/\N<k:=by
 have a:¬((k:Int)<1):=by omega
 have b : -(k:Int)<n.tmod k:=Int.lt_tmod_of_pos n (by omega);have c:n.tmod k<k:=Int.tmod_lt_of_pos n (by omega);unfold cx9;rw[if_neg a];split
 .exact⟨(n.tmod k+k).toNat,by omega,by omega⟩
 .exact⟨(n.tmod k).toNat,by omega,by omega⟩
def bF0{V:List Vx}{S:List Bool}{v:Vx}:v∈E8 V S↔∃i:Int,B1 S i=true/\V[i.toNat]?=some v:=by
 unfold E8;rw[List.mem_filterMap];exact⟨λ⟨i,a,b⟩=>⟨i,ag8.1 a,b⟩,λ⟨i,a,b⟩=>⟨i,ag8.2 a,b⟩⟩
def bQ3{V:List Vx}{S:List Bool}{v:Vx}(h:v∈E8 V S):v∈V:=by
 obtain⟨i,_,h⟩:=bF0.1 h;exact eh3 h
def aI8{V:List Vx}(hn:V.Nodup){S:List Bool}{v:Vx}(hv:v∈V):v∈E8 V S↔B1 S ((E5 V v:Nat):Int)=true:=by
 rw[bF0];constructor
 .rintro⟨i,a,b⟩;have c:=cI0 hn b;have:=B4.1 (V8 a);have e:((E5 V v:Nat):Int)=i:=by omega
  rw[e];exact a
 .exact λh=>⟨_,h,by rw[eh6];exact ar0 hv⟩
def ck0{V:List Vx}(h:V.Pairwise λu v=>S9 u v=true)(S:List Bool):(E8 V S).Pairwise λu v=>S9 u v=true:=by
 unfold E8;rw[List.pairwise_filterMap];refine(dv1 (S:=S)).imp_of_mem (fun{a b} ha hb hlt x hx y hy=>?_);obtain⟨c,rfl⟩:=ef6.1 hx;obtain⟨d,rfl⟩:=ef6.1 hy;have e:=B4.1 (V8 (ag8.1 ha));have f:=B4.1 (V8 (ag8.1 hb));exact em0.1 h _ _ c d (by omega)
section
variable {p:Pg} {vs:List Vx} {l:List Int} {v w:Vx}
def aU0{V:List Vx}(a:0<V.length){vs:List Vx}{l:List Int}(h:N8 V vs=some l){b:Int}:B1 (T7 V.length l) b=true↔∃u∈vs,((E5 V u:Nat):Int)=b:=by
 rw[ay4,(bF6 h).2,eh4];constructor
 .exact λc=>c.2
 .rintro⟨u,d,rfl⟩;exact⟨aJ5 a u,u,d,rfl⟩
def ak8(e:D3 p)(hw:B7 p<=1000000)(h:N8 (i4 p).wv vs=some l):v∈E8 (i4 p).wv ((i4 p).backB l)↔v∈(i4 p).wv/\∃u∈vs,cd5 p v u:=by
 have a:=ag5 e.toKnown;constructor
 .intro c;have hm:=bQ3 c;rw[aI8 (aA2 e hw) hm]at c;unfold Bk.backB at c;obtain⟨b,g,d⟩:=(ce5 a G2).1 c;obtain⟨u,f,rfl⟩:=(aU0 a h).1 g;exact⟨hm,u,f,d⟩
 .rintro⟨hm,u,f,d⟩;rw[aI8 (aA2 e hw) hm];exact(ce5 a G2).2 ⟨_,(aU0 a h).2 ⟨u,f,rfl⟩,d⟩
def aE1(e:D3 p)(hw:B7 p<=1000000)(h:N8 (i4 p).wv vs=some l):v∈E8 (i4 p).wv ((i4 p).forwB l)↔v∈(i4 p).wv/\∃u∈vs,cd5 p u v:=by
 have a:=ag5 e.toKnown;constructor
 .intro c;have hm:=bQ3 c;rw[aI8 (aA2 e hw) hm]at c;unfold Bk.forwB at c;obtain⟨b,g,d⟩:=(ch7 a G2).1 c;obtain⟨u,f,rfl⟩:=(aU0 a h).1 g;exact⟨hm,u,f,d⟩
 .rintro⟨hm,u,f,d⟩;rw[aI8 (aA2 e hw) hm];exact(ch7 a G2).2 ⟨_,(aU0 a h).2 ⟨u,f,rfl⟩,d⟩
def cd5.self(p:Pg)(v:Vx):cd5 p v v:=⟨_,.refl,.refl⟩
def ai8(b:D3 p)(hw:B7 p<=1000000)(hv:∀u∈vs,u∈(i4 p).wv):∃l,N8 (i4 p).wv vs=some l/\(∀u∈vs,u∈E8 (i4 p).wv ((i4 p).backB l))/\∀u∈vs,u∈E8 (i4 p).wv ((i4 p).forwB l):=by
 cases h:N8 (i4 p).wv vs with
 | none=>obtain⟨u,c,d⟩:=aE9.1 h;exact absurd (hv u c) d
 | some l=>exact⟨l,rfl,λu a=>(ak8 b hw h).2 ⟨hv u a,u,a,.self p u⟩,λu a=>(aE1 b hw h).2 ⟨hv u a,u,a,.self p u⟩⟩
def cM7{xs ys:List Vx}{i j k:List Int}(a:D3 p)(hw:B7 p<=1000000)(b:N8 (i4 p).wv xs=some i)(c:N8 (i4 p).wv ys=some j)(d:N8 (i4 p).wv (xs++ys)=some k):
  v∈E8 (i4 p).wv ((i4 p).backB k)↔v∈E8 (i4 p).wv ((i4 p).backB i)\/v∈E8 (i4 p).wv ((i4 p).backB j):=by
 rw[ak8 a hw b,ak8 a hw c,ak8 a hw d,<-and_or_left];refine and_congr_right λ_=>?_;simp only[eg1,or_and_right,exists_or]
def cP8{xs ys:List Vx}{i j k:List Int}(a:D3 p)(hw:B7 p<=1000000)(b:N8 (i4 p).wv xs=some i)(c:N8 (i4 p).wv ys=some j)(d:N8 (i4 p).wv (xs++ys)=some k):
  v∈E8 (i4 p).wv ((i4 p).forwB k)↔v∈E8 (i4 p).wv ((i4 p).forwB i)\/v∈E8 (i4 p).wv ((i4 p).forwB j):=by
 rw[aE1 a hw b,aE1 a hw c,aE1 a hw d,<-and_or_left];refine and_congr_right λ_=>?_;simp only[eg1,or_and_right,exists_or]
end
section
variable {p:Pg}
def R7(v:Value)(w:World)(hv:SV (m8 w) v p)(hw:B7 p<=1000000):
  o9 prog 17 #[v] w λu k=>(R (m8 k) u (if E0 p then(i4 p).wv else[])/\o6 w k):=by
 refine p9 [v] func17 rfl ?_;obtain⟨c,m,e,j,b⟩:=Q4 hv (n7 _);obtain⟨z,f,d,_⟩:=b.pg_v;simp only[i5,n9,simprocAttr,e,d m (n7 _)];refine t8 (aq3 z p m f hw) ?_;rintro u l ⟨o,q,h⟩;have a:=j.trans h;cases hR:E0 p
 .obtain rfl:=o hR;simp only[i5,n9,simprocAttr,bR6];exact o7 results17 ⟨(B0.nil (m8 l) l 0).rw_ (n7 _),a⟩
 obtain⟨C,g,r,A,B,x,rfl,y,n,t,s⟩:=q hR;simp only[i5,n9,simprocAttr,bR6,s.ld (i:=2) (u:=x.vV) rfl ab9];exact o7 results17 ⟨s.rV,a⟩
end
section
variable {p:Pg}
def aR9(v:Value)(m:Int)(w:World)(hv:SV (m8 w) v p)(hw:B7 p<=1000000):
  o9 prog 22 #[v,.int .i64 m] w λu l=>(u = .bool (E0 p&&decide (((bB0 p:Nat):Int)<=m))/\o6 w l):=by
 refine p9 [v,.int .i64 m] func22 rfl ?_;obtain⟨c,k,g,f,d⟩:=Q4 hv (n7 _);obtain⟨i,e,b,_⟩:=d.pg_v;simp only[i5,n9,simprocAttr,g,b k (n7 _)];refine B2 (S5 i p k e hw) (λj a=>?_);cases hR:E0 p
 .simp only[i5,simprocAttr];exact o7 results22 ⟨rfl,f.trans a⟩
 simp only[i5,n9,simprocAttr,b j (b7 a)];refine B2 (cL3 i p j (e.mono (b7 a)) hw) (λn h=>?_);simp only[i5,n9,simprocAttr];exact o7 results22 ⟨rfl,(f.trans a).trans h⟩
end
end Go.Proofs.YtggahhenbbgffaaGreat
namespace Go.Proofs
open Go.Shelf
end Go.Proofs
namespace Go.Proofs.YtggahhenbbgffaaGreat
open Go Tryz
def cm7(x y:Vx)(w:World):o9 prog 86 #[.agg (p8.cells x).toArray,.agg (p8.cells y).toArray] w λu k=>(u = .bool (S9 x y)/\o6 w k):=by
 refine p9 [.agg (p8.cells x).toArray,.agg (p8.cells y).toArray] func86 rfl ?_;obtain⟨m,l,a,i,c⟩:=bd6 (SV.ofN (m8 w) x) (n7 _);obtain⟨n,j,b,e,d⟩:=bd6 (SV.ofN (m8 l) y) (n7 _);have g:=c.vx.1 j (b7 e);have h:=d.vx.1 j (n7 _);have f:=i.trans e;unfold S9;rcases ef2 (decide (x.proc=y.proc))with h1|h1;rotate_left
 .rw[if_pos (ef7 h1)];simp only[i5,n9,simprocAttr,a,b,g,h,h1];exact o7 results86 ⟨rfl,f⟩
 rw[if_neg (by simpa using ef3 h1)];rcases ef2 (decide (x.kind=y.kind))with h2|h2;rotate_left
 .rw[if_pos (ef7 h2)];simp only[i5,n9,simprocAttr,a,b,g,h,h1,h2];exact o7 results86 ⟨rfl,f⟩
 rw[if_neg (by simpa using ef3 h2)];rcases ef2 (decide (x.id=y.id))with h3|h3;rotate_left
 .rw[if_pos (ef7 h3)];simp only[i5,n9,simprocAttr,a,b,g,h,h1,h2,h3];exact o7 results86 ⟨rfl,f⟩
 rw[if_neg (by simpa using ef3 h3)];simp only[i5,n9,simprocAttr,a,b,g,h,h1,h2,h3];exact o7 results86 ⟨rfl,f⟩
def bu4(G H:Value)(c l:List Vx)(w:World)(z:R (m8 w) G c)(hb:R (m8 w) H l)(W:c.length<=1000000000):
  o9 prog 24 #[G,H] w λu a=>(u = .bool (decide (c=l))/\o6 w a):=by
 refine p9 [G,H] func24 rfl ?_;have p:=z.isS;have t:=z.vlen;have q:=hb.isS;have v:=hb.vlen;rcases ef2 (decide ((c.length:Int)=(l.length:Int)))with h0|h0;rotate_left
 .simp only[i5,n9,simprocAttr,p,t,q,v,h0];refine o7 results24 ?_;simp only[B3,simprocAttr];refine⟨?_,o8.refl _⟩;rw[el3 λe=>ef7 h0 (by rw[e])]
 have J:c.length=l.length:=by have:=ef3 h0;omega
 simp only[i5,n9,simprocAttr,p,t,q,v,h0];refine A6 [0,1,11,12] (σ:=Nat) (λk f a=>f 13 = .int .i64 k/\k<=c.length/\(∀j,j<k->c[j]?=l[j]?)/\o6 w a) (λk=>c.length-k) 0 ?_ ?_
 .simp only[B3,simprocAttr];exact⟨by trivial,eg3 _,λj h=>by omega,o8.refl _⟩
 rintro k f m ⟨e0,M,N,A,_⟩ ⟨n,O,i,L⟩;simp only[i5,n9,simprocAttr,n,A];refine y5 (λo=>?_) ?_;rotate_left
 .rintro rfl;simp only[i5,simprocAttr];refine o7 results24 ?_;simp only[B3,simprocAttr];refine⟨?_,L⟩;rw[ek5 (es6 λj=>?_)];rcases ej6 j c.length with h|h
  .exact i j h
  .rw[eo4 h,eo4 (by omega)]
 have b:k<l.length:=by omega
 have r:=z.inS o;have s:=hb.inS b;have g:=L.trans (o6.drew m);have D:A3.sz Vx=4:=rfl;obtain⟨X,B,_,T⟩:=(z.at_ (ef1 o)).vx_v;obtain⟨Y,C,_,U⟩:=(hb.at_ (ef1 b)).vx_v;obtain rfl:=B.N;obtain rfl:=C.N;have E:=T (λa=>o6 m.drew a) m.drew (o8.refl _) λa h=>b7 (g.trans h);have F:=U (λa=>o6 m.drew a) m.drew (o8.refl _) λa h=>b7 (g.trans h);rw[D]at E F;simp only[p8.cells]at E F;have Q:=λ(x y:Operand) K f d I=>C0 (P:=prog) (S:=λa=>o6 m.drew a) (K:=K) (f:=f) (d:=d) (w:=I) (w0:=m.drew) (o8.refl _) λa h=>dG0 a x y c[k] l[k];simp only[i5,simprocAttr,n];refine B9 (λa=>o6 m.drew a) 9 (A5 [0,1,2,3,4,5,6,7,8]) ?_;simp only[D0,A5,i5,n9,y4,simprocAttr,e0,M,r,s,E,F,L8,Q];rcases ef2 (decide (c[k]=l[k]))with hq|hq
 .simp only[i5,n9,simprocAttr,hq,n];refine T4 (k+1) ⟨λj V=>?_,g⟩;rcases ej6 j k with h|h
  .exact i j h
  .obtain rfl:j=k:=by omega
   rw[ef1 o,ef1 b,ef3 hq]
 .simp only[i5,n9,simprocAttr,hq];refine o7 results24 ?_;simp only[B3,simprocAttr];refine⟨?_,g⟩;rw[el3 λe=>ef7 hq (by simp only[e])]
def ab6(l:List Vx)(n:Int):Vx:=l.getD (cx9 n l.length).toNat ah5
def aR2{l:List Vx}(h:0<l.length)(n:Int):ab6 l n∈l:=by
 obtain⟨N,b,a⟩:=bF3 n l.length h;unfold ab6;rw[b,eh6,List.getD,ef1 a];exact eg2 a
def V0(v:Value)(l:List Vx)(n:Int)(w:World)(hv:R (m8 w) v l)(t:l.length<=1000000000):
  o9 prog 16 #[v,.int .i64 n] w λu r=>(u = .agg (p8.cells (ab6 l n)).toArray/\o6 w r):=by
 refine p9 [v,.int .i64 n] func16 rfl ?_;obtain⟨m,d,i,a⟩:=di6 w;have o:=hv.isS;have p:=hv.vlen;rcases ef2 (decide ((l.length:Int)=0))with h0|h0
 .have g:l=[]:=List.length_eq_zero_iff.1 (by have:=ef3 h0;omega);obtain⟨s,j,k,c⟩:=a m ah5 (o8.refl _);simp only[i5,n9,simprocAttr,d,o,p,h0,aj4,j];refine N9 results16 (ad:=⟨w.heap.size,0,none⟩) (by simp only[B3,simprocAttr]) k ?_;refine⟨?_,c⟩;subst g;rfl
 have e:0<l.length:=by have:=ef7 h0;omega
 obtain⟨N,hN,b⟩:=bF3 n l.length e;have f:=hv.inS b;have h:=cj8 hv (b7 i) (ef1 b);obtain⟨s,j,k,c⟩:=a m l[N] (o8.refl _);have q:ab6 l n=l[N]:=by
  unfold ab6;rw[hN,eh6,List.getD,ef1 b];rfl
 simp only[i5,n9,simprocAttr,d,o,p,h0];refine E6 (cH6 n l.length m (by omega)) ?_;rw[hN];simp only[i5,n9,y4,simprocAttr,f,h,j];refine N9 results16 (ad:=⟨w.heap.size,0,none⟩) (by simp only[B3,simprocAttr]) k ?_;exact⟨by rw[q],c⟩
def aB2(l:List Vx)(by_:List Int):List Vx:=if l=[]then[]else(by_.take 3).map (ab6 l)
def aX7(H D:Value)(l:List Vx)(b:List Int)(w:World)(K:R (m8 w) H l)(hb:R (m8 w) D b)(W:l.length<=1000000000):
  o9 prog 23 #[H,D] w λu E=>(R (m8 E) u (aB2 l b)/\o6 w E):=by
 refine p9 [H,D] func23 rfl ?_;have J:=hb.isS;have M:=hb.vlen;have q:=K.isS;have v:=K.vlen;obtain⟨G,uc,T,U,V,d⟩:∃(G:Nat) (u:Value),(if(3:Int)<(b.length:Int)then(3:Int)else(b.length:Int))=(G:Int)/\decide ((G:Int)<=(vcap D:Int))=true/\reS D 0 G 1=u/\R (m8 w) u (b.take 3):=bO6 hb 3;have S:=d.isS;have Q:=d.vlen;have r:(b.take 3).length<=3:=by rw[eg0];omega
 have N:aB2 l b=if l=[]then[]else(b.take 3).map (ab6 l):=rfl;rw[N];generalize b.take 3=m at d Q r;simp only[i5,n9,J0,simprocAttr,J,M,T,U,V,S,Q];refine A6 [0,12,13] (σ:=Nat×Value) (λt f E=>f 14 = .int .i64 t.1/\f 5=t.2/\t.1<=m.length/\B0 (m8 w) E 26 t.2 (if l=[]then[]else(m.take t.1).map (ab6 l))/\o6 w E) (λt=>m.length-t.1) (0,.slice none 0 0) ?_ ?_
 .refine⟨rfl,rfl,eg3 _,?_,o8.refl _⟩;have:(if l=[]then([]:List Vx)else(m.take 0).map (ab6 l))=[]:=by split<;>simp
  rw[this];exact B0.nil _ _ _
 rintro⟨k,u⟩ f w2 ⟨e0,p,I,_⟩ ⟨c,F,L,o,a⟩;simp only at c F L o;simp only[i5,n9,simprocAttr,c,I];refine y5 (λj=>?_) ?_;rotate_left
 .rintro rfl;rw[eg4]at o;simp only[i5,simprocAttr,F];exact o7 results23 ⟨o.rw_ (b7 a),a⟩
 have s:=d.inS j;have i:=aC3 d (b7 a) j;have B:=aE6 (ab6 l) m j;generalize m[k]=n at i B;rcases ef2 (decide (0<(l.length:Int)))with h0|h0
 .have z:¬l=[]:=λh=>by subst h;simp at h0
  rw[if_neg z]at o;simp only[i5,n9,y4,simprocAttr,c,F,e0,p,s,i,q,v,h0];refine B2 (V0 H l n w2 (A3.mono (b7 a) K) W) (λw3 C=>?_);have A:=o.ext C;have g:=a.trans C;have X:((m.take k).map (ab6 l)).length<=3:=by rw[eg5,eg0];omega
  obtain⟨Y,u4,w4,Z,p3,p4,_⟩:=push (P:=prog) (t:=22) (e:=22) at7 rfl A (x:=.agg (p8.cells (ab6 l n)).toArray) (y:=ab6 l n) ((p8.iff_ _ _ _).2 rfl) (by omega) (by omega) (b7 g);simp only[i5,n9,simprocAttr,c,Y,Z];exact nx4 (k+1,u4) ⟨by rw[if_neg z,B];exact p3,A.ext2 g p4⟩
 .have O:l=[]:=List.length_eq_zero_iff.1 (by have:=ef7 h0;omega);rw[if_pos O]at o;simp only[i5,n9,y4,simprocAttr,c,F,e0,p,s,i,q,v,h0];exact nx4 (k+1,u) ⟨by rw[if_pos O];exact o,a⟩
def bx4{p:Pg}(a:E0 p=true){vs:List Vx}{l:List Int}(h:N8 (i4 p).wv vs=some l):ab3 p vs=(E8 (i4 p).wv ((i4 p).backB l),0):=by
 unfold ab3;rw[if_neg (by rw[a];simp),h]
def bX6{p:Pg}(a:E0 p=true){vs:List Vx}{l:List Int}(h:N8 (i4 p).wv vs=some l):ae9 p vs=(E8 (i4 p).wv ((i4 p).forwB l),0):=by
 unfold ae9;rw[if_neg (by rw[a];simp),h]
end Go.Proofs.YtggahhenbbgffaaGreat
