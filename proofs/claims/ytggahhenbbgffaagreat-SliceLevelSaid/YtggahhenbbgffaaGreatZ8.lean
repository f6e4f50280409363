/- What the functions of the program do, for every input; plain facts. No condition, no statement of its own. Part 6. -/
import Derived.Test.YtggahhenbbgffaaGreatZ6
set_option maxRecDepth 1000000
set_option maxHeartbeats 8000000
set_option linter.unusedVariables false
set_option linter.unusedSimpArgs false
set_option linter.unnecessarySimpa false
set_option linter.defProp false
namespace Go.Proofs.YtggahhenbbgffaaGreat
open Go Tryz
def bd6{h:Hp}{v:Value}{x:Vx}{w:World}(hv:SV h v x)(hw:B8 h (m8 w)):∃a b,(Instr.box 26 v).run prog w = .ok (.pointer (some a)) b/\o6 w b/\At (m8 b) a x:=bW0 hv hw
def cJ8{h:Hp}{v:Value}{x:Eg}{w:World}(hv:SV h v x)(hw:B8 h (m8 w)):∃a c b,(Instr.alloc 66 true (.tuple #[])).run prog w = .ok (.pointer (some a)) c/\(Instr.storeAt 66 (.pointer (some a)) v).run prog c = .ok () b/\o6 w b/\At (m8 b) a x:=bJ9 hv hw cJ6 rfl an3
def cO3:∀(m:Nat) (l:List St) (v:Value) (w:World),A7 l<=m->R (m8 w) v l->J4 l<=1000000->o9 prog 85 #[v] w λu a=>(u = .int .i64 (A7 l:Nat)/\o6 w a):=by
 intro m
 induction m with
 | zero=>
  intro l v w z e E;have n:l.length=0:=by have:=V9 l;omega
  refine p9 [v] func85 rfl ?_;simp only[n8,n9,simprocAttr,e.isS,e.vlen];refine A6 [7,8] (σ:=Nat) (λk f a=>f 9 = .int .i64 0/\f 3 = .int .i64 ((l.length:Nat):Int)/\a=w) (λk=>0) 0 ?_ ?_
  .simp only[B3,simprocAttr];exact⟨by trivial,by trivial,by trivial⟩
  .rintro k f q ⟨L,r,_⟩ ⟨i,g,rfl⟩;have K:decide ((0:Int)<((l.length:Nat):Int))=false:=by rw[n];decide
   simp only[n8,n9,simprocAttr,i,r,K,g];refine o7 results85 ?_;simp only[B3,simprocAttr];exact⟨by rw[List.eq_nil_of_length_eq_zero n];rfl,o8.refl _⟩
 | succ m I=>
  intro l v w z e E;refine p9 [v] func85 rfl ?_;have H:=aA1 l;have M:=V9 l;simp only[n8,n9,simprocAttr,e.isS,e.vlen];refine A6 [0,7,8] (σ:=Nat) (λk f a=>f 9 = .int .i64 k/\k<=l.length/\f 3 = .int .i64 ((l.length+A7 (l.take k)-k:Nat):Int)/\o6 w a) (λk=>l.length-k) 0 ?_ ?_
  .simp only[B3,simprocAttr];exact⟨by trivial,eg3 _,by simp[A7],o8.refl _⟩
  .rintro k f q ⟨e0,L,r,_⟩ ⟨i,x,g,o⟩;have y:=V9 (l.take k);rw[eg0,el2 x]at y;simp only[n8,n9,simprocAttr,i,r];refine y5 (λb=>?_) ?_
   .have s:=e.inS b;have j:=(e.at_ (ef1 b));have A:=aP0 l b;have G:=ax7 l (k+1);have D:=ap0 (eg2 b);generalize l[k]=t at j A D;have O:=az4 t;have T:=V7 t;obtain⟨vl,Z,X,W,P,Q,S,N,F,Y,V⟩:=j.st;have d:=o.trans (o6.drew q);have J:=V (λa=>o6 q.drew a) q.drew (o8.refl _) (λa h=>b7 (d.trans h));have U:A3.sz St=13:=rfl;rw[U]at J;simp only[n8,simprocAttr,i];refine B9 (λa=>o6 q.drew a) 16 (A5 [0,1,2,3,4,5,7,8,9,10,11,6,12,13,14,15]) ?_;simp only[D0,A5,n8,n9,y4,simprocAttr,e0,g,s,J];refine B2 (I t.thn X _ (by omega) (A3.mono (b7 d) S) (by omega)) (λw3 c=>?_);simp only[D0,n8,simprocAttr,F2];refine⟨c,?_⟩;refine B2 (I t.els W _ (by omega) (A3.mono (b7 (d.trans c)) N) (by omega)) (λw4 p=>?_);have B:IntKind.i64.wrap (((A7 t.thn:Nat):Int)+((A7 t.els:Nat):Int))=((A7 t.thn+A7 t.els:Nat):Int):=by rw[M2 _ (by omega)];omega
    have C:IntKind.i64.wrap (((l.length+A7 (l.take k)-k:Nat):Int)+((A7 t.thn+A7 t.els:Nat):Int))=((l.length+A7 (l.take (k+1))-(k+1):Nat):Int):=by rw[M2 _ (by omega)];omega
    simp only[D0,n8,n9,simprocAttr,F2,B,C,i];refine⟨c.trans p,?_⟩;exact nx4 (k+1) (d.trans (c.trans p))
   .rintro rfl;rw[eg4]at g;simp only[n8,simprocAttr,g];refine o7 results85 ?_;simp only[B3,simprocAttr];exact⟨by congr 1;congr 1;omega,o⟩
def cL3(v:Value)(p:Pg)(w:World)(hv:SV (m8 w) v p)(z:B7 p<=1000000):o9 prog 53 #[v] w λu D=>(u = .int .i64 (bB0 p:Nat)/\o6 w D):=by
 refine p9 [v] func53 rfl ?_;obtain⟨a,F,o,Q,K⟩:=Q4 hv (n7 _);obtain⟨Y,Z,V,i,S,W⟩:=K.pg;have R:=S F (n7 _);have J:=i.isS;have N:=i.vlen;have O:=ak3 p.procs;have L:=bx9 p.procs;unfold B7 at z;simp only[n8,n9,simprocAttr,o,R,J,N];refine A6 [1,7,8] (σ:=Nat) (λk f D=>f 9 = .int .i64 k/\k<=p.procs.length/\f 3 = .int .i64 ((((p.procs.take k).map λf=>A7 f.body).sum:Nat):Int)/\o6 F D) (λk=>p.procs.length-k) 0 ?_ ?_
 .simp only[B3,simprocAttr];exact⟨by trivial,eg3 _,by simp,o8.refl _⟩
 .rintro k f w2 ⟨U,H,I,_⟩ ⟨l,M,j,d⟩;simp only[n8,n9,simprocAttr,l,I];refine y5 (λc=>?_) ?_
  .have r:=i.inS c;obtain⟨X,g,e⟩:=F5 (P:=prog) (t:=75) i (b7 d) (ef1 c) at8 at9 ar9 Q9;rw[Q9]at e;have y:((p.procs.take (k+1)).map λf=>A7 f.body).sum=((p.procs.take k).map λf=>A7 f.body).sum+A7 p.procs[k].body:=by
    rw[ef8 c,ei4,List.sum_append];simp
   have E:((p.procs.take (k+1)).map λf=>A7 f.body).sum<=(p.procs.map λf=>A7 f.body).sum:=by
    conv=>rhs;rw[<-ej2 (k+1) p.procs,ei4,List.sum_append]
    omega
   have h:=aw8 (eg2 c);generalize p.procs[k]=q at g y h;obtain⟨b,wz,G,m,x,A,n⟩:=aV8 (g.mono (b7 d)) (n7 _);obtain⟨_,_,T,_,_,_,s,_,C,_⟩:=n.pr;simp only[n8,n9,y4,simprocAttr,l,H,r,e,m,x,C G (n7 _),j];refine B2 (cO3 _ q.body T G (eg6 _) s (by unfold ab0 at h;omega)) (λw4 B=>?_);simp only[n8,n9,simprocAttr,l];exact T4 (k+1) ⟨by rw[M2 _ (by omega)];congr 1;omega,d.trans (A.trans B)⟩
  .rintro rfl;rw[eg4]at j;simp only[n8,simprocAttr,j];exact o7 results53 ⟨rfl,Q.trans d⟩
end Go.Proofs.YtggahhenbbgffaaGreat
namespace Go.Proofs
open Go.Shelf
end Go.Proofs
namespace Go.Proofs.YtggahhenbbgffaaGreat
open Go Tryz
def cx9(n m:Int):Int:=if m<1 then 0 else if n.tmod m<0 then n.tmod m+m else n.tmod m
def cH6(n m:Int)(w:World)(e:m<=1000000000):o9 prog 45 #[.int .i64 n,.int .i64 m] w λv g=>(v = .int .i64 (cx9 n m)/\g=w):=by
 refine p9 [.int .i64 n,.int .i64 m] func45 rfl ?_;simp only[L7,R9,C4,F6,simprocAttr];refine A4 (λh=>?_) (λh=>?_)
 .simp only[L7,simprocAttr];refine o7 results45 ?_;simp only[B3,simprocAttr];have b:m<1:=by simpa using h
  exact⟨by rw[cx9,if_pos b],by trivial⟩
 .have b:¬m<1:=by simpa using h
  have d:¬m=0:=by omega
  simp only[L7,C4,F6,simprocAttr,d];refine A4 (λc=>?_) (λc=>?_)
  .have a:n.tmod m<0:=by simpa using c
   have i : -m<n.tmod m:=by have:=Int.lt_tmod_of_pos n (show 0<m by omega);omega
   have f:IntKind.i64.wrap (n.tmod m+m)=n.tmod m+m:=M2 _ (by omega);simp only[L7,C4,F6,simprocAttr,f];refine o7 results45 ?_;simp only[B3,simprocAttr];exact⟨by rw[cx9,if_neg b,if_pos a],by trivial⟩
  .have a:¬n.tmod m<0:=by simpa using c
   simp only[L7,simprocAttr];refine o7 results45 ?_;simp only[B3,simprocAttr];exact⟨by rw[cx9,if_neg b,if_neg a],by trivial⟩
end Go.Proofs.YtggahhenbbgffaaGreat
namespace Go.Proofs
open Go.Shelf
end Go.Proofs
namespace Go.Proofs.YtggahhenbbgffaaGreat
open Go Tryz
def ce5{V:List Vx}{L:List Eg}(c:0<V.length){S:List Bool}(hS:S.length=V.length){a:Int}:
  B1 (I3 (ab7 V L [1,2,3,6]) (I3 (ab7 V L [1,2,3,4,5]) S)) a=true↔∃b,B1 S b=true/\dD2 V L a b:=by
 rw[R1 (ar1 c) (by rw[ah0,K7,hS])];constructor
 .rintro⟨m,hm,f⟩;obtain⟨b,d,e⟩:=(R1 (ar1 c) (by rw[ah0,hS])).1 hm;exact⟨b,d,m,(X4 c).2 f,(X4 c).2 e⟩
 .rintro⟨b,d,m,f,e⟩;exact⟨m,(R1 (ar1 c) (by rw[ah0,hS])).2 ⟨b,d,(X4 c).1 e⟩,(X4 c).1 f⟩
def ch7{V:List Vx}{L:List Eg}(c:0<V.length){S:List Bool}(hS:S.length=V.length){b:Int}:
  B1 (I3 (R4 V L [1,2,3,4,5]) (I3 (R4 V L [1,2,3,6]) S)) b=true↔∃a,B1 S a=true/\dD2 V L a b:=by
 rw[R1 (aF0 c) (by rw[ay6,K7,hS])];constructor
 .rintro⟨m,hm,f⟩;obtain⟨a,d,e⟩:=(R1 (aF0 c) (by rw[ay6,hS])).1 hm;exact⟨a,d,m,e,f⟩
 .rintro⟨a,d,m,e,f⟩;exact⟨m,(R1 (aF0 c) (by rw[ay6,hS])).2 ⟨a,d,e⟩,f⟩
end Go.Proofs.YtggahhenbbgffaaGreat
namespace Go.Proofs
open Go.Shelf
end Go.Proofs
namespace Go.Proofs.YtggahhenbbgffaaGreat
open Go Tryz
def bF3(n:Int)(k:Nat)(d:0<k):∃N:Nat,cx9 n k=N/\N<k:=by
 have a:¬((k:Int)<1):=by omega
 have b : -(k:Int)<n.tmod k:=Int.lt_tmod_of_pos n (by omega);have c:n.tmod k<k:=Int.tmod_lt_of_pos n (by omega);unfold cx9;rw[if_neg a];split
 .exact⟨(n.tmod k+k).toNat,by omega,by omega⟩
 .exact⟨(n.tmod k).toNat,by omega,by omega⟩
def bF0{V:List Vx}{S:List Bool}{v:Vx}:v∈E8 V S↔∃i:Int,B1 S i=true/\V[i.toNat]?=some v:=by
 unfold E8;rw[List.mem_filterMap];exact⟨λ⟨i,a,b⟩=>⟨i,ag8.1 a,b⟩,λ⟨i,a,b⟩=>⟨i,ag8.2 a,b⟩⟩
def bQ3{V:List Vx}{S:List Bool}{v:Vx}(h:v∈E8 V S):v∈V:=by
 obtain⟨i,_,h⟩:=bF0.1 h;exact eh3 h
def aI8{V:List Vx}(hn:V.Nodup){S:List Bool}{v:Vx}(hv:v∈V):v∈E8 V S↔B1 S ((E5 V v:Nat):Int)=true:=by
 rw[bF0];constructor
 .rintro⟨i,a,b⟩;have c:=cI0 hn b;have:=B4.1 (V8 a);have e:((E5 V v:Nat):Int)=i:=by omega
  rw[e];exact a
 .exact λh=>⟨_,h,by rw[eh6];exact ar0 hv⟩
section
variable {p:Pg} {vs:List Vx} {l:List Int} {v w:Vx}
def aU0{V:List Vx}(a:0<V.length){vs:List Vx}{l:List Int}(h:N8 V vs=some l){b:Int}:B1 (T7 V.length l) b=true↔∃u∈vs,((E5 V u:Nat):Int)=b:=by
 rw[ay4,(bF6 h).2,eh4];constructor
 .exact λc=>c.2
 .rintro⟨u,d,rfl⟩;exact⟨aJ5 a u,u,d,rfl⟩
def ak8(e:D3 p)(hw:B7 p<=1000000)(h:N8 (i4 p).wv vs=some l):v∈E8 (i4 p).wv ((i4 p).backB l)↔v∈(i4 p).wv/\∃u∈vs,cd5 p v u:=by
 have a:=ag5 e.toKnown;constructor
 .intro c;have hm:=bQ3 c;rw[aI8 (aA2 e hw) hm]at c;unfold Bk.backB at c;obtain⟨b,g,d⟩:=(ce5 a G2).1 c;obtain⟨u,f,rfl⟩:=(aU0 a h).1 g;exact⟨hm,u,f,d⟩
 .rintro⟨hm,u,f,d⟩;rw[aI8 (aA2 e hw) hm];exact(ce5 a G2).2 ⟨_,(aU0 a h).2 ⟨u,f,rfl⟩,d⟩
def aE1(e:D3 p)(hw:B7 p<=1000000)(h:N8 (i4 p).wv vs=some l):v∈E8 (i4 p).wv ((i4 p).forwB l)↔v∈(i4 p).wv/\∃u∈vs,cd5 p u v:=by
 have a:=ag5 e.toKnown;constructor
 .intro c;have hm:=bQ3 c;rw[aI8 (aA2 e hw) hm]at c;unfold Bk.forwB at c;obtain⟨b,g,d⟩:=(ch7 a G2).1 c;obtain⟨u,f,rfl⟩:=(aU0 a h).1 g;exact⟨hm,u,f,d⟩
 .rintro⟨hm,u,f,d⟩;rw[aI8 (aA2 e hw) hm];exact(ch7 a G2).2 ⟨_,(aU0 a h).2 ⟨u,f,rfl⟩,d⟩
def cd5.self(p:Pg)(v:Vx):cd5 p v v:=⟨_,.refl,.refl⟩
def ai8(b:D3 p)(hw:B7 p<=1000000)(hv:∀u∈vs,u∈(i4 p).wv):∃l,N8 (i4 p).wv vs=some l/\(∀u∈vs,u∈E8 (i4 p).wv ((i4 p).backB l))/\∀u∈vs,u∈E8 (i4 p).wv ((i4 p).forwB l):=by
 cases h:N8 (i4 p).wv vs with
 | none=>obtain⟨u,c,d⟩:=aE9.1 h;exact absurd (hv u c) d
 | some l=>exact⟨l,rfl,λu a=>(ak8 b hw h).2 ⟨hv u a,u,a,.self p u⟩,λu a=>(aE1 b hw h).2 ⟨hv u a,u,a,.self p u⟩⟩
end
section
variable {p:Pg} {v:Vx} {e:Eg}
def cq3(c:E0 p=true)(hw:B7 p<=1000000)(d:e∈(i4 p).we):e.src∈(i4 p).wv/\e.dst∈(i4 p).wv:=by
 rcases aG3 c hw d with⟨a,b,_⟩|⟨v,h⟩
 .exact⟨a,b⟩
 .exact⟨h.src,h.dst⟩
end
section
variable {p:Pg} {a v u:Vx} {e:Eg} {o:List Int}
def bl1(g:D3 p)(hw:B7 p<=1000000){y:Vx}(k:y∈(i4 p).wv)(b:y.kind=5\/y.kind=6):(⟨⟨y.proc,2,y.id,e0⟩,y,1⟩:Eg)∈(i4 p).we:=by
 have K:=g.toKnown;obtain⟨i,a,f,e,j⟩:=aM9 K k;refine cx8.2 (ei1 _ (ei7.2 ⟨_,f,bm6.2 ?_⟩));rw[aU7 K a];unfold Bk.edge0;refine ei1 _ (ej4 _ (ei7.2 ⟨y,an6.2 j,?_⟩));unfold I5;have d:¬(y.kind=3\/y.kind=4):=by rintro(h|h)<;>rcases b with c|c<;>omega
 rw[if_neg d,if_pos b,M3 a,e];simp
end
def bu6{n:Nat}{next:List (List Int)}:∀(m:Nat) {f:List (List Bool)},SqM n f->cd3 n next f->m+1<=n->SqM n (H5 next f m)/\cd3 n next (H5 next f m)/\(∀c,m<=c->(H5 next f m).getD c []=f.getD c [])/\aD9 (H5 next f m)<=aD9 f/\(aD9 (H5 next f m)=aD9 f->H5 next f m=f/\∀a,a<m->W3 next f a=f.getD a [])
 | 0,f,hs,hd,_=>⟨hs,hd,λ_ _=>rfl,eg6 _,λ_=>⟨rfl,λa h=>by omega⟩⟩
 | m+1,f,hs,hd,hm=>by
  obtain⟨l,o,p,q⟩:=bI7 hs hd (a:=m) (by omega);obtain⟨i,j,k,g,b⟩:=bu6 m l o (by omega);rw[H5];refine⟨i,j,λc s=>?_,?_⟩
  .rw[k c (by omega)];show(f.set m (W3 next f m)).getD c []=_;rw[aR8 c (by rw[hs.len];omega),if_neg (by omega)]
  .by_cases h:W3 next f m=f.getD m []
   .rw[p h]at g b ⊢;refine⟨g,λe=>⟨(b e).1,λa r=>?_⟩⟩;rcases ej6 a m with d|d
    .exact(b e).2 a d
    .obtain rfl:a=m:=by omega
     exact h
   .have:=q h;exact⟨by omega,λe=>by omega⟩
def aQ0{n:Nat}{next:List (List Int)}{m:Nat}(hm:m+1<=n):∀(k:Nat) {f:List (List Bool)},SqM n f->cd3 n next f->aD9 f<k->SqM n (S6 next m k f)/\(∀a,a<m->W3 next (S6 next m k f) a=(S6 next m k f).getD a [])/\∀c,m<=c->(S6 next m k f).getD c []=f.getD c []
 | 0,f,_,_,h=>by omega
 | k+1,f,hs,hd,h=>by
  obtain⟨o,p,q,s,r⟩:=bu6 m hs hd hm;rw[S6];by_cases e:aD9 (H5 next f m)=aD9 f
  .obtain⟨b,g⟩:=r e;rw[b,aI1 b];exact⟨hs,g,λ_ _=>rfl⟩
  .obtain⟨i,j,l⟩:=aQ0 hm k o p (by omega);exact⟨i,j,λc d=>(l c d).trans (q c d)⟩
def bP3(wy:Wy){M:Nat}(g:wy.n=(M:Int))(i:2<=M){a b:Nat}(j:a+1<M)(hb:b<M):mAt wy.follow a b=(decide (a=b)||((ak6 M (wy.pairs wy.aug)).getD a []).all λc=>mAt wy.follow c.toNat b):=by
 have f:wy.follow=S6 (ak6 M (wy.pairs wy.aug)) (M-1) (M*M+1) (Q5 M):=by unfold Wy.follow;rw[g,eh6]
 have h:=bx8 M (Q5 M) (R6 M).row;rw[(R6 M).len]at h;obtain⟨d,e,_⟩:=aQ0 (next:=ak6 M (wy.pairs wy.aug)) (m:=M-1) (by omega) (M*M+1) (R6 M) (aP8 M _) (by omega);rw[<-f]at d e;have:=e a (by omega);unfold mAt at *;rw[<-this,aV0 d (by omega),ek5 hb,em1];rfl
def cv4(wy:Wy){M:Nat}(c:wy.n=(M:Int))(g:2<=M){b:Nat}(hb:b<M):mAt wy.follow (M-1) b=decide (M-1=b):=by
 have a:wy.follow=S6 (ak6 M (wy.pairs wy.aug)) (M-1) (M*M+1) (Q5 M):=by unfold Wy.follow;rw[c,eh6]
 have d:=bx8 M (Q5 M) (R6 M).row;rw[(R6 M).len]at d;obtain⟨_,_,f⟩:=aQ0 (next:=ak6 M (wy.pairs wy.aug)) (m:=M-1) (by omega) (M*M+1) (R6 M) (aP8 M _) (by omega);have e:mAt wy.follow (M-1) b=mAt (Q5 M) (M-1) b:=by
  unfold mAt;rw[a,f (M-1) (eg6 _)]
 rw[e,aZ7 (by omega) hb];have:decide (M-1+1<M)=false:=el3 (by omega);rw[this,er3]
def bM5(s:Sh)(it:It)(t:Int):Prop:=t∈s.goes it\/(⟨it.s.id,t,2⟩:Sp)∈T5 it
def bD2{l:List St}(h:l≠[])(o:Int):an1 l o=an1 l 0:=by
 cases l with
 | nil=>exact absurd rfl h
 | cons t l=>rfl
def cz3(s:Sh)(it:It):bM5 s it it.next\/(it.s.kind=5/\it.s.thn≠[]):=by
 unfold bM5 Sh.goes T5;by_cases h5:it.s.kind=5
 .by_cases hn:it.s.thn=[]
  .left;left;rw[if_pos h5,hn];simp[an1]
  .exact .inr ⟨h5,hn⟩
 .left;by_cases hj:it.s.kind=7\/it.s.kind=8\/it.s.kind=9\/it.s.kind=10
  .right;rw[if_pos hj];simp
  .left;rw[if_neg h5];by_cases h6:it.s.kind=6
   .rw[if_pos h6];simp
   .rw[if_neg h6,if_neg (by omega),if_neg (by omega),if_neg (by omega),if_neg (by omega)];simp
def dc7(s:Sh)(it:It)(h:it.s.kind=5\/it.s.kind=6)(a:it.s.thn≠[]):an1 it.s.thn 0∈s.goes it:=by
 unfold Sh.goes;rcases h with h|h
 .rw[if_pos h,bD2 a];simp
 .rw[if_neg (by omega),if_pos h,bD2 a];simp
def dc6(s:Sh)(it:It)(h:it.s.kind=5)(a:it.s.els≠[]):an1 it.s.els 0∈s.goes it:=by
 unfold Sh.goes;rw[if_pos h,bD2 a it.next];simp
mutual
def cg6(s:Sh):∀(t:St) (k:Nat) (d g a c:Int),∃it∈W0 t k d g a c,bM5 s it a
 | .mk id kind labels name proc x has args thn els,k,d,g,a,c=>by
  rw[P3];have b:=cz3 s ⟨.mk id kind labels name proc x has args thn els,d,g,a,c⟩;rcases b with h|⟨(l:kind=5),(f:thn≠[])⟩
  .exact⟨_,List.mem_cons_self,h⟩
  .have j:¬(St.mk id kind labels name proc x has args thn els).kind=6:=by show ¬kind=6;omega
   obtain⟨it,e,i⟩:=bP0 s thn f (k+1) d ((k:Int)+1) (if(St.mk id kind labels name proc x has args thn els).kind=6 then(k:Int)+1 else a) (if(St.mk id kind labels name proc x has args thn els).kind=6 then(k:Int)+1 else c);refine⟨it,ek0 _ (ei1 _ e),?_⟩;rw[if_neg j]at i;exact i
def bP0(s:Sh):∀(l:List St),l≠[]->∀(k:Nat) (d e b c:Int),∃it∈C8 l k d e b c,bM5 s it b
 | [],h,_,_,_,_,_=>absurd rfl h
 | [t],_,k,d,e,b,c=>by
  obtain⟨it,a,f⟩:=cg6 s t k d e b c;exact⟨it,by rw[C8];exact ei1 _ (by simpa using a),f⟩
 | t::u::l,_,k,d,e,b,c=>by
  obtain⟨it,a,f⟩:=bP0 s (u::l) (by simp) _ d e b c;exact⟨it,by rw[C8];exact ej4 _ a,f⟩
end
def cg7{t:St}{k:Fl}(h:X0 t=some k):(k.thn=true->t.kind=5\/t.kind=6)/\(k.els=true->t.kind=5):=by
 unfold X0 at h;by_cases h5:t.kind=5
 .exact⟨λ_=>.inl h5,λ_=>h5⟩
 by_cases h6:t.kind=6
 .refine⟨λ_=>.inr h6,λa=>?_⟩;rw[if_neg (by omega),if_neg (by omega),if_neg (by omega),if_neg (by omega),if_neg h5,if_pos h6]at h;rw[<-eh1 h]at a;cases a
 .rw[if_neg h5,if_neg h6]at h;have:k.thn=false/\k.els=false:=by
   repeat' split at h
   all_goals first
    | (rw[<-eh1 h];exact⟨rfl,rfl⟩)
    | cases h
  exact⟨λe=>(by rw[this.1]at e;cases e),λe=>(by rw[this.2]at e;cases e)⟩
def cu3{t:St}(h:R3 t=true):(t.thn≠[]->t.kind=5\/t.kind=6)/\(t.els≠[]->t.kind=5):=by
 have d:∀l:List St,l≠[]->decide (0<l.length)=true:=λl h=>ek5 (List.length_pos_iff.2 h);unfold R3 at h;split at h
 .cases h
 .next k g=>
  obtain⟨e,f⟩:=cg7 g;simp only[eh5,Bool.not_eq_true',Bool.or_eq_false_iff]at h;obtain⟨⟨⟨⟨⟨⟨⟨_,b⟩,c⟩,_⟩,_⟩,_⟩,_⟩,_⟩:=h;constructor
  .intro a;rw[d _ a,Bool.and_true,Bool.not_eq_false']at b;exact e b
  .intro a;rw[d _ a,Bool.and_true,Bool.not_eq_false']at c;exact f c
def cG3{d:Nat}{l:List St}{n m:Int}(h:I4 d l n=some m)(a:l≠[])(o:Int):an1 l o=n+1:=by
 cases l with
 | nil=>exact absurd rfl a
 | cons t l=>
  cases d with
  | zero=>simp[I4]at h
  | succ d=>
   rw[ao1]at h;obtain⟨e,b,_⟩:=el4.1 h;split at b
   .cases b
   .rename_i c;show t.id=n+1;exact eq5 λh=>c (.inr (.inl h))
mutual
def dv7(s:Sh):∀(t:St) (d k:Nat) (m:Int) (j l i g:Int),t.id=(k:Int)+1->R3 t=true->((I4 d t.thn ((k:Int)+1)).bind λm=>I4 d t.els m)=some m->∀it∈W0 t k j l i g,it.s.id=(k:Int)+1\/∃u∈W0 t k j l i g,u.s.id<it.s.id/\bM5 s u it.s.id
 | .mk id kind labels name proc x has args thn els,d,k,m,j,l,i,g,hid,hfl,h,it,a=>by
  obtain⟨c,f⟩:=cu3 hfl;simp only[St.id,St.thn,St.els,St.kind]at hid h c f;obtain⟨w,n,v⟩:=el4.1 h;have z:=(aI4 thn d _ _ n).1;rw[P3]at a ⊢;simp only[St.thn,St.els,St.kind]at a ⊢;rcases eh0.1 a with rfl|a
  .exact .inl hid
  right;rcases eg1.1 a with a|a
  .have b:thn≠[]:=λe=>by rw[e]at a;simp[C8]at a
   rcases bh1 s thn d (k+1) w _ _ _ _ (by rw[<-n];congr 1) it a with e|⟨u,r,o,p⟩
   .refine⟨_,List.mem_cons_self,by show id<_;omega,.inl ?_⟩;have q:=cG3 n b 0;have:=dc7 s ⟨.mk id kind labels name proc x has args thn els,j,l,i,g⟩ (c b) b;simp only[St.thn,q]at this;rw[show it.s.id=(k:Int)+1+1 by omega];exact this
   .exact⟨u,ek0 _ (ei1 _ r),o,p⟩
  .have b:els≠[]:=λe=>by rw[e]at a;simp[C8]at a
   have y:=f b;rcases bh1 s els d (k+1+A7 thn) m _ _ _ _ (by rw[<-v];congr 1;omega) it a with e|⟨u,r,o,p⟩
   .refine⟨_,List.mem_cons_self,by show id<_;omega,.inl ?_⟩;have q:=cG3 v b 0;have:=dc6 s ⟨.mk id kind labels name proc x has args thn els,j,l,i,g⟩ y b;simp only[St.els,q]at this;rw[show it.s.id=w+1 by omega];exact this
   .exact⟨u,ek0 _ (ej4 _ r),o,p⟩
def bh1(s:Sh):∀(l:List St) (d k:Nat) (m:Int) (i n g f:Int),I4 d l (k:Int)=some m->∀it∈C8 l k i n g f,it.s.id=(k:Int)+1\/∃u∈C8 l k i n g f,u.s.id<it.s.id/\bM5 s u it.s.id
 | [],_,_,_,_,_,_,_,_,it,a=>by simp[C8]at a
 | t::l,0,k,m,i,n,g,f,h,it,a=>by simp[I4]at h
 | t::l,d+1,k,m,i,n,g,f,h,it,a=>by
  rw[ao1]at h;obtain⟨z,o,A⟩:=el4.1 h;split at o
  .cases o
  rename_i w;have c:t.id=(k:Int)+1:=eq5 λh=>w (.inr (.inl h));have r:R3 t=true:=by
   cases hq:R3 t with
   | true=>rfl
   | false=>exact absurd (.inr (.inr (.inr hq))) w
  obtain⟨E,D⟩:=dd9 t d k z c o;rw[C8]at a ⊢;simp only[ac5]at a ⊢;rcases eg1.1 a with a|a
  .rcases dv7 s t d k z _ _ _ _ c r o it a with e|⟨u,b,p,q⟩
   .exact .inl e
   .exact .inr ⟨u,ei1 _ b,p,q⟩
  .right;have B:¬l.length=0:=λe=>by rw[List.length_eq_zero_iff.1 e]at a;simp[C8]at a
   rcases bh1 s l (d+1) (k+X7 t) m _ _ _ _ (by rw[<-A];congr 1;omega) it a with e|⟨u,b,p,q⟩
   .obtain⟨u,b,x⟩:=cg6 s t k i n (if l.length=0 then g else(k:Int)+1+X7 t) f;have C:u.s.id<=(k:Int)+X7 t:=by
     obtain⟨j,y⟩:=List.getElem?_of_mem b;have:=D _ _ _ _ _ _ _ y;have v:=(ef6.1 y).1;rw[ac5]at v;omega
    refine⟨u,ei1 _ b,by omega,?_⟩;rw[if_neg B]at x;rw[show it.s.id=(k:Int)+1+X7 t by omega];exact x
   .exact⟨u,ej4 _ b,p,q⟩
end
def bl5{z:Sp}:∀(l:List Sp) (q:Sp),z∈l->ar7 z q=true\/∃u∈al2 ar7 q l,ar7 u z=true
 | [],_,h=>by cases h
 | y::l,q,h=>by
  have d:∀a:Sp,ar7 a a=true:=λa=>by simp[ar7]
  have f:∀a b:Sp,ar7 a b=true->ar7 b a=true:=λa b h=>by
   simp only[ar7,eh5,ei8]at *;exact⟨h.1.symm,h.2.symm⟩
  rw[al2];split
  .next c=>
   rcases eh0.1 h with rfl|h
   .exact .inl c
   .rcases bl5 l y h with h|h
    .left;simp only[ar7,eh5,ei8]at *;exact⟨h.1.trans c.1,h.2.trans c.2⟩
    .exact .inr h
  .rcases eh0.1 h with rfl|h
   .exact .inr ⟨_,List.mem_cons_self,d _⟩
   .rcases bl5 l y h with h|⟨u,g,e⟩
    .exact .inr ⟨y,List.mem_cons_self,f _ _ h⟩
    .exact .inr ⟨u,ek0 _ g,e⟩
def ca9{z:Sp}{l:List Sp}(h:z∈l):∃u∈ag2 l,u.src=z.src/\u.dst=z.dst:=by
 have a:z∈Y4 cV1 l:=(G1 _ _).mem_iff.2 h;unfold ag2;have e:∀u:Sp,ar7 u z=true->u.src=z.src/\u.dst=z.dst:=λu h=>by
  simpa[ar7]using h
 generalize Y4 cV1 l=m at a;cases m with
 | nil=>cases a
 | cons y m=>
  rw[al1];rcases eh0.1 a with rfl|a
  .exact⟨_,List.mem_cons_self,rfl,rfl⟩
  .rcases bl5 m y a with h|⟨u,b,h⟩
   .have:=e y (by simp only[ar7,eh5,ei8]at *;exact⟨h.1.symm,h.2.symm⟩);exact⟨y,List.mem_cons_self,this⟩
   .exact⟨u,ek0 _ b,e u h⟩
section
variable {p:Pg} {i x y:Nat} {wy:Wy}
def dD6(a:am8 p i x y wy):wy.aug=ag2 (wy.virtual++ag2 (⟨0,(d9 p).first i,1⟩::((d9 p).of i).flatMap λit=>((d9 p).goes it).map λt=>⟨it.s.id,t,1⟩)++[⟨0,-1,2⟩]++((d9 p).of i).flatMap T5):=by
 unfold Wy.aug;rw[a.s,a.proc,a.real];rfl
def bg6(c:am8 p i x y wy){z:Sp}(h:z∈(⟨0,(d9 p).first i,1⟩::((d9 p).of i).flatMap λit=>((d9 p).goes it).map λt=>(⟨it.s.id,t,1⟩:Sp))\/z=⟨0,-1,2⟩\/z∈((d9 p).of i).flatMap T5):(wy.index z.src,wy.index z.dst)∈wy.pairs wy.aug:=by
 have f:∃u∈wy.aug,u.src=z.src/\u.dst=z.dst:=by
  rw[dD6 c];rcases h with h|h|h
  .obtain⟨u,d,a,b⟩:=ca9 h;obtain⟨k,e,g,j⟩:=ca9 (l:=wy.virtual++ag2 (⟨0,(d9 p).first i,1⟩::((d9 p).of i).flatMap λit=>((d9 p).goes it).map λt=>⟨it.s.id,t,1⟩)++[⟨0,-1,2⟩]++((d9 p).of i).flatMap T5) (ei1 _ (ei1 _ (ej4 _ d)));exact⟨k,e,g.trans a,j.trans b⟩
  .exact ca9 (ei1 _ (ej4 _ (by rw[h];exact List.mem_singleton_self _)))
  .exact ca9 (ej4 _ h)
 obtain⟨u,d,a,b⟩:=f;unfold Wy.pairs;exact eh4.2 ⟨u,d,by rw[a,b]⟩
def di0(hm:M8 p=true)(hw:B7 p<=1000000)(w:i<p.procs.length)(c:am8 p i x y wy){b:Nat}(M:1<=b)(N:x+b<=y):∃a:Nat,a<b/\((a:Int),(b:Int))∈wy.pairs wy.aug:=by
 obtain⟨C,D,I⟩:=c.part.at_ ((x+b:Nat):Int) (by omega) (by omega);generalize(d9 p).it ((x+b:Nat):Int)=it at C D I;have h:wy.index ((x+b:Nat):Int)=(b:Int):=by
  rw[c.toWyOk.index,if_neg (by omega),if_neg (by omega),if_pos (by omega)];omega
 obtain⟨l,r,k⟩:=V2 p hw i w;have H:l=x:=by
  have:=r.lo.symm.trans c.part.ok.lo;have:=eh1 this;omega
 subst H;obtain⟨n,m,v⟩:=bh2 hm w;have d:=(aB3 v).2.2.2;obtain⟨O,q⟩:=aI4 _ _ _ _ d;have g:=k ▸ C;have G:n=(l:Int):=by
  obtain⟨j,A⟩:=List.getElem?_of_mem g;have J:=q _ _ _ _ _ _ _ A;have f:=A;rw[<-k,c.part.ok.of_,eo3,en1]at f;split at f
  .have K:=aw3 hm _ _ f;omega
  .cases f
 rw[G]at d;rcases bh1 (d9 p) _ _ _ _ (i:Int) 0 (-1) 0 d it g with e|⟨u,s,L,o⟩
 .have E:b=1:=by omega
  subst E;refine⟨0,by omega,?_⟩;have:=bg6 c (z:=⟨0,(d9 p).first i,1⟩) (.inl List.mem_cons_self);have F:(d9 p).first i=((l+1:Nat):Int):=by
   unfold Sh.first atI;simp only[eh6,List.getD,c.part.ok.lo,c.part.ok.hi,ek4];rw[if_pos (by omega)];omega
  simp only at this;rw[F,h,c.toWyOk.index,if_pos rfl]at this;exact this
 .rw[<-k]at s;obtain⟨P,Q⟩:=c.part.ids u s;refine⟨(u.s.id-l).toNat,by omega,?_⟩;have B:(wy.index u.s.id,wy.index ((l+b:Nat):Int))∈wy.pairs wy.aug:=by
   rw[<-D];rcases o with o|o
   .exact bg6 c (z:=⟨u.s.id,it.s.id,1⟩) (.inl (ek0 _ (ei7.2 ⟨u,s,eh4.2 ⟨_,o,rfl⟩⟩)))
   .exact bg6 c (z:=⟨u.s.id,it.s.id,2⟩) (.inr (.inr (ei7.2 ⟨u,s,o⟩)))
  have t:wy.index u.s.id=(((u.s.id-l).toNat:Nat):Int):=by
   rw[c.toWyOk.index,if_neg (by omega),if_neg (by omega),if_pos (by omega)];omega
  rw[h,t]at B;exact B
def dr6(G:D3 p)(hw:B7 p<=1000000)(E:i<p.procs.length)(c:am8 p i x y wy){P:Int->Prop}(w:P 0)(H:∀d∈wy.decides,P d.1->P d.2):∀b:Nat,x+b<=y->1<=b->P ((x+b:Nat):Int):=by
 have O:=c.n;have B8:=c.part.ok.le;obtain⟨M,m⟩:∃M:Nat,wy.n=(M:Int):=⟨wy.n.toNat,by omega⟩;have g:2<=M:=by omega
 have j:∀b:Nat,x+b<=y->1<=b->wy.place (b:Int)=((x+b:Nat):Int):=λb l N=>by
  rw[c.toWyOk.place,if_neg (by omega),if_neg (by omega)];omega
 intro b
 induction b using Nat.strongRecOn with
 | ind b L=>
 intro A l;have v:mAt wy.follow 0 b=false:=by
  rw[bP3 wy m g (by omega) (by omega)];have k:(wy.index 0,wy.index (-1))∈wy.pairs wy.aug:=bg6 c (z:=⟨0,-1,2⟩) (.inr (.inl rfl));have J:wy.index 0=0:=by rw[c.toWyOk.index,if_pos rfl]
  have K:wy.index (-1)=wy.n-1:=by rw[c.toWyOk.index,if_neg (by decide),if_pos rfl]
  rw[J,K]at k;have f:∀(n:List (Int×Int)) (e:Int),((0:Int),e)∈n->e∈(ak6 M n).getD 0 []:=λn e C=>by
   rw[List.getD,bF5 n (show 0<M by omega),ek4];exact eh4.2 ⟨(0,e),eh8.2 ⟨C,by simp⟩,rfl⟩
  have f:=f _ _ k;rw[el3 (by omega),er3,List.all_eq_false];refine⟨_,f,?_⟩;rw[show(wy.n-1).toNat=M-1 by omega,cv4 wy m g (by omega),el3 (by omega)];simp
 have u:∀s:Nat,s<=b->1<=s->mAt wy.follow s b=true->∃a,a<b/\ak5 wy.follow M (wy.pairs wy.aug) a b=true:=by
  intro s
  induction s using Nat.strongRecOn with
  | ind s t=>
  intro I r D;obtain⟨a,o,F⟩:=di0 G.may hw E c r (by omega);cases hfa:mAt wy.follow a b with
  | true=>
   have h:a≠0:=λe=>by rw[e,v]at hfa;cases hfa
   exact t a o (by omega) (by omega) hfa
  | false=>
   refine⟨a,by omega,?_⟩;unfold ak5;rw[ek5 l,ek5 (show b+1<M by omega),em1,em1,es5];refine⟨_,F,?_⟩;simp only[eh6,D,hfa];simp
 obtain⟨a,o,B⟩:=u b (eg6 _) l (by rw[bP3 wy m g (by omega) (by omega)];simp);have q:(wy.place (a:Int),wy.place (b:Int))∈wy.decides:=by
  rw[aH5 m];exact ei7.2 ⟨a,ej7.2 (by omega),eh4.2 ⟨b,eh8.2 ⟨ej7.2 (by omega),B⟩,rfl⟩⟩
 have:=H _ q;simp only[j b A l]at this;refine this ?_;rcases Nat.eq_zero_or_pos a with rfl|h
 .rw[c.toWyOk.place,if_pos (by simp)];exact w
 .rw[j a (by omega) h];exact L a o (by omega) h
end
section
variable {p:Pg} {v u:Vx} {e:Eg}
def cj0(K:Known p){i:Nat}(a:i<p.procs.length)(hn:p.procs[i].name∈(i4 p).reached)(h:e∈(i4 p).edge0 (i:Int)):e∈(i4 p).we:=
 cx8.2 (ei1 _ (ei7.2 ⟨_,hn,by rw[aU7 K a];exact bm6.2 h⟩))
def bO9(j:D3 p)(hw:B7 p<=1000000)(hv:v∈(i4 p).wv):bd2 p [1,2,3] ⟨v.proc,1,0,e0⟩ v:=by
 have K:=j.toKnown;obtain⟨i,f,B,C,k⟩:=aM9 K hv;obtain⟨x,D⟩:=I1 j.may hw i f;have l:=O8 D;have w:(i4 p).way (i:Int)=D7 (d9 p) i:=by
  first
  | exact L9 f
  | (unfold Bk.way i4 J2;simp[f])
 have u:∀b:Nat,x+b<=x+A7 p.procs[i].body->1<=b->bd2 p [1,2,3] ⟨v.proc,1,0,e0⟩ ⟨v.proc,2,((x+b:Nat):Int),e0⟩:=λb F o=>by
  have:=dr6 j hw f l (P:=λd=>bd2 p [1,2,3] ⟨v.proc,1,0,e0⟩ (if d=0 then⟨v.proc,1,0,e0⟩else⟨v.proc,2,d,e0⟩)) (by simp only[em4];exact .refl) (λd A h=>by
   obtain⟨_,I⟩:=bB4 j hw f l d A;have E:d.2≠0:=by omega
   rw[if_neg E];have q:af5 v.proc d∈(i4 p).we:=cj0 K f B (by
    unfold Bk.edge0;rw[M3 f,w,C];exact ei1 _ (ei1 _ (eh4.2 ⟨d,A,rfl⟩)))
   have:=ag6 (ks:=[1,2,3]) K (aG9 q) (by simp[af5]);exact Z5.trans h this) b F o
  have t:((x+b:Nat):Int)≠0:=by omega
  rw[if_neg t]at this;exact this
 have g:(v.kind=3\/v.kind=4)->bd2 p [1,2,3] ⟨v.proc,1,0,e0⟩ v:=λs=>by
  have q:(⟨⟨v.proc,1,0,e0⟩,v,1⟩:Eg)∈(i4 p).we:=cj0 K f B (by
   unfold Bk.edge0;refine ei1 _ (ej4 _ (ei7.2 ⟨v,an6.2 k,?_⟩));unfold I5;rw[if_pos s,M3 f,C];simp)
  exact ag6 (ks:=[1,2,3]) (e:=⟨⟨v.proc,1,0,e0⟩,v,1⟩) K (aG9 q) (by simp)
 have c:(v.kind=2\/v.kind=5\/v.kind=6)->bd2 p [1,2,3] ⟨v.proc,1,0,e0⟩ ⟨v.proc,2,v.id,e0⟩:=λs=>by
  have h:=aB9 j.may hw f k s;have r:=D.ids _ h.mem;rw[h.id]at r;obtain⟨b,G⟩:∃b:Nat,v.id=((x+b:Nat):Int):=⟨(v.id-x).toNat,by omega⟩;rw[G];exact u b (by omega) (by omega)
 rcases N4.1 k with a|⟨n,_,a⟩|⟨n,_,a⟩|⟨it,H,a|⟨_,⟨n,_,a⟩|⟨n,_,a⟩⟩⟩
 .have m:v=⟨v.proc,1,0,e0⟩:=by rw[a]
  rw[<-m];exact .refl
 .exact g (.inl (by rw[a]))
 .exact g (.inr (by rw[a]))
 .have o:v.kind=2:=by rw[a]
  have m:v=⟨v.proc,2,v.id,e0⟩:=by rw[a]
  have:=c (.inl o);rw[<-m]at this;exact this
 .have y:v.kind=5:=by rw[a]
  exact(c (.inr (.inl y))).trans (ag6 (ks:=[1,2,3]) (e:=⟨⟨v.proc,2,v.id,e0⟩,v,1⟩) K (aG9 (bl1 j hw hv (.inl y))) (by simp))
 .have z:v.kind=6:=by rw[a]
  exact(c (.inr (.inr z))).trans (ag6 (ks:=[1,2,3]) (e:=⟨⟨v.proc,2,v.id,e0⟩,v,1⟩) K (aG9 (bl1 j hw hv (.inr z))) (by simp))
def bQ2(h:bd2 p [1,2,3] v u):cd5 p v u:=⟨_,.refl,aW1 (ks:=[1,2,3]) (by simp) h⟩
def da5(a:D3 p)(hw:B7 p<=1000000)(c:e∈(i4 p).we)(d:e.kind=4)(hv:v∈(i4 p).wv)(b:e.dst=⟨v.proc,1,0,e0⟩):cd5 p e.src v:=by
 refine⟨_,.refl,Z5.trans (ag6 (ks:=[1,2,3,4,5]) a.toKnown (aG9 c) (by simp[d])) ?_⟩;rw[b];exact aW1 (ks:=[1,2,3]) (by simp) (bO9 a hw hv)
end
def bY2(V:List Vx)(v:Vx):(al6 (as4 V) v).isSome=decide (v∈V):=by
 rw[aT4,Option.isSome_map,eq7,ab2,decide_eq_true_iff]
section
variable {w1 w:World} {g r:Nat} {ab:Addr} {vP:Value} {x:WX} {c:WC}
def cq9(s:WS w1 w g r ab vP x c)(a:Nat)(I:a<c.V.length)(C:OkA c.N.length c.N)(D:c.N.length=c.V.length)(hn:c.V.length<=1000000000):
  o9 prog 60 #[.pointer (some ⟨g,0,none⟩),.int .i64 a] w λu B=>(B0 (m8 w) B 4 u (I3 (ab5 c.N [1,2,3]) (T7 c.V.length [(a:Int)]))/\o6 w B):=by
 refine p9 [.pointer (some ⟨g,0,none⟩),.int .i64 a] func60 rfl ?_;obtain⟨G,K,p,t,e,_⟩:=lit (P:=prog) (w:=w) (h:=m8 w) (α:=Int) (xs:=[.int .i64 a]) (ys:=[(a:Int)]) (parts:=#[(0,.int .i64 a)]) (n:=1) V4 rfl (G4.2 rfl) (by simp[Value.cells]) rfl rfl (by simp) (by simp) (n7 _);have A:=s.more e;simp only[i5,n9,simprocAttr,p];refine t8 (aI9 A G [(a:Int)] (t.rw_ (b7 e)) (λb k=>by simp only[eh2]at k;subst k;exact B4.2 ⟨by omega,by omega⟩) hn (by simp)) ?_;rintro u H ⟨d,l⟩;have f:=e.trans l;have d:=d.back e;have F:=A.more l;have E:=F.ld (i:=6) (u:=x.vn) rfl bj5;obtain⟨J,L,q,v,j,o⟩:=lit (P:=prog) (w:=H) (h:=hZ) (α:=Int) (xs:=[.int .i64 1,.int .i64 2,.int .i64 3]) (ys:=[1,2,3]) (parts:=#[(0,.int .i64 1),(1,.int .i64 2),(2,.int .i64 3)]) (n:=3) V4 rfl (G4.2 rfl) (by simp[Value.cells]) rfl rfl (by simp) (by simp) (S8 _);simp only[i5,n9,simprocAttr,E,q];refine t8 (aV2 ((s.rn).ext (f.trans j)) (λb k=>s.lt (i:=5) k) (d.ext j) (f.trans j) v (λb k m=>by have:=d.lt m;have:=o b k;omega) C (by rw[D,G2]) (by rw[G2];exact hn) (by simp) (by simp)) ?_;rintro _ M ⟨y,_,z⟩;simp only[i5,simprocAttr];exact o7 results60 ⟨y,z⟩
end
section
variable {p:Pg}
def R7(v:Value)(w:World)(hv:SV (m8 w) v p)(hw:B7 p<=1000000):
  o9 prog 17 #[v] w λu k=>(R (m8 k) u (if E0 p then(i4 p).wv else[])/\o6 w k):=by
 refine p9 [v] func17 rfl ?_;obtain⟨c,m,e,j,b⟩:=Q4 hv (n7 _);obtain⟨z,f,d,_⟩:=b.pg_v;simp only[i5,n9,simprocAttr,e,d m (n7 _)];refine t8 (aq3 z p m f hw) ?_;rintro u l ⟨o,q,h⟩;have a:=j.trans h;cases hR:E0 p
 .obtain rfl:=o hR;simp only[i5,n9,simprocAttr,bR6];exact o7 results17 ⟨(B0.nil (m8 l) l 0).rw_ (n7 _),a⟩
 obtain⟨C,g,r,A,B,x,rfl,y,n,t,s⟩:=q hR;simp only[i5,n9,simprocAttr,bR6,s.ld (i:=2) (u:=x.vV) rfl ab9];exact o7 results17 ⟨s.rV,a⟩
def aK3(v:Value)(w:World)(hv:SV (m8 w) v p)(hw:B7 p<=1000000):
  o9 prog 27 #[v] w λu k=>(R (m8 k) u (if E0 p then(i4 p).we else[])/\o6 w k):=by
 refine p9 [v] func27 rfl ?_;obtain⟨c,m,e,j,b⟩:=Q4 hv (n7 _);obtain⟨z,f,d,_⟩:=b.pg_v;simp only[i5,n9,simprocAttr,e,d m (n7 _)];refine t8 (aq3 z p m f hw) ?_;rintro u l ⟨o,q,h⟩;have a:=j.trans h;cases hR:E0 p
 .obtain rfl:=o hR;simp only[i5,n9,simprocAttr,bR6];exact o7 results27 ⟨(B0.nil (m8 l) l 0).rw_ (n7 _),a⟩
 obtain⟨C,g,r,A,B,x,rfl,y,n,t,s⟩:=q hR;simp only[i5,n9,simprocAttr,bR6,s.ld (i:=3) (u:=x.vE) rfl bj4];exact o7 results27 ⟨s.rE,a⟩
end
section
variable {p:Pg}
def bE5(p:Pg)(a b:Vx):Bool:=B1 (I3 (R4 (i4 p).wv (i4 p).all [1,2,3]) (T7 (i4 p).wv.length [((E5 (i4 p).wv a:Nat):Int)])) ((E5 (i4 p).wv b:Nat):Int)
def aQ9(p:Pg)(a b:Vx):Bool:=E0 p&&(decide (a∈(i4 p).wv)&&(decide (b∈(i4 p).wv)&&bE5 p a b))
def cL7(v:Value)(a b:Vx)(w:World)(hv:SV (m8 w) v p)(hw:B7 p<=1000000):
  o9 prog 34 #[v,.agg (p8.cells a).toArray,.agg (p8.cells b).toArray] w λu w'=>(u = .bool (aQ9 p a b)/\o6 w w'):=by
 refine p9 [v,.agg (p8.cells a).toArray,.agg (p8.cells b).toArray] func34 rfl ?_;obtain⟨c,T,K,S,y⟩:=W9 (w:=w) (λ_=>False) hv (λ_ h=>h.elim);obtain⟨ca,U,I,H,q⟩:=aH1 (w:=T) (λ_=>False) (SV.ofN (m8 T) a) (λ_ h=>h.elim);obtain⟨cb,wc,J,o,t⟩:=aH1 (w:=U) (λ_=>False) (SV.ofN (m8 U) b) (λ_ h=>h.elim);have l1:=(I6.pg_v hv y).1 wc (p7 (A8 _ _) (b7 (H.trans o)));have e:=(S.trans H).trans o;simp only[i5,n9,simprocAttr,K,I,J,l1];refine t8 (aq3 v p wc (hv.mono (b7 e)) hw) ?_;rintro u w2 ⟨hf,ht,m⟩;have i:=e.trans m;cases hR:E0 p
 .obtain rfl:=hf hR;have f:aQ9 p a b=false:=by unfold aQ9;rw[hR];rfl
  simp only[i5,n9,simprocAttr,aC4];refine o7 results34 ?_;simp only[B3,simprocAttr];rw[f];exact⟨by trivial,i⟩
 obtain⟨w1,g,r,ab,vP,x,rfl,Q,ad,ah,s⟩:=ht hR;rw[bK2]at s;have W:=G6 hR;have aj:=at1 W hw;have V:=ag5 W.toKnown;have la:=(I6.vx_v (SV.ofN (m8 T) a) q).1 w2 (p7 (A8 _ _) (b7 (o.trans m)));have D:(wcC p [] []).kv=as4 (i4 p).wv:=rfl;have f:aQ9 p a b=(decide (a∈(i4 p).wv)&&(decide (b∈(i4 p).wv)&&bE5 p a b)):=by unfold aQ9;rw[hR];rfl
 simp only[i5,n9,simprocAttr,aC4,la];refine B2 (bU9 s a) (λw3 n=>?_);rw[D,cx1,bY2];have X:=s.more n;have lb:=(I6.vx_v (SV.ofN (m8 U) b) t).1 w3 (p7 (A8 _ _) (b7 (m.trans n)));simp only[i5,simprocAttr,lb];refine B2 (bU9 X b) (λw4 G=>?_);rw[D,cx1,bY2];have s4:=X.more G;have j:=(i.trans n).trans G;cases hda:decide (a∈(i4 p).wv)
 .rw[hda,Bool.false_and]at f;simp only[i5,simprocAttr];refine o7 results34 ?_;simp only[B3,simprocAttr];rw[f];exact⟨by trivial,j⟩
 rw[hda,em1]at f;cases hdb:decide (b∈(i4 p).wv)
 .rw[hdb,Bool.false_and]at f;simp only[i5,simprocAttr];refine o7 results34 ?_;simp only[B3,simprocAttr];rw[f];exact⟨by trivial,j⟩
 rw[hdb,em1]at f;simp only[i5,simprocAttr];refine t8 (bz8 s4 hR hw) ?_;rintro _ w5 ⟨x5,C,rfl,Y,E,hC,_⟩;have F:o6 w w5:=e.trans (Q.trans Y.ext);have L:=aU4 V a;have af:=aU4 V b;simp only[i5,simprocAttr];refine t8 (cq9 Y (E5 (i4 p).wv a) L (bZ2 hR hw E).2 aU3 (by show(i4 p).wv.length<=_;omega)) ?_;rintro u6 Z ⟨d,R⟩;dsimp only[wcC]at d;rw[ba0 hR hw hC G2]at d;have A:bE5 p a b=B1 (I3 (R4 (i4 p).wv (i4 p).all [1,2,3]) (T7 (i4 p).wv.length [((E5 (i4 p).wv a:Nat):Int)])) ((E5 (i4 p).wv b:Nat):Int):=rfl;have N:(I3 (R4 (i4 p).wv (i4 p).all [1,2,3]) (T7 (i4 p).wv.length [((E5 (i4 p).wv a:Nat):Int)])).length=(i4 p).wv.length:=by rw[K7,G2]
 generalize I3 (R4 (i4 p).wv (i4 p).all [1,2,3]) (T7 (i4 p).wv.length [((E5 (i4 p).wv a:Nat):Int)])=M at d A N;have k:E5 (i4 p).wv b<M.length:=by omega
 have B:=d.inS k;have l:(Instr.loadAt 4 (.pointer (some (G9 u6 (E5 (i4 p).wv b))))).run prog Z = .ok (.bool M[E5 (i4 p).wv b]) Z:=D6 (P:=prog) d (ef1 k) ah3;have z:B1 M ((E5 (i4 p).wv b:Nat):Int)=M[E5 (i4 p).wv b]:=by
  have O:I2 M.length ((E5 (i4 p).wv b:Nat):Int)=true:=B4.2 ⟨by omega,by omega⟩;rw[(O0 O).2,eh6,List.getD,ef1 k];rfl
 rw[f,A,z];generalize M[E5 (i4 p).wv b]=mb at l;generalize E5 (i4 p).wv b=Bn at B l;simp only[i5,n9,y4,simprocAttr,B,l];exact o7 results34 ⟨rfl,F.trans R⟩
def aR9(v:Value)(m:Int)(w:World)(hv:SV (m8 w) v p)(hw:B7 p<=1000000):
  o9 prog 22 #[v,.int .i64 m] w λu l=>(u = .bool (E0 p&&decide (((bB0 p:Nat):Int)<=m))/\o6 w l):=by
 refine p9 [v,.int .i64 m] func22 rfl ?_;obtain⟨c,k,g,f,d⟩:=Q4 hv (n7 _);obtain⟨i,e,b,_⟩:=d.pg_v;simp only[i5,n9,simprocAttr,g,b k (n7 _)];refine B2 (S5 i p k e hw) (λj a=>?_);cases hR:E0 p
 .simp only[i5,simprocAttr];exact o7 results22 ⟨rfl,f.trans a⟩
 simp only[i5,n9,simprocAttr,b j (b7 a)];refine B2 (cL3 i p j (e.mono (b7 a)) hw) (λn h=>?_);simp only[i5,n9,simprocAttr];exact o7 results22 ⟨rfl,(f.trans a).trans h⟩
end
end Go.Proofs.YtggahhenbbgffaaGreat
namespace Go.Proofs
open Go.Shelf
end Go.Proofs
namespace Go.Proofs.YtggahhenbbgffaaGreat
open Go Tryz
def cN5(q:A9)(k:Int):B6 prog 26 [(0,p6 q),(1,.int .i64 k)]=some (.agg (p8.cells (⟨q,k,0,e0⟩:Vx)).toArray):=by
 have a:p8.cells (⟨q,k,0,e0⟩:Vx)=[p6 q,.int .i64 k,.int .i64 0,p6 e0]:=rfl;rw[a];simp[B6,bJ4,J9,Instr.fill,Z8,Z9,X2]
def be2{α:Type}(P:α->Bool){l:List α}{k:Nat}(h:k<l.length):(l.take (k+1)).filter P=(l.take k).filter P++(if P l[k]then[l[k]]else[]):=by
 rw[ef8 h,el7];cases hp:P l[k]<;>simp[hp]
def cT7(v:Value)(l:List Eg)(o:Int)(w:World)(hv:R (m8 w) v l)(hl:l.length<=1000000000):
  o9 prog 35 #[v,.int .i64 o] w λu D=>(B0 (m8 w) D 66 u (l.filter λe=>decide (e.kind=o))/\o6 w D):=by
 refine p9 [v,.int .i64 o] func35 rfl ?_;simp only[i5,n9,simprocAttr,hv.isS,hv.vlen];refine A6 [1,8,9] (σ:=Nat×Value) (λs f D=>f 10 = .int .i64 s.1/\f 5=s.2/\s.1<=l.length/\B0 (m8 w) D 66 s.2 ((l.take s.1).filter λe=>decide (e.kind=o))/\o6 w D) (λs=>l.length-s.1) (0,.slice none 0 0) ?_ ?_
 .exact⟨rfl,rfl,eg3 _,B0.nil _ _ _,o8.refl _⟩
 rintro⟨k,Y⟩ f w2 ⟨I,J,M,_⟩ ⟨g,E,G,h,i⟩;simp only at g E G h i;simp only[i5,n9,simprocAttr,g,M];refine y5 (λm=>?_) ?_;rotate_left
 .intro F;rw[F,eg4]at h;simp only[i5,simprocAttr,E];exact o7 results35 ⟨h,i⟩
 have r:=hv.inS m;obtain⟨W,A,j⟩:=F5 (P:=prog) (t:=66) hv (b7 i) (ef1 m) bv5 bv8 aY1 an3;rw[an3]at j;have a:=be2 (λe:Eg=>decide (e.kind=o)) m;have O:((l.take k).filter λe=>decide (e.kind=o)).length<=1000000000:=ef9 (eh9 _ _) (by rw[eg0];omega);generalize l[k]=e at A a;obtain rfl:=A.N;obtain⟨d,wz,L,p,z,C,q⟩:=cJ8 (SV.ofN (m8 w2) e) (n7 _);obtain⟨_,_,V,_⟩:=q.eg;obtain⟨W,B,H,_⟩:=q.eg_v;obtain rfl:=B.N;have K:=V L (n7 _);have X:=H L (n7 _);have c:=i.trans C;have n:=h.ext C;rcases ef2 (decide (e.kind=o))with hd|hd
 .obtain⟨Q,Z,w4,S,T,U,p5⟩:=push (e:=54) bT1 rfl n (x:=.agg (p8.cells e).toArray) (y:=e) (SV.ofN (m8 w) e).enc (by omega) (by omega) (b7 c);rw[hd,if_pos rfl]at a;simp only[i5,n9,y4,simprocAttr,g,J,I,r,j,p,z,K,X,hd,E,Q,S];refine nx4 (k+1,Z) ⟨?_,?_⟩
  .simp only[];rw[a];exact T
  .exact o8.ext_of c U λb N=>D1 (n.free N)
 .rw[hd,if_neg (by simp),ei5]at a;simp only[i5,n9,y4,simprocAttr,g,J,I,r,j,p,z,K,hd];refine nx2 (k+1,Y) ⟨by simpa using E,by omega,?_,c⟩;simp only[];rw[a];exact n
def ae1(v:Value)(l:List Vx)(x:Vx)(w:World)(hv:R (m8 w) v l)(X:l.length<=1000000000):
  o9 prog 21 #[v,.agg (p8.cells x).toArray] w λu d=>(u = .bool (l.contains x)/\o6 w d):=by
 refine p9 [v,.agg (p8.cells x).toArray] func21 rfl ?_;have O:=hv.isS;have Q:=hv.vlen;obtain⟨V,U,C,k,o⟩:=bd6 (SV.ofN (m8 w) x) (n7 _);obtain⟨S,z,_,I⟩:=o.vx_v;obtain rfl:=z.N;simp only[i5,n9,simprocAttr,C,O,Q];refine A6 [0,3,6,7] (σ:=Nat) (λi f d=>f 8 = .int .i64 i/\i<=l.length/\(∀j y,j<i->l[j]?=some y->y≠x)/\o6 U d) (λi=>l.length-i) 0 ?_ ?_
 .simp only[B3,simprocAttr];exact⟨by trivial,eg3 _,λj _ h=>by omega,o8.refl _⟩
 rintro i f m ⟨e0,K,W,N,_⟩ ⟨B,P,r,A⟩;simp only[i5,n9,simprocAttr,B,N];refine y5 (λg=>?_) ?_;rotate_left
 .rintro rfl;simp only[i5,simprocAttr];refine o7 results21 ?_;simp only[B3,simprocAttr];refine⟨?_,k.trans A⟩;have:l.contains x=false:=by
   rw[ep7];intro h;obtain⟨j,D⟩:=eo5.1 (eg7.1 h);exact r j x (ef6.1 D).1 D rfl
  rw[this]
 have p:=hv.inS g;have c:=A.trans (o6.drew m);have n:=hv.at_ (i:=i) (x:=l[i]) (ef1 g);have H:A3.sz Vx=4:=rfl;rw[H]at n;obtain⟨Y,F,_,J⟩:=n.vx_v;obtain rfl:=F.N;have L:=J (λd=>o6 m.drew d) m.drew (o8.refl _) λd h=>b7 (k.trans (c.trans h));have M:=I (λd=>o6 m.drew d) m.drew (o8.refl _) λd h=>b7 (c.trans h);have t:=λT a b=>bl8 T a b l[i] x;have q:l[i]=x->l.contains x=true:=λe=>eg7.2 (e ▸ eg2 g);have s:l[i]≠x->∀j y,j<i+1->l[j]?=some y->y≠x:=λE j y D G=>by
  rcases ej6 j i with h|h
  .exact r j y h G
  .obtain rfl:j=i:=by omega
   rw[ef1 g]at G;obtain rfl:=eh1 G;exact E
 rcases ef2 (decide (l[i]=x))with hq|hq
 .simp only[i5,simprocAttr,B];refine B9 (λd=>o6 m.drew d) 5 (A5 [0,1,2,3,4]) ?_;simp only[D0,A5,i5,n9,y4,simprocAttr,e0,K,p,L,M];simp only[i5,simprocAttr,L8,p8.cells,t,hq];refine o7 results21 ?_;simp only[B3,simprocAttr];exact⟨by rw[q (ef3 hq)],k.trans c⟩
 .simp only[i5,simprocAttr,B];refine B9 (λd=>o6 m.drew d) 5 (A5 [0,1,2,3,4]) ?_;simp only[D0,A5,i5,n9,y4,simprocAttr,e0,K,p,L,M];simp only[i5,n9,simprocAttr,L8,p8.cells,t,hq,B];exact T4 (i+1) ⟨s (ef7 hq),c⟩
def ab6(l:List Vx)(n:Int):Vx:=l.getD (cx9 n l.length).toNat ah5
def aR2{l:List Vx}(h:0<l.length)(n:Int):ab6 l n∈l:=by
 obtain⟨N,b,a⟩:=bF3 n l.length h;unfold ab6;rw[b,eh6,List.getD,ef1 a];exact eg2 a
def V0(v:Value)(l:List Vx)(n:Int)(w:World)(hv:R (m8 w) v l)(t:l.length<=1000000000):
  o9 prog 16 #[v,.int .i64 n] w λu r=>(u = .agg (p8.cells (ab6 l n)).toArray/\o6 w r):=by
 refine p9 [v,.int .i64 n] func16 rfl ?_;obtain⟨m,d,i,a⟩:=di6 w;have o:=hv.isS;have p:=hv.vlen;rcases ef2 (decide ((l.length:Int)=0))with h0|h0
 .have g:l=[]:=List.length_eq_zero_iff.1 (by have:=ef3 h0;omega);obtain⟨s,j,k,c⟩:=a m ah5 (o8.refl _);simp only[i5,n9,simprocAttr,d,o,p,h0,aj4,j];refine N9 results16 (ad:=⟨w.heap.size,0,none⟩) (by simp only[B3,simprocAttr]) k ?_;refine⟨?_,c⟩;subst g;rfl
 have e:0<l.length:=by have:=ef7 h0;omega
 obtain⟨N,hN,b⟩:=bF3 n l.length e;have f:=hv.inS b;have h:=cj8 hv (b7 i) (ef1 b);obtain⟨s,j,k,c⟩:=a m l[N] (o8.refl _);have q:ab6 l n=l[N]:=by
  unfold ab6;rw[hN,eh6,List.getD,ef1 b];rfl
 simp only[i5,n9,simprocAttr,d,o,p,h0];refine E6 (cH6 n l.length m (by omega)) ?_;rw[hN];simp only[i5,n9,y4,simprocAttr,f,h,j];refine N9 results16 (ad:=⟨w.heap.size,0,none⟩) (by simp only[B3,simprocAttr]) k ?_;exact⟨by rw[q],c⟩
def dh6{p:Pg}(a:D3 p)(hw:B7 p<=1000000){v:Vx}(hv:v∈(i4 p).wv):∃l,N8 (i4 p).wv [v]=some l:=by
 obtain⟨l,h,_⟩:=ai8 (vs:=[v]) a hw (by simpa using hv);exact⟨l,h⟩
def bx4{p:Pg}(a:E0 p=true){vs:List Vx}{l:List Int}(h:N8 (i4 p).wv vs=some l):ab3 p vs=(E8 (i4 p).wv ((i4 p).backB l),0):=by
 unfold ab3;rw[if_neg (by rw[a];simp),h]
end Go.Proofs.YtggahhenbbgffaaGreat
