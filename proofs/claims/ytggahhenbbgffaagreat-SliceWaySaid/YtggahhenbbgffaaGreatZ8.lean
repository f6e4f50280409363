import Derived.Test.YtggahhenbbgffaaGreatZ6
set_option maxRecDepth 1000000
set_option maxHeartbeats 8000000
set_option linter.unusedVariables false
set_option linter.unusedSimpArgs false
set_option linter.unnecessarySimpa false
set_option linter.defProp false
namespace Go.Proofs.YtggahhenbbgffaaGreat
open Go Tryz
theorem zt{P:Prop}(h:P:=by trivial):P:=h
theorem zo{P:Prop}(h:P:=by omega):P:=h
theorem zs{P:Prop}(h:P:=by simp):P:=h
def dC1:(prog.info? 52).isSome=true:=by kernel_rfl
def aM7:N0 prog 52=2:=by kernel_rfl
def dT7:H3 prog 52=some (.agg #[.slice none 0 0,.bool false]):=by kernel_rfl
def dB9:J5 prog 52=true:=by kernel_rfl
def dC7:(prog.underlying 52).isSome=true:=by kernel_rfl
def dC3:P2 prog 52=some (#[.slice none 0 0,.bool false],[(0,1),(1,1)]):=by kernel_rfl
def bd6{h:Hp}{v:Value}{x:Vx}{w:World}(hv:SV h v x)(hw:B8 h (m8 w)):∃a b,(Instr.box 26 v).run prog w = .ok (.pointer (some a)) b/\o6 w b/\At (m8 b) a x:=bW0 hv hw
def cO3:∀(m:Nat) (l:List St) (v:Value) (w:World),A7 l<=m->R (m8 w) v l->J4 l<=1000000->o9 prog 85 #[v] w λu a=>(u = .int .i64 (A7 l:Nat)/\o6 w a):=by
 intro m
 induction m with
 | zero=>
  intro l v w z e E;have n:l.length=0:=by have:=V9 l;omega
  refine p9 [v] func85 rfl ?_;simp only[n8,n9,simprocAttr,e.isS,e.vlen];refine A6 [7,8] (σ:=Nat) (λk f a=>f 9 = .int .i64 0/\f 3 = .int .i64 ((l.length:Nat):Int)/\a=w) (λk=>0) 0 ?_ ?_
  .simp only[B3,simprocAttr];exact⟨zt,zt,zt⟩
  .rintro k f q ⟨L,r,_⟩ ⟨i,g,rfl⟩;have K:decide ((0:Int)<((l.length:Nat):Int))=false:=by rw[n];decide
   simp only[n8,n9,simprocAttr,i,r,K,g];refine o7 results85 ?_;simp only[B3,simprocAttr];exact⟨by rw[List.eq_nil_of_length_eq_zero n];rfl,o8.refl _⟩
 | succ m I=>
  intro l v w z e E;refine p9 [v] func85 rfl ?_;have H:=aA1 l;have M:=V9 l;simp only[n8,n9,simprocAttr,e.isS,e.vlen];refine A6 [0,7,8] (σ:=Nat) (λk f a=>f 9 = .int .i64 k/\k<=l.length/\f 3 = .int .i64 ((l.length+A7 (l.take k)-k:Nat):Int)/\o6 w a) (λk=>l.length-k) 0 ?_ ?_
  .simp only[B3,simprocAttr];exact⟨zt,eg3 _,by simp[A7],o8.refl _⟩
  .rintro k f q ⟨e0,L,r,_⟩ ⟨i,x,g,o⟩;have y:=V9 (l.take k);rw[eg0,el2 x]at y;simp only[n8,n9,simprocAttr,i,r];refine y5 (λb=>?_) ?_
   .have s:=e.inS b;have j:=(e.at_ (ef1 b));have A:=aP0 l b;have G:=ax7 l (k+1);have D:=ap0 (eg2 b);generalize l[k]=t at j A D;have O:=az4 t;have T:=V7 t;obtain⟨vl,Z,X,W,P,Q,S,N,F,Y,V⟩:=j.st;have d:=o.trans (o6.drew q);have J:=V (λa=>o6 q.drew a) q.drew (o8.refl _) (λa h=>b7 (d.trans h));have U:A3.sz St=13:=rfl;rw[U]at J;simp only[n8,simprocAttr,i];refine B9 (λa=>o6 q.drew a) 16 (A5 [0,1,2,3,4,5,7,8,9,10,11,6,12,13,14,15]) ?_;simp only[D0,A5,n8,n9,y4,simprocAttr,e0,g,s,J];refine B2 (I t.thn X _ zo (A3.mono (b7 d) S) zo) (λw3 c=>?_);simp only[D0,n8,simprocAttr,F2];refine⟨c,?_⟩;refine B2 (I t.els W _ zo (A3.mono (b7 (d.trans c)) N) zo) (λw4 p=>?_);have B:IntKind.i64.wrap (((A7 t.thn:Nat):Int)+((A7 t.els:Nat):Int))=((A7 t.thn+A7 t.els:Nat):Int):=by rw[M2 _ zo];omega
    have C:IntKind.i64.wrap (((l.length+A7 (l.take k)-k:Nat):Int)+((A7 t.thn+A7 t.els:Nat):Int))=((l.length+A7 (l.take (k+1))-(k+1):Nat):Int):=by rw[M2 _ zo];omega
    simp only[D0,n8,n9,simprocAttr,F2,B,C,i];refine⟨c.trans p,?_⟩;exact nx4 (k+1) (d.trans (c.trans p))
   .rintro rfl;rw[eg4]at g;simp only[n8,simprocAttr,g];refine o7 results85 ?_;simp only[B3,simprocAttr];exact⟨by congr 1;congr 1;omega,o⟩
def cL3(v:Value)(p:Pg)(w:World)(hv:SV (m8 w) v p)(z:B7 p<=1000000):o9 prog 53 #[v] w λu D=>(u = .int .i64 (bB0 p:Nat)/\o6 w D):=by
 refine p9 [v] func53 rfl ?_;obtain⟨a,F,o,Q,K⟩:=Q4 hv (n7 _);obtain⟨Y,Z,V,i,S,W⟩:=K.pg;have R:=S F (n7 _);have J:=i.isS;have N:=i.vlen;have O:=ak3 p.procs;have L:=bx9 p.procs;unfold B7 at z;simp only[n8,n9,simprocAttr,o,R,J,N];refine A6 [1,7,8] (σ:=Nat) (λk f D=>f 9 = .int .i64 k/\k<=p.procs.length/\f 3 = .int .i64 ((((p.procs.take k).map λf=>A7 f.body).sum:Nat):Int)/\o6 F D) (λk=>p.procs.length-k) 0 ?_ ?_
 .simp only[B3,simprocAttr];exact⟨zt,eg3 _,by simp,o8.refl _⟩
 .rintro k f w2 ⟨U,H,I,_⟩ ⟨l,M,j,d⟩;simp only[n8,n9,simprocAttr,l,I];refine y5 (λc=>?_) ?_
  .have r:=i.inS c;obtain⟨X,g,e⟩:=F5 (P:=prog) (t:=75) i (b7 d) (ef1 c) at8 at9 ar9 Q9;rw[Q9]at e;have y:((p.procs.take (k+1)).map λf=>A7 f.body).sum=((p.procs.take k).map λf=>A7 f.body).sum+A7 p.procs[k].body:=by
    rw[ef8 c,ei4,List.sum_append];simp
   have E:((p.procs.take (k+1)).map λf=>A7 f.body).sum<=(p.procs.map λf=>A7 f.body).sum:=by
    conv=>rhs;rw[<-ej2 (k+1) p.procs,ei4,List.sum_append]
    omega
   have h:=aw8 (eg2 c);generalize p.procs[k]=q at g y h;obtain⟨b,wz,G,m,x,A,n⟩:=aV8 (g.mono (b7 d)) (n7 _);obtain⟨_,_,T,_,_,_,s,_,C,_⟩:=n.pr;simp only[n8,n9,y4,simprocAttr,l,H,r,e,m,x,C G (n7 _),j];refine B2 (cO3 _ q.body T G (eg6 _) s (by unfold ab0 at h;omega)) (λw4 B=>?_);simp only[n8,n9,simprocAttr,l];exact T4 (k+1) ⟨by rw[M2 _ zo];congr 1;omega,d.trans (A.trans B)⟩
  .rintro rfl;rw[eg4]at j;simp only[n8,simprocAttr,j];exact o7 results53 ⟨rfl,Q.trans d⟩
def cx9(n m:Int):Int:=if m<1 then 0 else if n.tmod m<0 then n.tmod m+m else n.tmod m
def cH6(n m:Int)(w:World)(e:m<=1000000000):o9 prog 45 #[.int .i64 n,.int .i64 m] w λv g=>(v = .int .i64 (cx9 n m)/\g=w):=by
 refine p9 [.int .i64 n,.int .i64 m] func45 rfl ?_;simp only[L7,R9,C4,F6,simprocAttr];refine A4 (λh=>?_) (λh=>?_)
 .simp only[L7,simprocAttr];refine o7 results45 ?_;simp only[B3,simprocAttr];have b:m<1:=by simpa using h
  exact⟨by rw[cx9,if_pos b],zt⟩
 .have b:¬m<1:=by simpa using h
  have d:¬m=0:=by omega
  simp only[L7,C4,F6,simprocAttr,d];refine A4 (λc=>?_) (λc=>?_)
  .have a:n.tmod m<0:=by simpa using c
   have i : -m<n.tmod m:=by have:=Int.lt_tmod_of_pos n (show 0<m by omega);omega
   have f:IntKind.i64.wrap (n.tmod m+m)=n.tmod m+m:=M2 _ zo;simp only[L7,C4,F6,simprocAttr,f];refine o7 results45 ?_;simp only[B3,simprocAttr];exact⟨by rw[cx9,if_neg b,if_pos a],zt⟩
  .have a:¬n.tmod m<0:=by simpa using c
   simp only[L7,simprocAttr];refine o7 results45 ?_;simp only[B3,simprocAttr];exact⟨by rw[cx9,if_neg b,if_neg a],zt⟩
def bO6{α:Type}[A3 α]{h:Hp}{v:Value}{xs:List α}(e:R h v xs)(c:Nat):
  ∃(k:Nat) (u:Value),(if(c:Int)<(xs.length:Int)then(c:Int)else(xs.length:Int))=(k:Int)/\decide ((k:Int)<=(vcap v:Int))=true/\reS v 0 k (A3.sz α)=u/\R h u (xs.take c):=by
 have d:=e.vcap;have b:=e.pre (k:=min xs.length c) zo;have a:xs.take (min xs.length c)=xs.take c:=by
  rcases Nat.le_total xs.length c with h|h
  .rw[el2 h,eg4,ej5 h]
  .rw[Nat.min_eq_right h]
 rw[a]at b;exact⟨min xs.length c,_,by split<;>omega,by simp;omega,rfl,b⟩
def ce5{V:List Vx}{L:List Eg}(c:0<V.length){S:List Bool}(hS:S.length=V.length){a:Int}:
  B1 (I3 (ab7 V L [1,2,3,6]) (I3 (ab7 V L [1,2,3,4,5]) S)) a=true↔∃b,B1 S b=true/\dD2 V L a b:=by
 rw[R1 (ar1 c) (by rw[ah0,K7,hS])];constructor
 .rintro⟨m,hm,f⟩;obtain⟨b,d,e⟩:=(R1 (ar1 c) (by rw[ah0,hS])).1 hm;exact⟨b,d,m,(X4 c).2 f,(X4 c).2 e⟩
 .rintro⟨b,d,m,f,e⟩;exact⟨m,(R1 (ar1 c) (by rw[ah0,hS])).2 ⟨b,d,(X4 c).1 e⟩,(X4 c).1 f⟩
def ch7{V:List Vx}{L:List Eg}(c:0<V.length){S:List Bool}(hS:S.length=V.length){b:Int}:
  B1 (I3 (R4 V L [1,2,3,4,5]) (I3 (R4 V L [1,2,3,6]) S)) b=true↔∃a,B1 S a=true/\dD2 V L a b:=by
 rw[R1 (aF0 c) (by rw[ay6,K7,hS])];constructor
 .rintro⟨m,hm,f⟩;obtain⟨a,d,e⟩:=(R1 (aF0 c) (by rw[ay6,hS])).1 hm;exact⟨a,d,m,e,f⟩
 .rintro⟨a,d,m,e,f⟩;exact⟨m,(R1 (aF0 c) (by rw[ay6,hS])).2 ⟨a,d,e⟩,f⟩
def bF3(n:Int)(k:Nat)(d:0<k):∃N:Nat,cx9 n k=N/\N<k:=by
 have a:¬((k:Int)<1):=by omega
 have b : -(k:Int)<n.tmod k:=Int.lt_tmod_of_pos n zo;have c:n.tmod k<k:=Int.tmod_lt_of_pos n zo;unfold cx9;rw[if_neg a];split
 .exact⟨(n.tmod k+k).toNat,by omega,by omega⟩
 .exact⟨(n.tmod k).toNat,by omega,by omega⟩
def bF0{V:List Vx}{S:List Bool}{v:Vx}:v∈E8 V S↔∃i:Int,B1 S i=true/\V[i.toNat]?=some v:=by
 unfold E8;rw[List.mem_filterMap];exact⟨λ⟨i,a,b⟩=>⟨i,ag8.1 a,b⟩,λ⟨i,a,b⟩=>⟨i,ag8.2 a,b⟩⟩
def bQ3{V:List Vx}{S:List Bool}{v:Vx}(h:v∈E8 V S):v∈V:=by
 obtain⟨i,_,h⟩:=bF0.1 h;exact eh3 h
def aI8{V:List Vx}(hn:V.Nodup){S:List Bool}{v:Vx}(hv:v∈V):v∈E8 V S↔B1 S ((E5 V v:Nat):Int)=true:=by
 rw[bF0];constructor
 .rintro⟨i,a,b⟩;have c:=cI0 hn b;have:=B4.1 (V8 a);have e:((E5 V v:Nat):Int)=i:=by omega
  rw[e];exact a
 .exact λh=>⟨_,h,by rw[eh6];exact ar0 hv⟩
section
variable {p:Pg} {vs:List Vx} {l:List Int} {v w:Vx}
def aU0{V:List Vx}(a:0<V.length){vs:List Vx}{l:List Int}(h:N8 V vs=some l){b:Int}:B1 (T7 V.length l) b=true↔∃u∈vs,((E5 V u:Nat):Int)=b:=by
 rw[ay4,(bF6 h).2,eh4];constructor
 .exact λc=>c.2
 .rintro⟨u,d,rfl⟩;exact⟨aJ5 a u,u,d,rfl⟩
def ak8(e:D3 p)(hw:B7 p<=1000000)(h:N8 (i4 p).wv vs=some l):v∈E8 (i4 p).wv ((i4 p).backB l)↔v∈(i4 p).wv/\∃u∈vs,cd5 p v u:=by
 have a:=ag5 e.toKnown;constructor
 .intro c;have hm:=bQ3 c;rw[aI8 (aA2 e hw) hm]at c;unfold Bk.backB at c;obtain⟨b,g,d⟩:=(ce5 a G2).1 c;obtain⟨u,f,rfl⟩:=(aU0 a h).1 g;exact⟨hm,u,f,d⟩
 .rintro⟨hm,u,f,d⟩;rw[aI8 (aA2 e hw) hm];exact(ce5 a G2).2 ⟨_,(aU0 a h).2 ⟨u,f,rfl⟩,d⟩
def aE1(e:D3 p)(hw:B7 p<=1000000)(h:N8 (i4 p).wv vs=some l):v∈E8 (i4 p).wv ((i4 p).forwB l)↔v∈(i4 p).wv/\∃u∈vs,cd5 p u v:=by
 have a:=ag5 e.toKnown;constructor
 .intro c;have hm:=bQ3 c;rw[aI8 (aA2 e hw) hm]at c;unfold Bk.forwB at c;obtain⟨b,g,d⟩:=(ch7 a G2).1 c;obtain⟨u,f,rfl⟩:=(aU0 a h).1 g;exact⟨hm,u,f,d⟩
 .rintro⟨hm,u,f,d⟩;rw[aI8 (aA2 e hw) hm];exact(ch7 a G2).2 ⟨_,(aU0 a h).2 ⟨u,f,rfl⟩,d⟩
def cd5.self(p:Pg)(v:Vx):cd5 p v v:=⟨_,.refl,.refl⟩
def ai8(b:D3 p)(hw:B7 p<=1000000)(hv:∀u∈vs,u∈(i4 p).wv):∃l,N8 (i4 p).wv vs=some l/\(∀u∈vs,u∈E8 (i4 p).wv ((i4 p).backB l))/\∀u∈vs,u∈E8 (i4 p).wv ((i4 p).forwB l):=by
 cases h:N8 (i4 p).wv vs with
 | none=>obtain⟨u,c,d⟩:=aE9.1 h;exact absurd (hv u c) d
 | some l=>exact⟨l,rfl,λu a=>(ak8 b hw h).2 ⟨hv u a,u,a,.self p u⟩,λu a=>(aE1 b hw h).2 ⟨hv u a,u,a,.self p u⟩⟩
end
section
variable {p:Pg} {v:Vx} {e:Eg}
def cq3(c:E0 p=true)(hw:B7 p<=1000000)(d:e∈(i4 p).we):e.src∈(i4 p).wv/\e.dst∈(i4 p).wv:=by
 rcases aG3 c hw d with⟨a,b,_⟩|⟨v,h⟩
 .exact⟨a,b⟩
 .exact⟨h.src,h.dst⟩
end
inductive an0 (E:List Eg) (a:Vx):Vx->List Int->Prop
 | nil:an0 E a a []
 | flat {v:Vx} {o:List Int} {e:Eg}:an0 E a v o->e∈E->e.src=v->(e.kind=1\/e.kind=2)->an0 E a e.dst o
 | opn {v:Vx} {o:List Int} {e:Eg}:an0 E a v o->e∈E->e.src=v->(e.kind=4\/e.kind=5)->an0 E a e.dst (v.id::o)
 | up {v:Vx} {e:Eg}:an0 E a v []->e∈E->e.src=v->e.kind=6->an0 E a e.dst []
 | cls {v:Vx} {id:Int} {o:List Int} {e:Eg}:an0 E a v (id::o)->e∈E->e.src=v->e.kind=6->e.dst.id=id->an0 E a e.dst o
section
variable {p:Pg} {a v u:Vx} {e:Eg} {o:List Int}
def bz1.level(h:bz1 p a o v)(hw:bd2 p [1,2,3] v u):bz1 p a o u:=by
 cases o with
 | nil=>exact Z5.trans h (aW1 zs hw)
 | cons id o=>
  obtain⟨e,b,c,d,f,g⟩:=h;exact⟨e,b,c,d,f,g.trans hw⟩
def cU2(a:D3 p)(hw:B7 p<=1000000){x y:Vx}(j:x∈(i4 p).wv)(l:y∈(i4 p).wv)(m:x.kind=2\/x.kind=5\/x.kind=6)(n:y.kind=2\/y.kind=5\/y.kind=6)(h:x.id=y.id):x.proc=y.proc:=by
 obtain⟨i,b,_,f,o⟩:=aM9 a.toKnown j;obtain⟨k,c,_,g,q⟩:=aM9 a.toKnown l;have d:=au6 p hw i b _ (aB9 a.may hw b o m).mem;have e:=au6 p hw k c _ (aB9 a.may hw c q n).mem;rw[h,e]at d;obtain rfl:k=i:=by omega
 rw[f,g]
def bl1(g:D3 p)(hw:B7 p<=1000000){y:Vx}(k:y∈(i4 p).wv)(b:y.kind=5\/y.kind=6):(⟨⟨y.proc,2,y.id,e0⟩,y,1⟩:Eg)∈(i4 p).we:=by
 have K:=g.toKnown;obtain⟨i,a,f,e,j⟩:=aM9 K k;refine cx8.2 (ei1 _ (ei7.2 ⟨_,f,bm6.2 ?_⟩));rw[aU7 K a];unfold Bk.edge0;refine ei1 _ (ej4 _ (ei7.2 ⟨y,an6.2 j,?_⟩));unfold I5;have d:¬(y.kind=3\/y.kind=4):=by rintro(h|h)<;>rcases b with c|c<;>omega
 rw[if_neg d,if_pos b,M3 a,e];simp
def bz1.cls(s:E0 p=true)(hw:B7 p<=1000000){id:Int}(h:bz1 p a (id::o) v)(z:e∈(i4 p).we)(I:e.src=v)(H:e.kind=6)(t:e.dst.id=id):bz1 p a o e.dst:=by
 have m:=G6 s;have K:=m.toKnown;obtain⟨g,D,E,r,F,G⟩:=h;have L:∃y,cC9 p y e:=by
  rcases aG3 s hw z with⟨_,_,h⟩|h
  .rcases h with h|h<;>omega
  .exact h
 obtain⟨y,k⟩:=L;have N:e.dst=y/\y.kind=6/\e.src=⟨((d9 p).it y.id).s.proc,4,0,y.slot⟩:=by
  rcases k.kind with h|h|h
  .omega
  .omega
  .exact h.2
 obtain⟨n,B,C⟩:=N;have J:∃x,cC9 p x g:=by
  rcases aG3 s hw E with⟨_,_,h⟩|h
  .rcases h with h|h<;>rcases r with d|d<;>omega
  .exact h
 obtain⟨x,c⟩:=J;subst I;refine D.level ?_;have j:g.src=x:=by
  rcases c.kind with h|h|h
  .exact h.2.1
  .exact h.2.1
  .rcases r with d|d<;>omega
 have w:x.kind=2\/x.kind=5:=by
  rcases c.kind with h|h|h
  .exact .inl h.2.2.1
  .exact .inr h.2.2.1
  .rcases r with d|d<;>omega
 have b:x.id=y.id:=by rw[<-j,F,<-t,n]
 have f:=cU2 m hw c.mem k.mem (w.imp_right .inl) (.inr (.inr B)) b;have u:bV5 p ((aM9 K c.mem).choose) x:=aB9 m.may hw (aM9 K c.mem).choose_spec.choose (aM9 K c.mem).choose_spec.choose_spec.2.2 (w.imp_right .inl);rw[j,n];rcases w with A|M
 .have l:x=⟨y.proc,2,y.id,e0⟩:=by
   have:=u.st A;cases x;simp only at *;subst f b A this;rfl
  have:=ag6 (ks:=[1,2,3]) K (aG9 (bl1 m hw k.mem (.inr B))) zs;rw[l];exact this
 .have q:g.dst=⟨((d9 p).it x.id).s.proc,3,0,x.slot⟩:=by
   rcases c.kind with h|h|h
   .omega
   .exact h.2.2.2
   .omega
  have l:(⟨y.proc,5,y.id,x.slot⟩:Vx)=x:=by
   cases x;simp only at *;subst f b M;rfl
  have i:(⟨x,y,3⟩:Eg)∈(i4 p).sums:=by
   refine aS0 _ ⟨E5 (i4 p).wv e.src,e.src,E5 (i4 p).wv g.dst,g.dst,ar0 k.src,by rw[C],G,by rw[eh6];exact ar0 c.dst,by rw[q],e,ei1 _ z,?_⟩;refine aE7.2 ⟨⟨H,rfl⟩,y,by rw[n];exact ar0 k.mem,?_,?_⟩
   .rw[q];show(⟨y.proc,5,y.id,x.slot⟩:Vx)∈_;rw[l];exact c.mem
   .rw[q];show(⟨x,y,3⟩:Eg)=⟨⟨y.proc,5,y.id,x.slot⟩,y,3⟩;rw[l]
  exact ag6 (ks:=[1,2,3]) (e:=⟨x,y,3⟩) K (ej4 _ i) zs
def an0.inv(g:E0 p=true)(hw:B7 p<=1000000)(h:an0 (i4 p).we a v o):bz1 p a o v:=by
 have K:=(G6 g).toKnown
 induction h with
 | nil=>exact .refl
 | flat _ b d c e=>
  subst d;exact e.level (ag6 K (aG9 b) (by rcases c with h|h<;>simp[h]))
 | opn _ b d c e=>
  subst d;exact⟨_,e,b,c,rfl,.refl⟩
 | up _ b d c e=>
  subst d;exact Z5.trans e (ag6 (ks:=[1,2,3,6]) K (aG9 b) (by simp[c]))
 | cls _ b d c f e=>exact e.cls g hw b d c f
def cq1(b:E0 p=true)(hw:B7 p<=1000000)(h:an0 (i4 p).we a v o):cd5 p a v:=(h.inv b hw).fit (G6 b).toKnown
def dy2(c:E0 p=true)(hw:B7 p<=1000000)(d:a∈(i4 p).wv)(h:an0 (i4 p).we a v o):v∈(i4 p).wv:=by
 cases h with
 | nil=>exact d
 | flat _ b _ _=>exact(cq3 c hw b).2
 | opn _ b _ _=>exact(cq3 c hw b).2
 | up _ b _ _=>exact(cq3 c hw b).2
 | cls _ b _ _ _=>exact(cq3 c hw b).2
end
section
variable {p:Pg}
def R7(v:Value)(w:World)(hv:SV (m8 w) v p)(hw:B7 p<=1000000):
  o9 prog 17 #[v] w λu k=>(R (m8 k) u (if E0 p then(i4 p).wv else[])/\o6 w k):=by
 refine p9 [v] func17 rfl ?_;obtain⟨c,m,e,j,b⟩:=Q4 hv (n7 _);obtain⟨z,f,d,_⟩:=b.pg_v;simp only[i5,n9,simprocAttr,e,d m (n7 _)];refine t8 (aq3 z p m f hw) ?_;rintro u l ⟨o,q,h⟩;have a:=j.trans h;cases hR:E0 p
 .obtain rfl:=o hR;simp only[i5,n9,simprocAttr,bR6];exact o7 results17 ⟨(B0.nil (m8 l) l 0).rw_ (n7 _),a⟩
 obtain⟨C,g,r,A,B,x,rfl,y,n,t,s⟩:=q hR;simp only[i5,n9,simprocAttr,bR6,s.ld (i:=2) (u:=x.vV) rfl ab9];exact o7 results17 ⟨s.rV,a⟩
def aK3(v:Value)(w:World)(hv:SV (m8 w) v p)(hw:B7 p<=1000000):
  o9 prog 27 #[v] w λu k=>(R (m8 k) u (if E0 p then(i4 p).we else[])/\o6 w k):=by
 refine p9 [v] func27 rfl ?_;obtain⟨c,m,e,j,b⟩:=Q4 hv (n7 _);obtain⟨z,f,d,_⟩:=b.pg_v;simp only[i5,n9,simprocAttr,e,d m (n7 _)];refine t8 (aq3 z p m f hw) ?_;rintro u l ⟨o,q,h⟩;have a:=j.trans h;cases hR:E0 p
 .obtain rfl:=o hR;simp only[i5,n9,simprocAttr,bR6];exact o7 results27 ⟨(B0.nil (m8 l) l 0).rw_ (n7 _),a⟩
 obtain⟨C,g,r,A,B,x,rfl,y,n,t,s⟩:=q hR;simp only[i5,n9,simprocAttr,bR6,s.ld (i:=3) (u:=x.vE) rfl bj4];exact o7 results27 ⟨s.rE,a⟩
end
section
variable {p:Pg}
def aR9(v:Value)(m:Int)(w:World)(hv:SV (m8 w) v p)(hw:B7 p<=1000000):
  o9 prog 22 #[v,.int .i64 m] w λu l=>(u = .bool (E0 p&&decide (((bB0 p:Nat):Int)<=m))/\o6 w l):=by
 refine p9 [v,.int .i64 m] func22 rfl ?_;obtain⟨c,k,g,f,d⟩:=Q4 hv (n7 _);obtain⟨i,e,b,_⟩:=d.pg_v;simp only[i5,n9,simprocAttr,g,b k (n7 _)];refine B2 (S5 i p k e hw) (λj a=>?_);cases hR:E0 p
 .simp only[i5,simprocAttr];exact o7 results22 ⟨rfl,f.trans a⟩
 simp only[i5,n9,simprocAttr,b j (b7 a)];refine B2 (cL3 i p j (e.mono (b7 a)) hw) (λn h=>?_);simp only[i5,n9,simprocAttr];exact o7 results22 ⟨rfl,(f.trans a).trans h⟩
end
def be2{α:Type}(P:α->Bool){l:List α}{k:Nat}(h:k<l.length):(l.take (k+1)).filter P=(l.take k).filter P++(if P l[k]then[l[k]]else[]):=by
 rw[ef8 h,el7];cases hp:P l[k]<;>simp[hp]
def ae1(v:Value)(l:List Vx)(x:Vx)(w:World)(hv:R (m8 w) v l)(X:l.length<=1000000000):
  o9 prog 21 #[v,.agg (p8.cells x).toArray] w λu d=>(u = .bool (l.contains x)/\o6 w d):=by
 refine p9 [v,.agg (p8.cells x).toArray] func21 rfl ?_;have O:=hv.isS;have Q:=hv.vlen;obtain⟨V,U,C,k,o⟩:=bd6 (SV.ofN (m8 w) x) (n7 _);obtain⟨S,z,_,I⟩:=o.vx_v;obtain rfl:=z.N;simp only[i5,n9,simprocAttr,C,O,Q];refine A6 [0,3,6,7] (σ:=Nat) (λi f d=>f 8 = .int .i64 i/\i<=l.length/\(∀j y,j<i->l[j]?=some y->y≠x)/\o6 U d) (λi=>l.length-i) 0 ?_ ?_
 .simp only[B3,simprocAttr];exact⟨zt,eg3 _,λj _ h=>by omega,o8.refl _⟩
 rintro i f m ⟨e0,K,W,N,_⟩ ⟨B,P,r,A⟩;simp only[i5,n9,simprocAttr,B,N];refine y5 (λg=>?_) ?_;rotate_left
 .rintro rfl;simp only[i5,simprocAttr];refine o7 results21 ?_;simp only[B3,simprocAttr];refine⟨?_,k.trans A⟩;have:l.contains x=false:=by
   rw[ep7];intro h;obtain⟨j,D⟩:=eo5.1 (eg7.1 h);exact r j x (ef6.1 D).1 D rfl
  rw[this]
 have p:=hv.inS g;have c:=A.trans (o6.drew m);have n:=hv.at_ (i:=i) (x:=l[i]) (ef1 g);have H:A3.sz Vx=4:=rfl;rw[H]at n;obtain⟨Y,F,_,J⟩:=n.vx_v;obtain rfl:=F.N;have L:=J (λd=>o6 m.drew d) m.drew (o8.refl _) λd h=>b7 (k.trans (c.trans h));have M:=I (λd=>o6 m.drew d) m.drew (o8.refl _) λd h=>b7 (c.trans h);have t:=λT a b=>bl8 T a b l[i] x;have q:l[i]=x->l.contains x=true:=λe=>eg7.2 (e ▸ eg2 g);have s:l[i]≠x->∀j y,j<i+1->l[j]?=some y->y≠x:=λE j y D G=>by
  rcases ej6 j i with h|h
  .exact r j y h G
  .obtain rfl:j=i:=by omega
   rw[ef1 g]at G;obtain rfl:=eh1 G;exact E
 rcases ef2 (decide (l[i]=x))with hq|hq
 .simp only[i5,simprocAttr,B];refine B9 (λd=>o6 m.drew d) 5 (A5 [0,1,2,3,4]) ?_;simp only[D0,A5,i5,n9,y4,simprocAttr,e0,K,p,L,M];simp only[i5,simprocAttr,L8,p8.cells,t,hq];refine o7 results21 ?_;simp only[B3,simprocAttr];exact⟨by rw[q (ef3 hq)],k.trans c⟩
 .simp only[i5,simprocAttr,B];refine B9 (λd=>o6 m.drew d) 5 (A5 [0,1,2,3,4]) ?_;simp only[D0,A5,i5,n9,y4,simprocAttr,e0,K,p,L,M];simp only[i5,n9,simprocAttr,L8,p8.cells,t,hq,B];exact T4 (i+1) ⟨s (ef7 hq),c⟩
def ab6(l:List Vx)(n:Int):Vx:=l.getD (cx9 n l.length).toNat ah5
def aR2{l:List Vx}(h:0<l.length)(n:Int):ab6 l n∈l:=by
 obtain⟨N,b,a⟩:=bF3 n l.length h;unfold ab6;rw[b,eh6,List.getD,ef1 a];exact eg2 a
def V0(v:Value)(l:List Vx)(n:Int)(w:World)(hv:R (m8 w) v l)(t:l.length<=1000000000):
  o9 prog 16 #[v,.int .i64 n] w λu r=>(u = .agg (p8.cells (ab6 l n)).toArray/\o6 w r):=by
 refine p9 [v,.int .i64 n] func16 rfl ?_;obtain⟨m,d,i,a⟩:=di6 w;have o:=hv.isS;have p:=hv.vlen;rcases ef2 (decide ((l.length:Int)=0))with h0|h0
 .have g:l=[]:=List.length_eq_zero_iff.1 (by have:=ef3 h0;omega);obtain⟨s,j,k,c⟩:=a m ah5 (o8.refl _);simp only[i5,n9,simprocAttr,d,o,p,h0,aj4,j];refine N9 results16 (ad:=⟨w.heap.size,0,none⟩) (by simp only[B3,simprocAttr]) k ?_;refine⟨?_,c⟩;subst g;rfl
 have e:0<l.length:=by have:=ef7 h0;omega
 obtain⟨N,hN,b⟩:=bF3 n l.length e;have f:=hv.inS b;have h:=cj8 hv (b7 i) (ef1 b);obtain⟨s,j,k,c⟩:=a m l[N] (o8.refl _);have q:ab6 l n=l[N]:=by
  unfold ab6;rw[hN,eh6,List.getD,ef1 b];rfl
 simp only[i5,n9,simprocAttr,d,o,p,h0];refine E6 (cH6 n l.length m zo) ?_;rw[hN];simp only[i5,n9,y4,simprocAttr,f,h,j];refine N9 results16 (ad:=⟨w.heap.size,0,none⟩) (by simp only[B3,simprocAttr]) k ?_;exact⟨by rw[q],c⟩
def bM3(F r:Value)(g j:List Vx)(w:World)(p:R (m8 w) F g)(hb:R (m8 w) r j)(N:g.length<=1000000000)(C:j.length<=1000000000):
  o9 prog 28 #[F,r] w λu G=>(u = .bool (g.all λx=>j.contains x)/\o6 w G):=by
 refine p9 [F,r] func28 rfl ?_;simp only[i5,n9,simprocAttr,p.isS,p.vlen];refine A6 [1,7,8] (σ:=Nat) (λk f G=>f 9 = .int .i64 k/\k<=g.length/\(∀x∈g.take k,x∈j)/\o6 w G) (λk=>g.length-k) 0 ?_ ?_
 .simp only[B3,simprocAttr];exact⟨zt,eg3 _,λx h=>(by simp at h),o8.refl _⟩
 rintro k f H ⟨J,K,L,_⟩ ⟨s,M,a,i⟩;simp only[i5,n9,simprocAttr,s,L];refine y5 (λe=>?_) ?_;rotate_left
 .rintro rfl;rw[eg4]at a;simp only[i5,simprocAttr];refine o7 results28 ?_;simp only[B3,simprocAttr];refine⟨?_,i⟩;rw[en8.2 λx q=>eg7.2 (a x q)]
 have B:=p.inS e;obtain⟨O,m,l⟩:=F5 (P:=prog) (t:=26) p (b7 i) (ef1 e) ar8 as0 am4 N6;rw[N6]at l;have n:=ef8 e;have hm:=eg2 e;generalize g[k]=y at m n hm;obtain rfl:=m.N;obtain⟨d,S,I,v,D,E,z⟩:=ap9 (w:=H) (λ_=>False) (SV.ofN (m8 H) y) λb hb=>hb.elim;have c:=i.trans E;simp only[i5,n9,y4,simprocAttr,s,J,K,B,l,v,D,(I6.vx_v (SV.ofN (m8 H) y) z).1 I (A8 _ _)];refine B2 (ae1 r j y I (A3.mono (b7 c) hb) C) (λQ o=>?_);rcases ef2 (j.contains y)with hq|hq
 .simp only[i5,n9,simprocAttr,hq,s];refine T4 (k+1) ⟨λx q=>?_,c.trans o⟩;rw[n]at q;rcases eg1.1 q with h|h
  .exact a x h
  .simp only[eh2]at h;subst h;exact eg7.1 hq
 .simp only[i5,n9,simprocAttr,hq];refine o7 results28 ?_;simp only[B3,simprocAttr];refine⟨?_,c.trans o⟩;have A:(g.all λx=>j.contains x)=false:=ep7.2 λh=>by
   have:=en8.1 h y hm;rw[hq]at this;cases this
  rw[A]
def aX2(e:Eg)(v:Vx)(o:List Int):Bool:=decide (e.src=v)&&(!decide (e.kind=6)||(decide (o=[])||decide (o.getD (o.length-1) 0=e.dst.id)))
def cm6(e:Eg)(v:Vx)(C:Value)(o:List Int)(w:World)(m:R (m8 w) C o)(Z:o.length<=1000000000):
  o9 prog 55 #[.agg (p8.cells e).toArray,.agg (p8.cells v).toArray,C] w λu a=>(u = .bool (aX2 e v o)/\o6 w a):=by
 refine p9 [.agg (p8.cells e).toArray,.agg (p8.cells v).toArray,C] func55 rfl ?_;obtain⟨c,D,j,O,E⟩:=cE1 (w:=w) (λ_=>False) (SV.ofN (m8 w) e) (λ_ h=>h.elim);obtain⟨Y,b,i,t,p⟩:=aH1 (w:=D) (λ_=>False) (SV.ofN (m8 D) v) (λ_ h=>h.elim);obtain⟨u1,u2,s,J,M,L,_,W⟩:=I6.eg (SV.ofN (m8 w) e) E;have g:=(O.trans t).trans (o6.drew b);have l:∀a,o6 b.drew a->B8 (C1 D λ_=>False) (m8 a):=λa h=>p7 (A8 _ _) (b7 ((t.trans (o6.drew b)).trans h));have r:∀a,o6 b.drew a->B8 (C1 b λ_=>False) (m8 a):=λa h=>p7 (A8 _ _) (b7 ((o6.drew b).trans h));have z:=(I6.vx_v s J).2 (λa=>o6 b.drew a) b.drew (o8.refl _) l;have A:=(I6.vx_v (SV.ofN (m8 D) v) p).2 (λa=>o6 b.drew a) b.drew (o8.refl _) r;have Q:=W (λa=>o6 b.drew a) b.drew (o8.refl _) l;have X:=(I6.vx M L).2 (λa=>o6 b.drew a) b.drew (o8.refl _) l;obtain rfl:=s.N;simp only[p8.cells]at z A;have B:=λ(x y:Operand) K f d T=>C0 (P:=prog) (S:=λa=>o6 b.drew a) (K:=K) (f:=f) (d:=d) (w:=T) (w0:=b.drew) (o8.refl _) λa h=>bl8 a x y e.src v;have V:aX2 e v o=(decide (e.src=v)&&(!decide (e.kind=6)||(decide (o=[])||decide (o.getD (o.length-1) 0=e.dst.id)))):=rfl;rw[V];rcases ef2 (decide (e.src=v))with q1|q1;rotate_left
 .simp only[i5,n9,simprocAttr,j,i];refine B9 (λa=>o6 b.drew a) 27 (A5 [0,1,2,3,4,5,6,7,8,9,10,11,12,13,14,15,16,17,18,19,20,21,22,23,24,25,26]) ?_;simp only[D0,A5,i5,n9,simprocAttr,z,A,L8,B,q1];exact o7 results55 ⟨rfl,g⟩
 rcases ef2 (decide (e.kind=6))with q2|q2;rotate_left
 .simp only[i5,n9,simprocAttr,j,i];refine B9 (λa=>o6 b.drew a) 27 (A5 [0,1,2,3,4,5,6,7,8,9,10,11,12,13,14,15,16,17,18,19,20,21,22,23,24,25,26]) ?_;simp only[D0,A5,i5,n9,simprocAttr,z,A,L8,B,q1,Q,q2];exact o7 results55 ⟨rfl,g⟩
 rcases ef2 (decide ((o.length:Int)=0))with q3|q3
 .have q:o=[]:=List.length_eq_zero_iff.1 (by have:=ef3 q3;omega);simp only[i5,n9,simprocAttr,j,i];refine B9 (λa=>o6 b.drew a) 27 (A5 [0,1,2,3,4,5,6,7,8,9,10,11,12,13,14,15,16,17,18,19,20,21,22,23,24,25,26]) ?_;simp only[D0,A5,i5,n9,simprocAttr,z,A,L8,B,q1,Q,q2,m.isS,m.vlen,q3];exact o7 results55 ⟨by rw[ek5 q];rfl,g⟩
 obtain⟨n,H⟩:∃n,o.length=n+1:=⟨o.length-1,by have:=ef7 q3;omega⟩;have k:n<o.length:=by omega
 have I:¬o=[]:=λh=>by rw[h]at H;cases H
 have F:o.getD (o.length-1) 0=o[n]:=by rw[H,List.getD,Nat.add_sub_cancel,ef1 k];rfl
 have N:IntKind.i64.wrap ((o.length:Int)-1)=(n:Int):=by rw[M2 _ zo];omega
 have G:=m.inS k;have U:∀K f d w0,F7 prog (λa=>o6 b.drew a) (Instr.loadAt 3 (.pointer (some (G9 C n)))) K f d w0=K (C9 f d (.int .i64 o[n])) w0:=λK f d w0=>C0 (w0:=b.drew) (o8.refl _) λa h=>aC3 m (b7 (g.trans h)) k;rw[F];generalize o[n]=x at U;simp only[i5,n9,simprocAttr,j,i];refine B9 (λa=>o6 b.drew a) 27 (A5 [0,1,2,3,4,5,6,7,8,9,10,11,12,13,14,15,16,17,18,19,20,21,22,23,24,25,26]) ?_;simp only[D0,A5,i5,n9,y4,simprocAttr,z,A,L8,B,q1,Q,q2,m.isS,m.vlen,q3,N,G,U,X];exact o7 results55 ⟨by rw[el3 I];rfl,g⟩
abbrev TWy:TypeId:=52
abbrev cWy:Obj:=.cells (Value.agg #[.slice none 0 0,.bool false]).cells TWy
def cs5{u:Value}(h:isS u=true)(b:Bool):B6 prog TWy [(0,u),(1,.bool b)]=some (.agg #[u,.bool b]):=by
 cases u with
 | slice a n c=>first|(simp[B6,TWy,dC3,J9,Instr.fill,Value.cells];done)|(simp[B6,TWy,dC3,J9,Instr.fill,Value.cells];rfl)
 | _=>simp[isS]at h
def bk1:H3 prog TWy=some (.agg #[.slice none 0 0,.bool false]):=dT7
theorem bZ3{u:Value}(h:isS u=true)(b:Bool):∀x∈(#[u,.bool b]:Array Value).toList,x.oneCell'=true:=λx a=>by
 rcases eh0.1 a with rfl|a
 .exact X1 h
 .rw[eh2.1 a];rfl
structure WK (w w':World) (rb gw:Nat) (uV uo:Value) (V:List Vx) (o:List Int) (lev:Bool):Prop where
 ext:o6 w w'
 cr:w'.heap[rb]?=some (.cells #[.slice none 0 0,.bool false] TWy (0,0))
 cg:w'.heap[gw]?=some (.cells #[uV,.bool lev] TWy (0,0))
 oV:B0 hZ w' TVx uV V
 oo:B0 hZ w' 3 uo o
 dV:∀b,A0 uV b->w.heap.size<=b/\b≠rb/\b≠gw/\¬A0 uo b
 dO:∀b,A0 uo b->w.heap.size<=b/\b≠rb/\b≠gw
 gn:w.heap.size<=rb/\w.heap.size<=gw/\rb≠gw
section
variable {w w':World} {rb gw:Nat} {uV uo:Value} {V:List Vx} {o:List Int} {lev:Bool}
def WK.ltr(s:WK w w' rb gw uV uo V o lev):rb<w'.heap.size:=(ef5.1 s.cr).1
def WK.ltg(s:WK w w' rb gw uV uo V o lev):gw<w'.heap.size:=(ef5.1 s.cg).1
def WK.more(s:WK w w' rb gw uV uo V o lev){b:World}(a:o6 w' b):WK w b rb gw uV uo V o lev:=
 ⟨s.ext.trans a,(a.block rb s.ltr id).trans s.cr,(a.block gw s.ltg id).trans s.cg,s.oV.ext a,s.oo.ext a,s.dV,s.dO,s.gn⟩
def WK.pushO(s:WK w w' rb gw uV uo V o lev)(n:Int)(z:o.length<=1000000):
  (Instr.buildSlice 24 1 #[(0,.int .i64 n)]).run prog w' = .ok (.slice (some ⟨w'.heap.size,0,none⟩) 1 1) (w'.alloc (.cells #[.int .i64 n] 3)) /\
  ∃f d,(Builtin.append_ #[24,24] 24 #[uo,.slice (some ⟨w'.heap.size,0,none⟩) 1 1]).run prog (w'.alloc (.cells #[.int .i64 n] 3)) = .ok f d/\WK w d rb gw uV f V (o++[n]) lev/\o8 (A0 uo) w' d:=by
 obtain⟨g,f,d,i,v,c,j⟩:=push (P:=prog) (t:=24) (e:=24) V4 rfl s.oo (x:=.int .i64 n) (y:=n) rfl zo zo (S8 _);simp only[Value.cells]at g i;have u:=s.ext.size;have q:=s.ltr;have r:=s.ltg;refine⟨g,f,d,i,⟨o8.ext_of s.ext c λb a=>(s.dO b a).1,(c.block rb q λh=>(s.dO rb h).2.1 rfl).trans s.cr,(c.block gw r λh=>(s.dO gw h).2.2 rfl).trans s.cg,s.oV.mod c λb a h=>(s.dV b a).2.2.2 h,v,λb a=>?_,λb a=>?_,s.gn⟩,c⟩
 .obtain⟨k,l,m,p⟩:=s.dV b a;refine⟨k,l,m,λh=>?_⟩;rcases j b h with h|h
  .exact p h
  .have:=s.oV.lt a;omega
 .rcases j b a with h|h
  .exact s.dO b h
  .exact⟨by omega,by omega,by omega⟩
def WK.pop(s:WK w w' rb gw uV uo V o lev){n:Nat}(hn:o.length=n+1):WK w w' rb gw uV (reS uo 0 n 1) V (o.take n) lev:=by
 obtain⟨d,c⟩:=s.oo.pre (k:=n) zo zo;exact⟨s.ext,s.cr,s.cg,s.oV,d,λb a=>⟨(s.dV b a).1,(s.dV b a).2.1,(s.dV b a).2.2.1,λh=>(s.dV b a).2.2.2 ((c b).1 h)⟩,λb a=>s.dO b ((c b).1 a),s.gn⟩
def WK.lev0(s:WK w w' rb gw uV uo V o lev)(b:Bool):∃e,(Instr.storeAt 4 (.pointer (some ⟨gw,1,none⟩)) (.bool b)).run prog w' = .ok () e/\WK w e rb gw uV uo V o b/\o8 (λb=>b=gw) w' e:=by
 obtain⟨j,d,f⟩:=aA6 (P:=prog) W5 aG0;obtain⟨e,g,h,a⟩:=af3 (P:=prog) (t:=4) (i:=1) (x:=.bool b) s.cg zs rfl rfl d f;exact⟨e,g,⟨o8.ext_of s.ext a λb c=>by rw[c];exact s.gn.2.1,(a.block rb s.ltr s.gn.2.2).trans s.cr,h,s.oV.mod a λb c=>(s.dV b c).2.2.1,s.oo.mod a λb c=>(s.dO b c).2.2,s.dV,s.dO,s.gn⟩,a⟩
def WK.pushV(s:WK w w' rb gw uV uo V o lev)(y:Vx)(E:V.length<=1000000):
  (Instr.buildSlice 22 1 #[(0,.agg (p8.cells y).toArray)]).run prog w' = .ok (.slice (some ⟨w'.heap.size,0,none⟩) 1 1) (w'.alloc (.cells (Value.agg (p8.cells y).toArray).cells TVx)) /\
  ∃c j k,(Builtin.append_ #[22,22] 22 #[uV,.slice (some ⟨w'.heap.size,0,none⟩) 1 1]).run prog (w'.alloc (.cells (Value.agg (p8.cells y).toArray).cells TVx)) = .ok c j /\
   (Instr.storeAt 22 (.pointer (some ⟨gw,0,none⟩)) c).run prog j = .ok () k/\WK w k rb gw c uo (V++[y]) o lev:=by
 obtain⟨B,c,j,C,m,f,D⟩:=push (P:=prog) (t:=22) (e:=22) at7 rfl s.oV (x:=.agg (p8.cells y).toArray) (y:=y) ((p8.iff_ _ _ _).2 rfl) zo zo (S8 _);have v:=s.ext.size;have r:=s.ltr;have u:=s.ltg;have hm:=f.size;have l:=(f.block gw u λh=>(s.dV gw h).2.2.1 rfl).trans s.cg;obtain⟨F,d,n⟩:=aA6 (P:=prog) dm4 dl4;obtain⟨k,z,A,g⟩:=af3 (P:=prog) (t:=22) (i:=0) (x:=c) l zs (F0 m.isS) (X1 m.isS) d n;have p:∀b,A0 c b->w.heap.size<=b/\b≠rb/\b≠gw/\¬A0 uo b:=λb a=>by
  rcases D b a with h|h
  .exact s.dV b h
  .exact⟨by omega,by omega,by omega,λq=>by have:=s.oo.lt q;omega⟩
 refine⟨B,c,j,k,C,z,⟨o8.ext_of (o8.ext_of s.ext f λb a=>(s.dV b a).1) g λb a=>by rw[a];exact s.gn.2.1,?_,A,m.mod g λb a=>(p b a).2.2.1,(s.oo.mod f λb a h=>(s.dV b h).2.2.2 a).mod g λb a=>(s.dO b a).2.2,p,s.dO,s.gn⟩⟩;exact(g.block rb zo s.gn.2.2).trans ((f.block rb r λh=>(s.dV rb h).2.1 rfl).trans s.cr)
end
def PW(E:List Eg)(a:Vx)(V:List Vx)(o:List Int)(k:Nat):Prop:=V[0]?=some a/\(∃b v,V=b++[v]/\an0 E a v o.reverse)/\(∀x∈V,∃c,an0 E a x c)/\V.length<=k+1/\o.length<=k
def PW.push{E:List Eg}{a:Vx}{V:List Vx}{o c:List Int}{k:Nat}{y:Vx}(h:PW E a V o k)(hw:an0 E a y c.reverse)(f:c.length<=k+1):PW E a (V++[y]) c (k+1):=by
 obtain⟨d,_,e,g,_⟩:=h;refine⟨?_,⟨V,y,rfl,hw⟩,λx b=>?_,by simp;omega,f⟩
 .rw[ek3 (ef6.1 d).1];exact d
 .rcases eg1.1 b with b|b
  .exact e x b
  .rw[eh2.1 b];exact⟨_,hw⟩
def ar5(ue:Value)(E:List Eg)(a:Vx)(ub:Value)(bs:List Int)(w:World)(he:R (m8 w) ue E)(hb:R (m8 w) ub bs)(hl:E.length<=1000000000)(hk:∀e∈E,(e.kind=1\/e.kind=2)\/(e.kind=4\/e.kind=5)\/e.kind=6):
  o9 prog 26 #[ue,.agg (p8.cells a).toArray,ub] w λu w'=>(∃r l V o,u = .agg #[r,.bool l]/\(B0 hZ w' TVx r V/\∀b,A0 r b->w.heap.size<=b)/\PW E a V o 40/\o6 w w'):=by
 refine p9 [ue,.agg (p8.cells a).toArray,ub] func26 rfl ?_;obtain⟨c,w1,bV,bw,bb⟩:=bd6 (SV.ofN (m8 w) a) (n7 _);obtain⟨cS,bp,b8,_⟩:=bb.vx_v;obtain rfl:=bp.N;obtain⟨an,_⟩:=aA5 (P:=prog) (w:=w1) (T:=TWy) bk1 (by rw[aM7];rfl) (cs:=#[.slice none 0 0,.bool false]) (by rw[aM7];rfl) (by simp[Value.oneCell']);have aO:=o6.alloc w1 cWy;have ao:=ej0 w1 cWy;generalize w1.alloc cWy=w2 at an aO ao;have br:=bw.size;have aE:w1.heap.size<w2.heap.size:=(ef5.1 ao).1;generalize w1.heap.size=rb at an ao br aE;have la:=b8 w2 (b7 aO);obtain⟨r,w3,q3,o3,aP,bj⟩:=lit (P:=prog) (t:=22) (w:=w2) (h:=hZ) (α:=Vx) (xs:=[.agg (p8.cells a).toArray]) (ys:=[a]) (parts:=#[(0,.agg (p8.cells a).toArray)]) (n:=1) at7 rfl (aj7 ((p8.iff_ _ _ _).2 (by simp[Value.cells]))) (by simp[Value.cells];rfl) rfl rfl zs zs (S8 _);obtain⟨aB,H⟩:=aA5 (P:=prog) (w:=w3) (T:=TWy) bk1 (by rw[aM7];rfl) (cs:=#[r,.bool true]) (by rw[aM7];rfl) (bZ3 o3.isS _);have au:=o6.alloc w3 (.cells #[r,.bool true] TWy);have ap:=ej0 w3 (.cells #[r,.bool true] TWy);have o4:=o3.ext au;generalize w3.alloc (.cells #[r,.bool true] TWy)=w4 at H au ap o4;have bt:=aP.size;have bf:∀b,A0 r b->b<w3.heap.size:=λb hb=>o3.lt hb;generalize w3.heap.size=gw at aB H ap bt bf;have s4:WK w w4 rb gw r (.slice none 0 0) [a] [] true:=⟨(bw.trans aO).trans (aP.trans au),((aP.trans au).block rb aE id).trans ao,ap,o4,B0.nil _ _ _,λb hb=>⟨by have:=bj b hb;omega,by have:=bj b hb;omega,by have:=bf b hb;omega,D5⟩,λb hb=>absurd hb D5,by omega,by omega,by omega⟩;obtain⟨kc,uc,a1,a2,a3,ac⟩:∃(kc:Nat) (u:Value),(if(40:Int)<(bs.length:Int)then(40:Int)else(bs.length:Int))=(kc:Int)/\decide ((kc:Int)<=(vcap ub:Int))=true/\reS ub 0 kc 1=u/\R (m8 w) u (bs.take 40):=bO6 hb 40;have bi:(bs.take 40).length<=40:=by rw[eg0];omega
 generalize bs.take 40=m at ac bi;simp only[i5,n9,J0,simprocAttr,bV,an,la,q3,cs5 o3.isS,aB,H,hb.isS,hb.vlen,a1,a2,a3,ac.isS,ac.vlen];generalize hK:CW prog _ (bk5 _ _ _)=K;have aH:∀(f:Fr) (w':World) (r uo:Value) (V:List Vx) (o:List Int) (l:Bool),f 6 = .pointer (some ⟨rb,0,none⟩)->f 7 = .pointer (some ⟨gw,0,none⟩)->f 8=uo->WK w w' rb gw r uo V o l->PW E a V o 40->K f w':=by
  intro f w' r uo V o l h6 h7 h8 s hp;rw[<-hK];have lg:=E7 (P:=prog) (t:=4) (i:=1) (u:=.bool l) s.cg rfl ah3;obtain⟨w5,t1,s5,_⟩:=s.lev0 (l&&decide ((o.length:Int)=0));obtain⟨w6,r1,r2,r3⟩:=ab4 (P:=prog) (T:=TWy) (cs:=#[r,.bool (l&&decide ((o.length:Int)=0))]) s5.cr bk1 (by rw[aM7];rfl) (by rw[aM7];rfl) (bZ3 s.oV.isS _);have lw:=Y5 s5.cg dB9 dC7 dC1 (by rw[aM7];rfl);have lr:=Y5 r2 dB9 dC7 dC1 (by rw[aM7];rfl);have aD:∃aS lv V' o',(.agg #[r,.bool (l&&decide ((o.length:Int)=0))]:Value) = .agg #[aS,.bool lv]/\(B0 hZ w6 TVx aS V'/\∀b,A0 aS b->w.heap.size<=b)/\PW E a V' o' 40/\o6 w w6:=⟨r,_,V,o,rfl,⟨s5.oV.mod r3 λb hb=>(s5.dV b hb).2.1,λb hb=>(s5.dV b hb).1⟩,hp,o8.ext_of s5.ext r3 λb hb=>by rw[hb];exact s5.gn.1⟩;cases l
  .rw[Bool.false_and]at *;simp only[i5,n9,simprocAttr,h7,h6,lg,t1,lw,r1];refine N9 results26 (ad:=⟨rb,0,none⟩) (by simp only[B3,simprocAttr];exact h6) lr aD
  .rw[em1]at *;simp only[i5,n9,simprocAttr,h7,h6,h8,lg,s.oo.isS,s.oo.vlen,t1,lw,r1];refine N9 results26 (ad:=⟨rb,0,none⟩) (by simp only[B3,simprocAttr];exact h6) lr aD
 refine A6 [0,6,7,23,24] (σ:=(Nat×Bool)×(Value×Value)×(List Vx×List Int)) (λt f w'=>f 25 = .int .i64 t.1.1/\f 8=t.2.1.2/\t.1.1<=m.length/\WK w w' rb gw t.2.1.1 t.2.1.2 t.2.2.1 t.2.2.2 t.1.2/\PW E a t.2.2.1 t.2.2.2 t.1.1) (λt=>m.length-t.1.1) ((0,true),(r,.slice none 0 0),([a],[])) ?_ ?_
 .exact⟨rfl,rfl,eg3 _,s4,rfl,⟨[],a,rfl,.nil⟩,λx hx=>by rw[eh2.1 hx];exact⟨_,.nil⟩,eg6 _,eg6 _⟩
 clear s4 an H ap o4;rintro⟨⟨k,l⟩,⟨r,uo⟩,V,o⟩ f w5 ⟨e0,e6,e7,a4,a5,_⟩ ⟨am,h8,bZ,s,hp⟩;simp only at am h8 bZ s hp;have Z:PW E a V o 40:=⟨hp.1,hp.2.1,hp.2.2.1,by have:=hp.2.2.2.1;omega,by have:=hp.2.2.2.2;omega⟩;simp only[i5,n9,simprocAttr,am,a5];refine y5 (λbh=>?_) ?_;rotate_left
 .intro _;simp only[i5,simprocAttr];exact aH _ _ _ _ _ _ _ e6 e7 h8 s Z
 have bX:=ac.inS bh;have bg:=aC3 ac (b7 s.ext) bh;generalize m[k]=n at bg;obtain⟨bW,⟨p,v,rfl,O⟩,ba,a8,bm⟩:=hp;have lg:=E7 (P:=prog) (t:=22) (i:=0) (u:=r) s.cg rfl ab9;have b1:vlen r=p.length+1:=by rw[s.oV.vlen];simp
 have b2:IntKind.i64.wrap (((p.length+1:Nat):Int)-1)=(p.length:Int):=by rw[M2 _ (by simp at a8;omega)];omega
 have b6:=s.oV.inS (k:=p.length) zs;have b9:=cj8 (s.oV.rw_ (S8 _)) (n7 _) (k:=p.length) (y:=v) zs;obtain⟨d,wz,w6,a9,bo,b4,aC⟩:=aL3 (w:=w5) (SV.ofN (m8 w5) v) (n7 _);obtain⟨cT,bq,bC,_⟩:=aC.vx_v;obtain rfl:=bq.N;have s6:=s.more b4;simp only[i5,n9,y4,simprocAttr,am,a4,e7,e0,bX,bg,lg,s.oV.isS,b1,b2,b6,b9,a9,bo,he.isS,he.vlen];refine A6 [0,6,7,8,10,11,23,24,25,37,38] (σ:=Nat×Value) (λt f w'=>f 39 = .int .i64 t.1/\f 12=t.2/\t.1<=E.length/\B0 (m8 w6) w' TEg t.2 ((E.take t.1).filter λe=>aX2 e v o)/\o6 w6 w') (λt=>E.length-t.1) (0,.slice none 0 0) ?_ ?_
 .exact⟨rfl,rfl,eg3 _,B0.nil _ _ _,o8.refl _⟩
 rintro⟨j,un⟩ f5 w7 ⟨g0,g6,g7,g8,bQ,aJ,bR,bS,J,bT,bU,_⟩ ⟨W,U,bY,on,G⟩;simp only at W U bY on;rw[e0]at g0;rw[e6]at g6;rw[e7]at g7;rw[h8]at g8;rw[a4]at bR;rw[a5]at bS;rw[am]at J;have s7:=s6.more G;have bl:((E.take j).filter λe=>aX2 e v o).length<=1000000000:=ef9 (eh9 _ _) (by rw[eg0];omega);simp only[i5,n9,simprocAttr,W,bU];refine y5 (λaM=>?_) ?_
 .obtain⟨sv,aa,g⟩:=F5 (P:=prog) (t:=66) he (b7 s7.ext) (ef1 aM) bv5 bv8 aY1 an3;rw[an3]at g;have b5:=he.inS aM;have ab:=be2 (λe=>aX2 e v o) aM;generalize E[j]=e at aa ab;obtain rfl:=aa.N;obtain⟨d2,ch,w8,A,B,Q,X⟩:=cc3 (w:=w7) (λb=>A0 un b) (SV.ofN (m8 w7) e) λb hb=>on.lt hb;have bD:=(I6.eg_v (SV.ofN (m8 w7) e) X).1;have cb:=bC w8 (b7 (G.trans Q));simp only[i5,n9,y4,simprocAttr,bT,W,b5,g,A,B,bD w8 (A8 _ _),aJ,cb,g8];refine B2 (cm6 e v uo o w8 ((s7.more Q).oo.rw_ (S8 _)) (by have:=Z.2.2.2.2;omega)) (λF bx=>?_);have I:=Q.trans bx;have aQ:=on.ext I;rcases ef2 (aX2 e v o)with hq|hq
  .rw[hq,if_pos rfl]at ab;obtain⟨p1,u3,wA,p2,p3,p4,p5⟩:=push (P:=prog) (t:=54) (e:=54) bT1 rfl aQ (x:=.agg (p8.cells e).toArray) (y:=e) ((p8.iff_ _ _ _).2 rfl) zo zo (b7 (G.trans I));have ca:=bD F (p7 (A8 _ _) (b7 bx));simp only[i5,n9,simprocAttr,hq,U,ca,p1,p2,W];exact⟨(j+1,u3),by simp only[];omega,by simp only[];rw[H8 j zo],rfl,by simp only[];omega,by simp only[];rw[ab];exact p3,aQ.ext2 (G.trans I) p4⟩
  .rw[hq,if_neg zs,ei5]at ab;simp only[i5,n9,simprocAttr,hq,U,W];exact⟨(j+1,un),by simp only[];omega,by simp only[];rw[H8 j zo],rfl,by simp only[];omega,by simp only[];rw[ab];exact aQ,G.trans I⟩
 rintro rfl;rw[eg4]at on bl;have a7:∀e∈E.filter (λe=>aX2 e v o),e∈E/\aX2 e v o=true:=λe h=>eh8.1 h;generalize E.filter (λe=>aX2 e v o)=N at on a7 bl;rcases ef2 (decide ((N.length:Int)=0))with q0|q0
 .simp only[i5,n9,simprocAttr,U,on.isS,on.vlen,q0];exact aH _ _ _ _ _ _ _ g6 g7 g8 s7 Z
 obtain⟨M,hM,aL⟩:=bF3 n N.length (by have:=ef7 q0;omega);have ae:=on.inS aL;obtain⟨sv,aa,g⟩:=F5 (P:=prog) (t:=66) (on.rw_ (b7 G)) (n7 _) (ef1 aL) bv5 bv8 aY1 an3;rw[an3]at g;obtain⟨L,aq⟩:=a7 _ (eg2 aL);generalize N[M]=e at aa L aq;obtain rfl:=aa.N;obtain⟨d2,ch,w8,A,B,Q,X⟩:=cc3 (w:=w7) (λb=>b=gw\/A0 uo b) (SV.ofN (m8 w7) e) λb hb=>by
  rcases hb with rfl|hb
  .exact s7.ltg
  .exact s7.oo.lt hb
 obtain⟨u1,u2,cG,cF,bu,b0,lk,_⟩:=I6.eg (SV.ofN (m8 w7) e) X;have ag:=lk w8 (A8 _ _);have bB:=(I6.vx_v bu b0).1;obtain rfl:=bu.N;have s8:=s7.more Q;have bE:=aC.vx.1 w8 (b7 (G.trans Q));have Y:PW E a (p++[v]) o k:=⟨bW,⟨p,v,rfl,O⟩,ba,a8,bm⟩;unfold aX2 at aq;rw[eh5]at aq;obtain⟨C,bd⟩:=aq;have C:=ef3 C;have av:∀{F:World} {S:Value} {o2:List Int} {af:Bool},WK w F rb gw r S (p++[v]) o2 af->B8 (C1 w8 λb=>b=gw\/A0 uo b) (m8 F)->∃u2 wA wB,((Instr.loadAt 22 (.pointer (some ⟨gw,0,none⟩))).run prog F = .ok r F/\P9 prog F 26 (d2.add 4) (.agg (p8.cells e.dst).toArray) /\
   (Instr.buildSlice 22 1 #[(0,.agg (p8.cells e.dst).toArray)]).run prog F = .ok (.slice (some ⟨F.heap.size,0,none⟩) 1 1) (F.alloc (.cells (Value.agg (p8.cells e.dst).toArray).cells TVx)) /\
   (Builtin.append_ #[22,22] 22 #[r,.slice (some ⟨F.heap.size,0,none⟩) 1 1]).run prog (F.alloc (.cells (Value.agg (p8.cells e.dst).toArray).cells TVx)) = .ok u2 wA /\
   (Instr.storeAt 22 (.pointer (some ⟨gw,0,none⟩)) u2).run prog wA = .ok () wB)/\WK w wB rb gw u2 S ((p++[v])++[e.dst]) o2 af:=by
  intro F S o2 af s9 h9;obtain⟨v1,u2,wA,wB,v2,v3,sB⟩:=s9.pushV e.dst zo;exact⟨u2,wA,wB,⟨E7 (P:=prog) (t:=22) (i:=0) (u:=r) s9.cg rfl ab9,bB F h9,v1,v2,v3⟩,sB⟩
 simp only[i5,n9,simprocAttr,U,on.isS,on.vlen,q0,bQ];refine E6 (cH6 n N.length w7 zo) ?_;rw[hM];rcases hk e L with hf|ho|h6
 .have k4:decide (e.kind=4)=false:=el3 zo;have k5:decide (e.kind=5)=false:=el3 zo;have k6:decide (e.kind=6)=false:=el3 zo;obtain⟨D,wA,wB,q,sB⟩:=av s8 (A8 _ _);simp only[i5,n9,y4,simprocAttr,ae,g,A,B,ag,k4,k5,k6,g7,g8,J,q];exact⟨((k+1,l),(D,uo),((p++[v])++[e.dst],o)),by simp only[];omega,by simp only[];rw[H8 k zo],rfl,by simp only[];omega,sB,Y.push (.flat O L C hf) (Nat.le_succ_of_le bm)⟩
 .obtain⟨p1,S,F,p2,s9,aN⟩:=s8.pushO v.id zo;obtain⟨D,wA,wB,q,sB⟩:=av s9 (D8 (aN.weaken λ_ _ h=>.inr h));have bv:an0 E a e.dst (o++[v.id]).reverse:=by
   rw[List.reverse_append];exact .opn O L C ho
  rcases ho with h|h
  .have k4:decide (e.kind=4)=true:=ek5 h;simp only[i5,n9,y4,simprocAttr,ae,g,A,B,ag,k4,g7,g8,aJ,bE,p1,p2,J,q];exact⟨((k+1,l),(D,S),((p++[v])++[e.dst],o++[v.id])),by simp only[];omega,by simp only[];rw[H8 k zo],rfl,by simp only[];omega,sB,Y.push bv (by simp;omega)⟩
  .have k4:decide (e.kind=4)=false:=el3 zo;have k5:decide (e.kind=5)=true:=ek5 h;simp only[i5,n9,y4,simprocAttr,ae,g,A,B,ag,k4,k5,g7,g8,aJ,bE,p1,p2,J,q];exact⟨((k+1,l),(D,S),((p++[v])++[e.dst],o++[v.id])),by simp only[];omega,by simp only[];rw[H8 k zo],rfl,by simp only[];omega,sB,Y.push bv (by simp;omega)⟩
 .have k4:decide (e.kind=4)=false:=el3 zo;have k5:decide (e.kind=5)=false:=el3 zo;have k6:decide (e.kind=6)=true:=ek5 h6;rcases ef2 (decide ((o.length:Int)=0))with q6|q6
  .have bk:o=[]:=List.length_eq_zero_iff.1 (by have:=ef3 q6;omega);obtain⟨F,t1,s9,aN⟩:=s8.lev0 false;obtain⟨D,wA,wB,q,sB⟩:=av s9 (D8 (aN.weaken λ_ _ h=>.inl h));simp only[i5,n9,y4,simprocAttr,ae,g,A,B,ag,k4,k5,k6,s8.oo.isS,s8.oo.vlen,q6,t1,g7,g8,J,q];subst bk;exact⟨((k+1,false),(D,uo),((p++[v])++[e.dst],[])),by simp only[];omega,by simp only[];rw[H8 k zo],rfl,by simp only[];omega,sB,Y.push (.up O L C h6) zs⟩
  .obtain⟨z,hz⟩:∃z,o.length=z+1:=⟨o.length-1,by have:=ef7 q6;omega⟩;have bz:z<o.length:=by omega
   have s9:=s8.pop hz;obtain⟨D,wA,wB,q,sB⟩:=av s9 (A8 _ _);have b3:IntKind.i64.wrap ((o.length:Int)-1)=(z:Int):=by rw[M2 _ zo];omega
   have bc:decide ((z:Int)<=(vcap uo:Int))=true:=by have:=s8.oo.vcap;simp;omega
   have bn:o.reverse=o[z]::(o.take z).reverse:=by
    have h1:=ef8 bz;rw[ej5 zo]at h1
    conv=>lhs;rw[h1]
    simp
   rw[bn]at O;rw[k6,el3 λh=>by rw[h]at hz;cases hz]at bd;have be:=ef3 bd;rw[hz,Nat.add_sub_cancel,List.getD,ef1 bz]at be;simp only[i5,n9,y4,J0,simprocAttr,ae,g,A,B,ag,k4,k5,k6,s8.oo.isS,s8.oo.vlen,q6,b3,bc,g7,g8,J,q];exact⟨((k+1,l),(D,reS uo 0 z 1),((p++[v])++[e.dst],o.take z)),by simp only[];omega,by simp only[];rw[H8 k zo],rfl,by simp only[];omega,sB,Y.push (.cls O L C h6 be.symm) (by rw[eg0];omega)⟩
section
variable {p:Pg} {vs:List Vx} {l:List Int}
def bi5(a:E0 p=true)(h:N8 (i4 p).wv vs=some l):ab3 p vs=(E8 (i4 p).wv ((i4 p).backB l),0)/\ae9 p vs=(E8 (i4 p).wv ((i4 p).forwB l),0):=by
 refine⟨?_,?_⟩
 .unfold ab3;rw[if_neg (by rw[a];simp),h]
 .unfold ae9;rw[if_neg (by rw[a];simp),h]
end
section
variable {p:Pg}
def dn6(a:E0 p=true)(hw:B7 p<=1000000):∀e∈(i4 p).we,(e.kind=1\/e.kind=2)\/(e.kind=4\/e.kind=5)\/e.kind=6:=λe b=>by
 rcases aG3 a hw b with⟨_,_,h⟩|⟨y,c⟩
 .exact .inl h
 .rcases c.kind with h|h|h<;>omega
def dy4(c:E0 p=true)(hw:B7 p<=1000000){a:Vx}{V:List Vx}(j:a∈(i4 p).wv)(i:∀x∈V,∃o,an0 (i4 p).we a x o):(∃F,ae9 p [a]=(F,0)/\∀x∈V,x∈F)/\∀b∈V,∃B,ab3 p [b]=(B,0)/\a∈B:=by
 have f:=G6 c;have e:∀x∈V,x∈(i4 p).wv:=λx g=>by
  obtain⟨o,h⟩:=i x g;exact dy2 c hw j h
 constructor
 .obtain⟨l,d,_,_⟩:=ai8 f hw (vs:=[a]) (by simpa using j);refine⟨_,(bi5 c d).2,λx g=>?_⟩;obtain⟨o,h⟩:=i x g;exact(aE1 f hw d).2 ⟨e x g,a,by simp,cq1 c hw h⟩
 .intro b k;obtain⟨l,d,_,_⟩:=ai8 f hw (vs:=[b]) (by simpa using e b k);obtain⟨o,h⟩:=i b k;exact⟨_,(bi5 c d).1,(ak8 f hw d).2 ⟨j,b,by simp,cq1 c hw h⟩⟩
end
def ce2(w:World):(Instr.alloc TWy true (.tuple #[])).run prog w = .ok (.pointer (some ⟨w.heap.size,0,none⟩)) (w.alloc cWy)/\True:=
 ⟨(aA5 (P:=prog) (w:=w) (T:=TWy) bk1 (by rw[aM7];rfl) (cs:=#[.slice none 0 0,.bool false]) (by rw[aM7];rfl) (bZ3 rfl _)).1,trivial⟩
def dz0(w:World):∃a,(Instr.alloc TVx true (.tuple #[])).run prog w = .ok (.pointer (some ⟨w.heap.size,0,none⟩)) a/\a.heap[w.heap.size]?=some (.cells (p8.cells ah5).toArray TVx (0,0))/\o6 w a:=
 ⟨_,(aA5 (P:=prog) (w:=w) (T:=TVx) aS3 rfl (cs:=(p8.cells ah5).toArray) (by rw[N6];rfl) (λu b=>U5 ah5 u (by simpa using b))).1,ej0 w _,o6.alloc w _⟩
def bK8(v:Value)(p:Pg)(i:Int)(vb:Value)(lb:List Int)(w:World)(hv:SV (m8 w) v p)(X:R (m8 w) vb lb):o9 prog 6 #[v,.int .i64 i,vb] w λu l=>(u = .bool true/\o6 w l):=by
 refine p9 [v,.int .i64 i,vb] func6 rfl ?_;obtain⟨c,w1,cx,G,bF⟩:=Q4 hv (n7 _);obtain⟨sp,r,J,bT⟩:=bF.pg_v;simp only[i5,n9,simprocAttr,cx];refine B2 (az5 w1) (λw2 be=>?_);simp only[i5,n9,simprocAttr,J w2 (b7 be)];refine B2 (aN3 sp p w2 (r.mono (b7 be))) (λw3 cH=>?_);have H:=be.trans cH;rcases ef2 (decide (B7 p<=20000))with h1|h1;rotate_left
 .simp only[i5,n9,simprocAttr,h1];exact o7 results6 ⟨rfl,G.trans H⟩
 have L:B7 p<=1000000:=ef9 (ef3 h1) (by decide);simp only[i5,n9,simprocAttr,h1,J w3 (b7 H)];refine B2 (aR9 sp 25 w3 (r.mono (b7 H)) L) (λw4 cI=>?_);have aC:=H.trans cI;rcases ef2 (E0 p&&decide (((bB0 p:Nat):Int)<=25))with h2|h2;rotate_left
 .simp only[i5,n9,simprocAttr,h2];exact o7 results6 ⟨rfl,G.trans aC⟩
 have hR:E0 p=true:=by rw[eh5]at h2;exact h2.1
 have hr:=G6 hR;have c6:=at1 hr L;have bI:=ag5 hr.toKnown;have U:(i4 p).we.length<=1000000000:=ef9 (bp6 hr L) (by decide);have W:=dn6 hR L;have s:=aC.trans (o6.drew w4);have q:=G.trans s;generalize bJ:w4.drew=w0 at s q;have t1:=bT (λl=>o6 w0 l) w0 (o8.refl _) λl h=>b7 (s.trans h);have aw:o6 w0 w0:=o8.refl _;simp only[i5,n9,simprocAttr,h2];refine bB5 [3] (λl=>o6 w0 l) 9 (.op 0 (.op 2 (.op 4 (.op 6 (.fork [1,8] (λi=>if i=1 then(.fork [3,8] (λi=>if i=3 then(.fork [5,8] (λi=>if i=5 then(.fork [7,8] (λi=>if i=7 then(A5 [8])else(A5 [7])))else(A5 [5,7])))else(A5 [3,5,7])))else(A5 [1,3,5,7]))))))) (λf' l=>∃gb A z V o,f' 7 = .pointer (some ⟨gb,0,none⟩)/\f' 29 = .agg #[A,.bool z]/\l.heap[gb]?=some (.cells #[.slice none 0 0,.bool false] TWy (0,0))/\w0.heap.size<=gb/\B0 hZ l TVx A V/\(∀b,A0 A b->b≠gb)/\PW (i4 p).we (ab6 (i4 p).wv i) V o 40/\o6 w0 l) (by decide +kernel) (by decide +kernel) (by rw[bJ];exact o8.refl _) ?_ ?_
 .rw[bJ];simp only[D0,A5,i5,simprocAttr,t1];refine V1 (by decide +kernel) (λj1 a0=>?_);rcases eh0.1 a0 with rfl|a0
  .simp only[D0,i5,simprocAttr];refine t8 (aK3 sp w0 (r.mono (b7 (s.trans aw))) L) ?_;rintro ue a1 ⟨e,cV⟩;rw[if_pos hR]at e;have ac:=aw.trans cV;refine⟨ac,?_⟩;refine V1 (by decide +kernel) (λj3 ba=>?_);rcases eh0.1 ba with rfl|ba
   .simp only[D0,i5,simprocAttr];refine t8 (R7 sp a1 (r.mono (b7 (s.trans ac))) L) ?_;rintro uv a2 ⟨m,bZ⟩;rw[if_pos hR]at m;have e:=A3.mono (b7 bZ) e;have av:=ac.trans bZ;refine⟨av,?_⟩;refine V1 (by decide +kernel) (λj5 bb=>?_);rcases eh0.1 bb with rfl|bb
    .simp only[D0,i5,simprocAttr];refine B2 (V0 uv (i4 p).wv i a2 m zo) (λa3 b0=>?_);have e:=A3.mono (b7 b0) e;have aj:=av.trans b0;refine⟨aj,?_⟩;refine V1 (by decide +kernel) (λj7 bc=>?_);rcases eh0.1 bc with rfl|bc
     .simp only[D0,i5,simprocAttr];refine t8 (ar5 ue (i4 p).we (ab6 (i4 p).wv i) vb lb a3 e (A3.mono (b7 (q.trans aj)) X) U W) ?_;rintro _ a4 ⟨A,z,V,o,rfl,⟨D,nV⟩,g,cW⟩;have bi:=aj.trans cW;refine⟨bi,?_⟩;obtain⟨bP,_⟩:=ce2 a4;have bl:=o6.alloc a4 cWy;have bB:=ej0 a4 cWy;generalize c7:a4.alloc cWy=a5 at bP bl bB;have bW:=bi.trans bl;simp only[D0,i5,simprocAttr,bP];exact⟨bW,_,_,_,_,_,rfl,rfl,bB,bi.size,D.ext bl,λb C=>by have:=D.lt C;omega,g,bW⟩
     .obtain rfl:=eh2.1 bc;obtain⟨bQ,_⟩:=ce2 a3;have bm:=o6.alloc a3 cWy;have S:=ej0 a3 cWy;generalize da:a3.alloc cWy=a6 at bQ bm S;have bj:=aj.trans bm;have e:=A3.mono (b7 bm) e;have dy:=(ef5.1 S).1;simp only[D0,i5,simprocAttr,bQ];refine⟨bj,?_⟩;simp only[D0,i5,simprocAttr];refine t8 (ar5 ue (i4 p).we (ab6 (i4 p).wv i) vb lb a6 e (A3.mono (b7 (q.trans bj)) X) U W) ?_;rintro _ a7 ⟨A,z,V,o,rfl,⟨D,nV⟩,g,b4⟩;have bX:=bj.trans b4;have co:=(b4.block _ (ef5.1 S).1 id).trans S;refine⟨bX,?_⟩;simp only[D0,i5,simprocAttr];exact⟨_,_,_,_,_,rfl,rfl,co,aj.size,D,λb C h=>by subst h;have:=nV _ C;have:=(ef5.1 S).1;omega,g,bX⟩
    .obtain rfl:=eh2.1 bb;obtain⟨bR,_⟩:=ce2 a2;have ax:=o6.alloc a2 cWy;have aW:=ej0 a2 cWy;generalize db:a2.alloc cWy=a8 at bR ax aW;have bY:=av.trans ax;have e:=A3.mono (b7 ax) e;have m:=A3.mono (b7 ax) m;simp only[D0,i5,simprocAttr,bR];refine⟨bY,?_⟩;simp only[D0,i5,simprocAttr];refine B2 (V0 uv (i4 p).wv i a8 m zo) (λa9 bn=>?_);have e:=A3.mono (b7 bn) e;have bk:=bY.trans bn;have aX:=(bn.block _ (ef5.1 aW).1 id).trans aW;refine⟨bk,?_⟩;simp only[D0,i5,simprocAttr];refine t8 (ar5 ue (i4 p).we (ab6 (i4 p).wv i) vb lb a9 e (A3.mono (b7 (q.trans bk)) X) U W) ?_;rintro _ dp ⟨A,z,V,o,rfl,⟨D,nV⟩,g,aP⟩;have aK:=bk.trans aP;have bw:=(aP.block _ (ef5.1 aX).1 id).trans aX;refine⟨aK,?_⟩;simp only[D0,i5,simprocAttr];exact⟨_,_,_,_,_,rfl,rfl,bw,av.size,D,λb C h=>by subst h;have:=nV _ C;have:=(ef5.1 aX).1;omega,g,aK⟩
   .obtain rfl:=eh2.1 ba;obtain⟨aH,_⟩:=ce2 a1;have ak:=o6.alloc a1 cWy;have M:=ej0 a1 cWy;generalize cz:a1.alloc cWy=ce at aH ak M;have ad:=ac.trans ak;have e:=A3.mono (b7 ak) e;simp only[D0,i5,simprocAttr,aH];refine⟨ad,?_⟩;simp only[D0,i5,simprocAttr];refine t8 (R7 sp ce (r.mono (b7 (s.trans ad))) L) ?_;rintro uv cf ⟨m,al⟩;rw[if_pos hR]at m;have e:=A3.mono (b7 al) e;have aL:=ad.trans al;have ay:=(al.block _ (ef5.1 M).1 id).trans M;refine⟨aL,?_⟩;simp only[D0,i5,simprocAttr];refine B2 (V0 uv (i4 p).wv i cf m zo) (λch am=>?_);have e:=A3.mono (b7 am) e;have ae:=aL.trans am;have N:=(am.block _ (ef5.1 ay).1 id).trans ay;refine⟨ae,?_⟩;simp only[D0,i5,simprocAttr];refine t8 (ar5 ue (i4 p).we (ab6 (i4 p).wv i) vb lb ch e (A3.mono (b7 (q.trans ae)) X) U W) ?_;rintro _ dq ⟨A,z,V,o,rfl,⟨D,nV⟩,g,aQ⟩;have aM:=ae.trans aQ;have bx:=(aQ.block _ (ef5.1 N).1 id).trans N;refine⟨aM,?_⟩;simp only[D0,i5,simprocAttr];exact⟨_,_,_,_,_,rfl,rfl,bx,ac.size,D,λb C h=>by subst h;have:=nV _ C;have:=(ef5.1 N).1;omega,g,aM⟩
  .obtain rfl:=eh2.1 a0;obtain⟨aI,_⟩:=ce2 w0;have aR:=o6.alloc w0 cWy;have O:=ej0 w0 cWy;generalize cA:w0.alloc cWy=ci at aI aR O;have af:=aw.trans aR;simp only[D0,i5,simprocAttr,aI];refine⟨af,?_⟩;simp only[D0,i5,simprocAttr];refine t8 (aK3 sp ci (r.mono (b7 (s.trans af))) L) ?_;rintro ue cj ⟨e,aS⟩;rw[if_pos hR]at e;have ag:=af.trans aS;have az:=(aS.block _ (ef5.1 O).1 id).trans O;refine⟨ag,?_⟩;simp only[D0,i5,simprocAttr];refine t8 (R7 sp cj (r.mono (b7 (s.trans ag))) L) ?_;rintro uv ck ⟨m,an⟩;rw[if_pos hR]at m;have e:=A3.mono (b7 an) e;have aN:=ag.trans an;have aA:=(an.block _ (ef5.1 az).1 id).trans az;refine⟨aN,?_⟩;simp only[D0,i5,simprocAttr];refine B2 (V0 uv (i4 p).wv i ck m zo) (λcl ao=>?_);have e:=A3.mono (b7 ao) e;have ah:=aN.trans ao;have Q:=(ao.block _ (ef5.1 aA).1 id).trans aA;refine⟨ah,?_⟩;simp only[D0,i5,simprocAttr];refine t8 (ar5 ue (i4 p).we (ab6 (i4 p).wv i) vb lb cl e (A3.mono (b7 (q.trans ah)) X) U W) ?_;rintro _ dr ⟨A,z,V,o,rfl,⟨D,nV⟩,g,aT⟩;have aO:=ah.trans aT;have bz:=(aT.block _ (ef5.1 Q).1 id).trans Q;refine⟨aO,?_⟩;simp only[D0,i5,simprocAttr];exact⟨_,_,_,_,_,rfl,rfl,bz,aw.size,D,λb C h=>by subst h;have:=nV _ C;have:=(ef5.1 Q).1;omega,g,aO⟩
 rintro f5 w5 h3 ⟨gb,A,z,V,o,h7,ct,hc,cB,D,nV,g,cJ⟩;have e3:=h3 3 zs;obtain⟨w6,r1,r2,r3⟩:=ab4 (P:=prog) (T:=TWy) (cs:=#[A,.bool z]) hc bk1 (by rw[aM7];rfl) (by rw[aM7];rfl) (bZ3 D.isS _);have bL:o6 w0 w6:=o8.ext_of cJ r3 λb C=>by rw[C];exact cB
 have cQ:=D.mod r3 nV;have bg:=o6.drew w6;have aD:=s.trans (bL.trans bg);have cg:w6.drew.heap[gb]?=some (.cells #[A,.bool z] TWy (0,0)):=r2;have bh:=cQ.ext bg;have bG:=aR2 bI i;obtain⟨⟨F,eF,hF⟩,hB⟩:=dy4 hR L bG g.2.2.1;obtain⟨bH,⟨E,y,rfl,_⟩,_,cw,_⟩:=g;obtain⟨B,eB,hB⟩:=hB y zs;generalize ab6 (i4 p).wv i=a at bH eF hB;have bd:gb<w6.drew.heap.size:=(ef5.1 cg).1;have aZ:=bh.rw_ (S8 _);have cF:vlen A=E.length+1:=by rw[D.vlen];simp
 have cG:IntKind.i64.wrap (((E.length+1:Nat):Int)-1)=(E.length:Int):=by rw[M2 _ (by simp at cw;omega)];omega
 have cO:=D.inS (k:=0) zs;have cP:=D.inS (k:=E.length) zs;generalize bK:w6.drew=w8 at aD cg bh bd aZ bg;have k1:∀K f d n,F7 prog (λl=>o6 w8 l) (Instr.loadAt 22 (.pointer (some ⟨gb,0,none⟩))) K f d n=K (C9 f d A) n:=λK f d n=>C0 (w0:=w8) (o8.refl _) λl h=>E7 (P:=prog) (u:=A) (i:=0) ((h.block gb bd id).trans cg) rfl ab9;have k2:∀K f d n,F7 prog (λl=>o6 w8 l) (Instr.loadAt 26 (.pointer (some (G9 A 0)))) K f d n=K (C9 f d (.agg (p8.cells a).toArray)) n:=λK f d n=>C0 (w0:=w8) (o8.refl _) λl h=>cj8 aZ (b7 h) bH;have k3:∀K f d n,F7 prog (λl=>o6 w8 l) (Instr.loadAt 26 (.pointer (some (G9 A (E.length*4))))) K f d n=K (C9 f d (.agg (p8.cells y).toArray)) n:=λK f d n=>C0 (w0:=w8) (o8.refl _) λl h=>cj8 aZ (b7 h) zs;simp only[D0,i5,simprocAttr,h7,ct,r1];refine bB5 [3,7] (λl=>o6 w8 l) 15 (.op 0 (.op 1 (.op 2 (.op 3 (.op 4 (.op 5 (.op 6 (.op 7 (.op 8 (.op 9 (.op 10 (.op 11 (.fork [12,13] (λi=>if i=12 then(A5 [13,14])else(A5 [12,14]))))))))))))))) (λf' l=>∃c8 c9,f' 8 = .pointer (some ⟨c8,0,none⟩)/\f' 9 = .pointer (some ⟨c9,0,none⟩)/\f' 41 = .agg (p8.cells y).toArray/\l.heap[c8]?=some (.cells (p8.cells a).toArray TVx (0,0))/\l.heap[c9]?=some (.cells (p8.cells ah5).toArray TVx (0,0))/\w8.heap.size<=c9/\c8≠c9/\o6 w8 l) (by decide +kernel) (by decide +kernel) (by rw[bK];exact o8.refl _) ?_ ?_
 .rw[bK];obtain⟨a1,q1,b1,x1⟩:=dz0 w8;obtain⟨a2,q2,b2,x2⟩:=dz0 a1;have s1:=(ef5.1 b1).1;have b3:=(x2.block _ s1 id).trans b1;have au:=x1.trans x2;simp only[D0,A5,i5,n9,y4,simprocAttr,h7,k1,k2,k3,D.isS,cF,cG,cO,cP];refine V1 (by decide +kernel) (λj hj=>?_);rcases eh0.1 hj with rfl|hj
  .obtain⟨a3,q3,c3,m3⟩:=dw5 b3 a;have ab:=o8.ext_of au m3 λb C=>by rw[C];exact eg6 _
   simp only[D0,i5,simprocAttr,q1];refine⟨x1,?_⟩;simp only[D0,i5,simprocAttr,q2];refine⟨au,?_⟩;simp only[D0,i5,simprocAttr,q3];exact⟨ab,_,_,rfl,rfl,rfl,c3,(m3.block _ (ef5.1 b2).1 λh=>by omega).trans b2,x1.size,by omega,ab⟩
  .obtain rfl:=eh2.1 hj;obtain⟨a3,q3,c3,m3⟩:=dw5 b2 a;have ab:=o8.ext_of au m3 λb C=>by rw[C];exact x1.size
   simp only[D0,i5,simprocAttr,q1];refine⟨x1,?_⟩;simp only[D0,i5,simprocAttr,q2];refine⟨au,?_⟩;simp only[D0,i5,simprocAttr,q3];exact⟨ab,_,_,rfl,rfl,rfl,c3,(m3.block _ (el8 s1 x2.size) λh=>by omega).trans b3,eg6 _,by omega,ab⟩
 rintro f9 w9 bD ⟨c8,c9,g8,g9,cr,b8,b9,cy,cD,cK⟩;have g3:=bD 3 zs;have g7:=bD 7 zs;obtain⟨wA,q1,bA,mA⟩:=dw5 b9 y;have bM:o6 w8 wA:=o8.ext_of cK mA λb C=>by rw[C];exact cy
 have b8:=(mA.block c8 (ef5.1 b8).1 cD).trans b8;have I:=aD.trans bM;obtain⟨uB,wB,qB,rB,bN⟩:=bf6 a wA;simp only[D0,i5,simprocAttr,g9,cr,q1,g3,e3,g8,J wA (b7 I),du2 b8,qB];refine t8 (N5 sp uB [a] wB (r.mono (b7 (I.trans bN))) L rB zs) ?_;rintro _ wC ⟨uf,rfl,rf,nf,cL⟩;rw[eF]at rf nf;simp only[eF];have Y:=bN.trans cL;have aE:=I.trans Y;have bC:=(Y.block c9 (ef5.1 bA).1 id).trans bA;obtain⟨uD,wD,qD,rD,bO⟩:=bf6 y wC;simp only[i5,simprocAttr,g3,e3,g9,J wC (b7 aE),du2 bC,qD];refine t8 (K6 sp uD [y] wD (r.mono (b7 (aE.trans bO))) L rD zs) ?_;rintro _ wE ⟨ub,rfl,rb,nb,cM⟩;rw[eB]at rb nb;simp only[eB];have aG:=bO.trans cM;have Z:=Y.trans aG;have aF:=bM.trans Z;have bv:=(Z.block c8 (ef5.1 b8).1 id).trans b8;have lE:=E7 (P:=prog) (t:=22) (u:=A) (i:=0) ((aF.block gb bd id).trans cg) rfl ab9;have cv:=(bh.ext aF).rw_ (S8 _);have rf:R (m8 wC) uf F:=rf;have rb:R (m8 wE) ub B:=rb;have dD:F.length<=480000:=nf;have dC:B.length<=480000:=nb;simp only[i5,n9,simprocAttr,g7,h7,lE];refine B2 (bM3 A uf (E++[y]) F wE cv (A3.mono (b7 aG) rf) zo zo) (λwF bf=>?_);have bE:((E++[y]).all λx=>F.contains x)=true:=en8.2 λx hx=>eg7.2 (hF x hx);have cn:=(bf.block c8 (ef5.1 bv).1 id).trans bv;simp only[i5,simprocAttr,bE,g8,du2 cn];refine B2 (ae1 ub B a wF (A3.mono (b7 bf) rb) zo) (λwG cN=>?_);simp only[i5,simprocAttr,eg7.2 hB];exact o7 results6 ⟨rfl,G.trans (I.trans (Z.trans (bf.trans cN)))⟩
end Go.Proofs.YtggahhenbbgffaaGreat
