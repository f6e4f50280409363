/- What the functions of the program do, for every input; plain facts. No condition, no statement of its own. Part 6. -/
import Derived.Test.YtpebpfiglfmegaaGreatZ6
set_option maxRecDepth 1000000
set_option maxHeartbeats 8000000
set_option linter.unusedVariables false
set_option linter.unusedSimpArgs false
set_option linter.unnecessarySimpa false
set_option linter.defProp false
namespace Go.Proofs.YtpebpfiglfmegaaGreat
open Go Tryz
section
variable {h k:Hp} {a:Addr} {v:Value} {w:World} {cs:List Value} (N:Nat->Prop)
def dA4{x:Eg}(hv:SV h v x)(hw:E2 h (i5 w)):bC4 54 v w x:=bA2 hv hw cM3 rfl aw5
end
def cQ7:∀(m:Nat) (l:List St) (v:Value) (w:World),B2 l<=m->R (i5 w) v l->K0 l<=1000000->y5 prog 94 #[v] w λu a=>(u = .int .i64 (B2 l:Nat)/\o6 w a):=by
 intro m
 induction m with
 | zero=>
  intro l v w z e E;have n:l.length=0:=by have:=X7 l;omega
  refine z6 [v] func94 rfl ?_;simp only[eS,simprocAttr,e.isS,e.vlen];refine A9 [7,8] (σ:=Nat) (λk f a=>f 9 = .int .i64 0/\f 3 = .int .i64 ((l.length:Nat):Int)/\a=w) (λk=>0) 0 ?_ ?_
  .simp only[B8,simprocAttr];exact⟨tt,tt,tt⟩
  .rintro k f q ⟨L,r,_⟩ ⟨i,g,rfl⟩;have K:decide ((0:Int)<((l.length:Nat):Int))=false:=by rw[n];decide
   simp only[eS,simprocAttr,i,r,K,g];refine o8 results94 ?_;simp only[B8,simprocAttr];exact⟨by rw[List.eq_nil_of_length_eq_zero n];rfl,p6.refl _⟩
 | succ m I=>
  intro l v w z e E;refine z6 [v] func94 rfl ?_;have H:=aD8 l;have M:=X7 l;simp only[eS,simprocAttr,e.isS,e.vlen];refine A9 [0,7,8] (σ:=Nat) (λk f a=>f 9 = .int .i64 k/\k<=l.length/\f 3 = .int .i64 ((l.length+B2 (l.take k)-k:Nat):Int)/\o6 w a) (λk=>l.length-k) 0 ?_ ?_
  .simp only[B8,simprocAttr];exact⟨tt,ek1 _,by simp[B2],p6.refl _⟩
  .rintro k f q ⟨e0,L,r,_⟩ ⟨i,x,g,o⟩;have y:=X7 (l.take k);rw[ek3,eo8 x]at y;simp only[eS,simprocAttr,i,r];refine A3 (λb=>?_) ?_
   .have s:=e.inS b;have j:=(e.at_ (ej0 b));have A:=aS4 l b;have G:=aA6 l (k+1);have D:=ar5 (ek0 b);generalize l[k]=t at j A D;have O:=aC7 t;have T:=X3 t;obtain⟨vl,Z,X,W,P,Q,S,N,F,Y,V⟩:=j.st;have d:=o.trans (o6.drew q);have J:=V (λa=>o6 q.drew a) q.drew (p6.refl _) (λa h=>b7 (d.trans h));have U:A6.sz St=13:=rfl;rw[U]at J;simp only[n8,simprocAttr,i];refine C0 (λa=>o6 q.drew a) 16 (A7 [0,1,2,3,4,5,7,8,9,10,11,6,12,13,14,15]) ?_;simp only[D7,A7,n8,n9,A0,simprocAttr,e0,g,s,J];refine B6 (I t.thn X _ om (A6.mono (b7 d) S) om) (λw3 c=>?_);simp only[fe,simprocAttr,G0];refine⟨c,?_⟩;refine B6 (I t.els W _ om (A6.mono (b7 (d.trans c)) N) om) (λw4 p=>?_);have B:IntKind.i64.wrap (((B2 t.thn:Nat):Int)+((B2 t.els:Nat):Int))=((B2 t.thn+B2 t.els:Nat):Int):=by rw[M7 _ om];omega
    have C:IntKind.i64.wrap (((l.length+B2 (l.take k)-k:Nat):Int)+((B2 t.thn+B2 t.els:Nat):Int))=((l.length+B2 (l.take (k+1))-(k+1):Nat):Int):=by rw[M7 _ om];omega
    simp only[D7,n8,n9,simprocAttr,G0,B,C,i];refine⟨c.trans p,?_⟩;exact nx4 (k+1) (d.trans (c.trans p))
   .rintro rfl;rw[ek4]at g;simp only[n8,simprocAttr,g];refine o8 results94 ?_;simp only[B8,simprocAttr];exact⟨by congr 1;congr 1;omega,o⟩
def cN5(v:Value)(p:Pg)(w:World)(hv:SV (i5 w) v p)(z:C4 p<=1000000):y5 prog 56 #[v] w λu D=>(u = .int .i64 (bz8 p:Nat)/\o6 w D):=by
 refine z6 [v] func56 rfl ?_;obtain⟨a,F,o,Q,K⟩:=U2 hv (n7 _);obtain⟨Y,Z,V,i,S,W⟩:=K.pg;have R:=S F (n7 _);have J:=i.isS;have N:=i.vlen;have O:=am6 p.procs;have L:=bA9 p.procs;unfold C4 at z;simp only[eS,simprocAttr,o,R,J,N];refine A9 [1,7,8] (σ:=Nat) (λk f D=>f 9 = .int .i64 k/\k<=p.procs.length/\f 3 = .int .i64 ((((p.procs.take k).map λf=>B2 f.body).sum:Nat):Int)/\o6 F D) (λk=>p.procs.length-k) 0 ?_ ?_
 .simp only[B8,simprocAttr];exact⟨tt,ek1 _,dP,p6.refl _⟩
 .rintro k f w2 ⟨U,H,I,_⟩ ⟨l,M,j,d⟩;simp only[eS,simprocAttr,l,I];refine A3 (λc=>?_) ?_
  .have r:=i.inS c;obtain⟨X,g,e⟩:=H1 (P:=prog) (t:=68) i (b7 d) (ej0 c) aD3 aD5 aw4 U0;rw[U0]at e;have y:((p.procs.take (k+1)).map λf=>B2 f.body).sum=((p.procs.take k).map λf=>B2 f.body).sum+B2 p.procs[k].body:=by
    rw[ej8 c,em6,List.sum_append];simp
   have E:((p.procs.take (k+1)).map λf=>B2 f.body).sum<=(p.procs.map λf=>B2 f.body).sum:=by
    conv=>rhs;rw[<-en4 (k+1) p.procs,em6,List.sum_append]
    omega
   have h:=az4 (ek0 c);generalize p.procs[k]=q at g y h;obtain⟨b,wz,G,m,x,A,n⟩:=aY3 (g.mono (b7 d)) (n7 _);obtain⟨_,_,T,_,_,_,s,_,C,_⟩:=n.pr;simp only[n8,n9,A0,simprocAttr,l,H,r,e,m,x,C G (n7 _),j];refine B6 (cQ7 _ q.body T G (ek6 _) s (by unfold ad1 at h;omega)) (λw4 B=>?_);simp only[eS,simprocAttr,l];exact V1 (k+1) ⟨by rw[M7 _ om];congr 1;omega,d.trans (A.trans B)⟩
  .rintro rfl;rw[ek4]at j;simp only[n8,simprocAttr,j];exact o8 results56 ⟨rfl,Q.trans d⟩
def bH8{V:List Vx}{S:List Bool}{v:Vx}:v∈G6 V S↔∃i:Int,z7 S i=true/\V[i.toNat]?=some v:=by
 unfold G6;rw[List.mem_filterMap];exact⟨λ⟨i,a,b⟩=>⟨i,ai7.1 a,b⟩,λ⟨i,a,b⟩=>⟨i,ai7.2 a,b⟩⟩
def aB5{V:List Vx}(hn:V.Nodup){S:List Bool}{v:Vx}(hv:v∈V):v∈G6 V S↔z7 S ((D6 V v:Nat):Int)=true:=by
 rw[bH8];constructor
 .rintro⟨i,a,b⟩;have c:=cK7 hn b;have:=B5.1 (X5 a);have e:((D6 V v:Nat):Int)=i:=om
  rw[e];exact a
 .exact λh=>⟨_,h,by rw[el5];exact Z5 hv⟩
section
variable {p:Pg} {k l k' l':List Int} {v a b:Int} {e:Eg}
def Mk(p:Pg)(l:List Int)(a:Int):Prop:=I9 (b9 p).wv.length a=true/\a∈l
def dj2:z7 (S8 (b9 p).wv.length l) a=true↔Mk p l a:=an5
def W5(K:Known p):z7 ((b9 p).first k) v=true↔∃a,Mk p k a/\as4 p upK a v:=by
 unfold Bk.first;rw[M3 (at7 (O1 K)) (by rw[an7,E0])];simp only[dj2];rfl
def ab8(K:Known p):z7 ((b9 p).last l) v=true↔∃b,Mk p l b/\as4 p dnK v b:=by
 unfold Bk.last;rw[M3 (ae4 (O1 K)) (by rw[Z8,E0])];simp only[dj2,<-S9 (O1 K)];rfl
def af0(K:Known p):z7 ((b9 p).thenB k) v=true↔∃a,Mk p k a/\∃m,as4 p upK a m/\as4 p dnK m v:=by
 unfold Bk.thenB;rw[M3 (at7 (O1 K)) (by rw[an7,bR7])];simp only[W5 K];exact⟨λ⟨m,⟨a,b,c⟩,d⟩=>⟨a,b,m,c,d⟩,λ⟨a,b,m,c,d⟩=>⟨m,⟨a,b,c⟩,d⟩⟩
def U9(K:Known p):z7 ((b9 p).before l) v=true↔∃b,Mk p l b/\∃m,as4 p upK v m/\as4 p dnK m b:=by
 unfold Bk.before;rw[M3 (ae4 (O1 K)) (by rw[Z8,cn0])];simp only[ab8 K,<-S9 (O1 K)];exact⟨λ⟨m,⟨a,c,d⟩,e⟩=>⟨a,c,m,e,d⟩,λ⟨a,c,m,d,e⟩=>⟨m,⟨a,c,e⟩,d⟩⟩
end
section
variable {p:Pg} {k l k' l':List Int} {a b:Int} {e:Eg} {x:Vx}
def ap7(K:Known p){ks:List Int}(a:e∈(b9 p).all)(b:e.kind∈ks):as4 p ks (D6 (b9 p).wv e.src:Nat) (D6 (b9 p).wv e.dst:Nat):=ad9 K a b
def bf3(p:Pg)(a b:Int):Prop:=∃m,as4 p upK a m/\as4 p dnK m b
def bQ7(K:Known p)(c:Mk p k a)(hb:Mk p l b)(f:bf3 p a b):z7 ((b9 p).chopB k l) a=true/\z7 ((b9 p).chopB k l) b=true:=by
 obtain⟨m,d,e⟩:=f;have g:=B5.1 c.1;have h:=B5.1 hb.1;obtain⟨i,rfl⟩:∃i:Nat,a=(i:Int):=⟨a.toNat,om⟩;obtain⟨j,rfl⟩:∃j:Nat,b=(j:Int):=⟨b.toNat,om⟩;refine⟨(W7 om).2 (.inl ⟨(W5 K).2 ⟨_,c,.refl⟩,(U9 K).2 ⟨_,hb,m,d,e⟩⟩),(W7 om).2 (.inr (.inl ⟨(af0 K).2 ⟨_,c,m,d,e⟩,(ab8 K).2 ⟨_,hb,.refl⟩⟩))⟩
def de2(K:Known p)(a:e∈(b9 p).all)(b:e.kind∈[1,2,3,4,5,6]):bf3 p (D6 (b9 p).wv e.src:Nat) (D6 (b9 p).wv e.dst:Nat):=by
 by_cases h6:e.kind=6
 .exact⟨_,ap7 K a (by simp[upK,h6]),.refl⟩
 .refine⟨_,.refl,ap7 K a ?_⟩;simp only[ek9,en5,es4]at b;simp only[dnK,ek9,en5,es4];omega
end
section
variable {p:Pg}
def aN7(v:Value)(w:World)(hv:SV (i5 w) v p)(hw:C4 p<=1000000):
  y5 prog 24 #[v] w λu k=>(R (i5 k) u (if D4 p then(b9 p).we else[])/\o6 w k):=by
 refine z6 [v] func24 rfl ?_;obtain⟨c,m,e,j,b⟩:=U2 hv (n7 _);obtain⟨z,f,d,_⟩:=b.pg_v;simp only[eH,simprocAttr,e,d m (n7 _)];refine y4 (az9 z p m f hw) ?_;rintro u l ⟨o,q,h⟩;have a:=j.trans h;cases hR:D4 p
 .obtain rfl:=o hR;simp only[eH,simprocAttr,cK6];exact o8 results24 ⟨(B0.nil (i5 l) l 0).rw_ (n7 _),a⟩
 obtain⟨C,g,r,A,B,x,rfl,y,n,t,s⟩:=q hR;simp only[eH,simprocAttr,cK6,s.ld (i:=3) (u:=x.vE) rfl bm3];exact o8 results24 ⟨s.rE,a⟩
end
def nuI(p:Pg)(v:Vx):Int:=((D6 (b9 p).wv v:Nat):Int)
section
variable {p:Pg} {a b v:Vx} {xs ys:List Vx} {k l:List Int} {e:Eg}
def cp0(h:∀u∈xs,u∈(b9 p).wv):O3 (b9 p).wv xs=some (xs.map (nuI p)):=by
 cases e:O3 (b9 p).wv xs with
 | none=>
  obtain⟨u,a,b⟩:=aq5.1 e;exact absurd (h u a) b
 | some l=>rw[(bj2 e).2];rfl
def aV8(a:D4 p=true)(b:∀u∈xs,u∈(b9 p).wv)(c:∀u∈ys,u∈(b9 p).wv):N3 p xs ys=(G6 (b9 p).wv ((b9 p).chopB (xs.map (nuI p)) (ys.map (nuI p))),0):=by
 unfold N3;rw[if_neg (by rw[a];simp),cp0 b,cp0 c]
def cK2(K:Known p):Mk p [nuI p a] (nuI p a):=⟨au9 (O1 K) a,dP⟩
def an2(a:E6 p)(hw:C4 p<=1000000)(hv:v∈(b9 p).wv):v∈G6 (b9 p).wv ((b9 p).chopB k l)↔z7 ((b9 p).chopB k l) (nuI p v)=true:=aB5 (au5 a hw) hv
def ci8(d:D4 p=true)(hw:C4 p<=1000000)(e:a∈(b9 p).wv)(hb:b∈(b9 p).wv)(h:bf3 p (nuI p a) (nuI p b)):∃L,N3 p [a] [b]=(L,0)/\a∈L/\b∈L:=by
 have c:=E9 d;have K:=c.toKnown;obtain⟨f,g⟩:=bQ7 K (cK2 K) (cK2 K) h;exact⟨_,aV8 d (by simpa using e) (by simpa using hb),(an2 c hw e).2 f,(an2 c hw hb).2 g⟩
def cQ2(e:D4 p=true)(hw:C4 p<=1000000)(b:a∈(b9 p).wv):∃L,N3 p [a] [a]=(L,0)/\a∈L:=by
 obtain⟨L,c,d,_⟩:=ci8 e hw b b ⟨_,.refl,.refl⟩;exact⟨L,c,d⟩
def cQ0(a:D4 p=true)(hw:C4 p<=1000000)(b:e∈(b9 p).we):∃L,N3 p [e.src] [e.dst]=(L,0)/\e.src∈L/\e.dst∈L:=by
 obtain⟨c,d⟩:=bz4 a hw b;have f:=cf7 a hw b;exact ci8 a hw c d (de2 (E9 a).toKnown (em4 _ b) (by simp only[ek9,en5,es4];omega))
end
def am2(v:Value)(l:List Vx)(x:Vx)(w:World)(hv:R (i5 w) v l)(X:l.length<=1000000000):
  y5 prog 26 #[v,.agg (p8.cells x).toArray] w λu d=>(u = .bool (l.contains x)/\o6 w d):=by
 refine z6 [v,.agg (p8.cells x).toArray] func26 rfl ?_;have O:=hv.isS;have Q:=hv.vlen;obtain⟨V,U,C,k,o⟩:=bg3 (SV.ofN (i5 w) x) (n7 _);obtain⟨S,z,_,I⟩:=o.vx_v;obtain rfl:=z.N;simp only[eH,simprocAttr,C,O,Q];refine A9 [0,3,6,7] (σ:=Nat) (λi f d=>f 8 = .int .i64 i/\i<=l.length/\(∀j y,j<i->l[j]?=some y->y≠x)/\o6 U d) (λi=>l.length-i) 0 ?_ ?_
 .simp only[B8,simprocAttr];exact⟨tt,ek1 _,λj _ h=>om,p6.refl _⟩
 rintro i f m ⟨e0,K,W,N,_⟩ ⟨B,P,r,A⟩;simp only[eH,simprocAttr,B,N];refine A3 (λg=>?_) ?_;rotate_left
 .rintro rfl;simp only[i4,simprocAttr];refine o8 results26 ?_;simp only[B8,simprocAttr];refine⟨?_,k.trans A⟩;have:l.contains x=false:=by
   rw[et8];intro h;obtain⟨j,D⟩:=es8.1 (ek7.1 h);exact r j x (ej5.1 D).1 D rfl
  rw[this]
 have p:=hv.inS g;have c:=A.trans (o6.drew m);have n:=hv.at_ (i:=i) (x:=l[i]) (ej0 g);have H:A6.sz Vx=4:=rfl;rw[H]at n;obtain⟨Y,F,_,J⟩:=n.vx_v;obtain rfl:=F.N;have L:=J (λd=>o6 m.drew d) m.drew (p6.refl _) λd h=>b7 (k.trans (c.trans h));have M:=I (λd=>o6 m.drew d) m.drew (p6.refl _) λd h=>b7 (c.trans h);have t:=λT a b=>bF0 T a b l[i] x;have q:l[i]=x->l.contains x=true:=λe=>ek7.2 (e ▸ ek0 g);have s:l[i]≠x->∀j y,j<i+1->l[j]?=some y->y≠x:=λE j y D G=>by
  rcases en2 j i with h|h
  .exact r j y h G
  .obtain rfl:j=i:=om
   rw[ej0 g]at G;obtain rfl:=el4 G;exact E
 rcases ej1 (decide (l[i]=x))with hq|hq
 .simp only[i4,simprocAttr,B];refine C0 (λd=>o6 m.drew d) 5 (A7 [0,1,2,3,4]) ?_;simp only[D7,A7,i4,n9,A0,simprocAttr,e0,K,p,L,M];simp only[i4,simprocAttr,S6,p8.cells,t,hq];refine o8 results26 ?_;simp only[B8,simprocAttr];exact⟨by rw[q (ej3 hq)],k.trans c⟩
 .simp only[i4,simprocAttr,B];refine C0 (λd=>o6 m.drew d) 5 (A7 [0,1,2,3,4]) ?_;simp only[D7,A7,i4,n9,A0,simprocAttr,e0,K,p,L,M];simp only[eH,simprocAttr,S6,p8.cells,t,hq,B];exact V1 (i+1) ⟨s (ej6 hq),c⟩
def au0{l:List Vx}(h:0<l.length)(n:Int):am0 l n∈l:=by
 obtain⟨N,b,a⟩:=bi9 n l.length h;unfold am0;rw[b,el5,List.getD,ej0 a];exact ek0 a
def aF0{p:Pg}(v:Value)(m:Int)(w:World)(hv:SV (i5 w) v p)(hw:C4 p<=1000000):
  y5 prog 20 #[v,.int .i64 m] w λu l=>(u = .bool (D4 p&&decide (((bz8 p:Nat):Int)<=m))/\o6 w l):=by
 refine z6 [v,.int .i64 m] func20 rfl ?_;obtain⟨c,k,g,f,d⟩:=U2 hv (n7 _);obtain⟨i,e,b,_⟩:=d.pg_v;simp only[eH,simprocAttr,g,b k (n7 _)];refine B6 (am9 i p k e hw) (λj a=>?_);cases hR:D4 p
 .simp only[i4,simprocAttr];exact o8 results20 ⟨rfl,f.trans a⟩
 simp only[eH,simprocAttr,b j (b7 a)];refine B6 (cN5 i p j (e.mono (b7 a)) hw) (λn h=>?_);simp only[eH,simprocAttr];exact o8 results20 ⟨rfl,(f.trans a).trans h⟩
end Go.Proofs.YtpebpfiglfmegaaGreat
