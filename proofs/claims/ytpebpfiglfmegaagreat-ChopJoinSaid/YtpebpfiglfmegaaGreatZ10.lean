/- chopJoin.proved: for every input the law returns true. No condition. -/
import Derived.Test.YtpebpfiglfmegaaGreatRows
import Derived.Test.YtpebpfiglfmegaaGreatZ8
import Derived.Test.YtpebpfiglfmegaaGreatZ9
set_option maxRecDepth 1000000
set_option maxHeartbeats 8000000
set_option linter.unusedVariables false
set_option linter.unusedSimpArgs false
set_option linter.unnecessarySimpa false
set_option linter.defProp false
namespace Go.Proofs.YtpebpfiglfmegaaGreat
open Go List IntKind Region
def en3{P}{K:Fr->World->Prop}{f:Fr}{w:World}{d:Option Nat}{ty:TypeId}{b:String}{a:Array Edge}{x y:Operand}{c:Array TypeId}:D1 P none ⟨d,.call {callee:=.builtin .copy,args:=#[x,y],argTypes:=c},ty,b,a,none⟩ K f w↔as8 ((Builtin.copy_ c ty #[ev f x,ev f y]).run P w) K f d:=by
 simp[D1,aJ2,al2,bz0,bK7]
def do4{α:Type}{ys:List α}{e y:α}{i}(c:i<=ys.length):((ys++[e]).take (i+1)++((ys++[e]).drop i).take (ys.length-i)).set i y=ys.take i++y::ys.drop i:=by
 have d:((ys++[e]).drop i).take (ys.length-i)=ys.drop i:=by
  rw[List.drop_append_of_le_length c,eJ6 (by rw[eK0];omega),eI0 (by rw[eK0];omega)]
 have a:∃z,(ys++[e]).take (i+1)=ys.take i++[z]:=by
  have b:i<(ys++[e]).length:=by simp;omega
  rw[eD9 b,eJ6 c];exact⟨_,rfl⟩
 obtain⟨z,a⟩:=a;have b:(ys.take i).length=i:=by rw[eE5];omega
 rw[d,a,eG4,List.set_append_right _ _ om,b];simp
section
variable {α:Type} [A9 α] [A0 α] {P:Program} {h:Hp} {w:World} {T:TypeId} {v:Value} {xs:List α}
def dn1(ho:B7 h w T v xs){t t' ty}(ht:P6 P t=some T){B:TypeInfo}(hi:P.info? T=some B)(hs:B.size=A9.sz α){i m}(hm:i+1+m=xs.length):
  ∃C,(Builtin.copy_ #[t,t'] ty #[reS v (i+1) xs.length (A9.sz α),reS v i xs.length (A9.sz α)]).run P w = .ok (goInt m) C/\B7 h C T v (xs.take (i+1)++(xs.drop i).take m)/\t8 (B0 v) w C:=by
 rcases db5 ho with⟨rfl,rfl⟩|⟨b,c,a,rfl,Z,Q,h3,h4,h5,R⟩
 .simp at hm
 have U:=A9.pos (α:=α);have G:¬c=i:=om
 generalize O:A9.sz α=z at *;have al:a.toList.length=a.size:=dG
 have H:xs.length*z<=a.size:=by rw[h5];exact eN1 _ h3
 have r:(i+1)*z+m*z=xs.length*z:=by rw[<-eP3,hm]
 have ag:i*z+m*z+z=xs.length*z:=by rw[<-r,Nat.succ_mul];omega
 have f:∀l:List α,(l.flatMap A0.cells).length=l.length*z:=λl=>by rw[aj4,O]
 have n:((xs.drop i).take m).flatMap A0.cells=(a.toList.drop (i*z)).take (m*z):=by
  have E:xs.flatMap A0.cells=(xs.take i).flatMap A0.cells++((xs.drop i).take m).flatMap A0.cells++((xs.drop i).drop m).flatMap A0.cells:=by rw[<-eN5,<-eN5,eG4,eH8,eH8]
  have W:((xs.take i).flatMap A0.cells).length=i*z:=by rw[f,eE5,eJ7 om]
  have X:(((xs.drop i).take m).flatMap A0.cells).length=m*z:=by rw[f,eE5,eK0,eJ7 om]
  have F:a.toList=xs.flatMap A0.cells++a.toList.drop (xs.length*z):=by rw[<-R,eH8]
  rw[F,E,eG4,eG4,<-W,List.drop_left,<-X,eN4]
 have d:(((xs.drop i).take m).flatMap A0.cells).length=m*z:=by rw[f,eE5,eK0,eJ7 om]
 generalize g:((xs.drop i).take m).flatMap A0.cells=k at n d;have M:reS (.slice (some ⟨b,0,none⟩) xs.length c) i xs.length z = .slice (some ⟨b,i*z,none⟩) (xs.length-i) (c-i):=by
  simp only[reS,fh G,eJ9,add_lit,eH5]
 obtain⟨o,L,y⟩:∃o,reS (.slice (some ⟨b,0,none⟩) xs.length c) (i+1) xs.length z = .slice (some ⟨b,o,none⟩) (xs.length-(i+1)) (c-(i+1))/\(o=(i+1)*z\/(o=0/\m=0)):=by
  simp only[reS];by_cases hc:c=i+1
  .exact⟨0,by rw[fi hc],.inr ⟨rfl,om⟩⟩
  .exact⟨(i+1)*z,by simp only[fh hc,eJ9,add_lit,eH5],.inl rfl⟩
 have p:o+0+k.length<=a.size:=by
  rw[d];rcases y with rfl|⟨rfl,rfl⟩<;>omega
 have A:∀u∈k,u.oneCell'=true:=λu V=>by
  rw[<-g]at V;obtain⟨x,_,hx⟩:=eG1.1 V;exact ad6 x u hx
 have K:(loadCells ⟨b,i*z,none⟩ (m*z)).run P w = .ok k.toArray w:=by
  rw[<-d];refine run_loadCells_list w _ k λj u D=>?_;rw[n]at D;have I:=(eD8.1 D).1;rw[eE5]at I;rw[eM1,fi om,eN3]at D;rw[add_lit,eL6 w b _ a T (0,0) Q,<-eP2];exact D
 obtain⟨C,E,F,Y⟩:=bx2 (P:=P) (T:=T) b o k 0 a w Q p A;have q:Nat.min (xs.length-i) (xs.length-(i+1))=m:=by
  show min _ _=m;omega
 refine⟨C,?_,?_,Y.weaken λ_ _ e=>by subst e;rfl⟩
 .rw[L,M];unfold Builtin.copy_;simp only[List.getElem?_toArray,List.getElem?_cons_zero,List.getElem?_cons_succ,eG2,J6,R7 ht,eF5,Builtin.lenOf,Builtin.firstCells,sizeOf,Q7,hi,hs,q,K,E,eH9]
 .have J:(xs.take (i+1)++(xs.drop i).take m).length=xs.length:=by
   rw[eD4,eE5,eE5,eK0];omega
  have:=bu7 (l:=xs.take (i+1)++(xs.drop i).take m) Z F (by rw[J];omega) h4 ?_ ?_
  .rw[J]at this;exact this
  .simp only[Nat.add_zero,eO0,eD4,eE5,eK0];rw[eQ6,O];omega
  .rw[J,List.toList_toArray,Nat.add_zero,O,eN5,g];have h8:(xs.take (i+1)).flatMap A0.cells=a.toList.take ((i+1)*z):=by
    have S:=eE9 (List.take ((i+1)*z)) R;rw[List.take_take,eJ7 om]at S;have N:xs.flatMap A0.cells=(xs.take (i+1)).flatMap A0.cells++(xs.drop (i+1)).flatMap A0.cells:=by rw[<-eN5,eH8]
    have hf:((xs.take (i+1)).flatMap A0.cells).length=(i+1)*z:=by rw[f,eE5,eJ7 om]
    rw[S,N,<-hf,eN4]
   rw[h8];rcases y with rfl|⟨rfl,rfl⟩
   .rw[eJ6 (by rw[eD4,eE5,d];omega)];exact eI0 (by rw[eD4,eE5,d];omega)
   .have s:k=[]:=List.length_eq_zero_iff.1 (by rw[d];simp);rw[s];simp only[eN9,eL4,eK5,Nat.add_zero,eM9,eG5];rw[show xs.length=i+1 by omega]
end
def dc1{α:Type}{f:α->α->Bool}(g:∀a,f a a=false)(k:∀a b c,f a b=true->f b c=true->f a c=true):∀{l m:List α},l.Pairwise (λa b=>f a b=true)->m.Pairwise (λa b=>f a b=true)->(∀x,x∈l↔x∈m)->l=m
 | [],[],_,_,_=>rfl
 | [],b::m,_,_,h=>by have:=(h b).2 List.mem_cons_self;cases this
 | a::l,[],_,_,h=>by have:=(h a).1 List.mem_cons_self;cases this
 | a::l,b::m,hl,hm,h=>by
  rw[eJ5]at hl hm;have i:a=b:=by
   rcases eF0.1 ((h a).1 List.mem_cons_self)with e|d
   .exact e
   .rcases eF0.1 ((h b).2 List.mem_cons_self)with e|h2
    .exact e.symm
    .have:=k _ _ _ (hm.1 a d) (hl.1 b h2);rw[g]at this;cases this
  subst i;rw[dc1 g k hl.2 hm.2 λx=>?_];have j:=h x;rw[eF0,eF0]at j;constructor
  .intro d;rcases j.1 (.inr d)with rfl|h2
   .have:=hl.1 _ d;rw[g]at this;cases this
   .exact h2
  .intro d;rcases j.2 (.inr d)with rfl|h2
   .have:=hm.1 _ d;rw[g]at this;cases this
   .exact h2
theorem dU7(a:Vx):V6 a a=false:=by rw[bc0,bj2.refl];rfl
def dK8(a b c:Vx)(d:V6 a b=true)(e:V6 b c=true):V6 a c=true:=by
 rw[bc0]at *;have d:=eD3 d;have e:=eD3 e;have f:=bj2.letr (x:=a) (y:=b) (z:=c) om om;apply eG9;rcases Int.lt_or_eq_of_le f with h|h
 .exact h
 .have:=aQ8 h;subst this;have g:=bj2.anti a b;omega
def dU6{a b:Vx}(c:V6 a b=false)(d:a≠b):V6 b a=true:=by
 rw[bc0]at *;have c:=eD6 c;have f:=bj2.anti a b;have:vxC a b≠0:=λe=>d (aQ8 e);exact eG9 om
def dl0{c:List Vx}{e:Vx}{i}(o:c.Pairwise λa b=>V6 a b=true)(v:i<=c.length)(m:∀j (k:j<c.length),i<=j->V6 e c[j]=true)(l:∀j (k:j<c.length),j+1=i->V6 c[j] e=true):(c.take i++e::c.drop i).Pairwise λa b=>V6 a b=true:=by
 have g:=o;rw[<-eH8 i c,List.pairwise_append]at g;obtain⟨p,q,r⟩:=g;have s:∀b∈c.drop i,V6 e b=true:=λb f=>by
  obtain⟨j,k,rfl⟩:=eK1.1 f;rw[List.getElem_drop];exact m _ _ om
 have t:∀a∈c.take i,V6 a e=true:=λa d=>by
  rcases Nat.eq_zero_or_pos i with rfl|u
  .simp at d
  obtain⟨j,k,rfl⟩:=eK1.1 d;rw[eE5]at k;rw[List.getElem_take];have n:=l (i-1) om om;rcases eH4 j (i-1)with h|h
  .exact dK8 _ _ _ (eK4.1 o j (i-1) om om h) n
  .obtain rfl:j=i-1:=om
   exact n
 rw[List.pairwise_append,eJ5];refine⟨p,⟨s,q⟩,λa d b f=>?_⟩;rcases eF0.1 f with rfl|f
 .exact t a d
 .exact r a d b f
def dB9{a:List Vx}{e x:Vx}{i}:x∈a.take i++e::a.drop i↔x∈a\/x=e:=by
 conv=>rhs;rw[<-eH8 i a]
 simp only[eE0,eF0];constructor
 .rintro(h|h|h)
  .exact .inl (.inl h)
  .exact .inr h
  .exact .inl (.inr h)
 .rintro((h|h)|h)
  .exact .inl h
  .exact .inr (.inr h)
  .exact .inr (.inl h)
def bL0(v)(l:List Vx)(w)(hv:R (n8 w) v l)(hl:l.length<=100000000):
  p7 Tryz.prog 57 #[v] w λu G=>(∃c,B7 (n8 w) G 27 u c/\(c.Pairwise λa b=>V6 a b=true)/\(∀e,e∈c↔e∈l)/\o6 w G):=by
 apply y5 [v] Tryz.func57 rfl;have hz:A9.sz Vx=4:=rfl;simp only[eF,simprocAttr,hv.isS,hv.vlen];refine B4 [7,8] (σ:=Nat×Value×List Vx) (λs f G=>f 9=s.1/\f 3=s.2.1/\s.1<=l.length/\B7 (n8 w) G 27 s.2.1 s.2.2/\s.2.2.length<=s.1/\(s.2.2.Pairwise λa b=>V6 a b=true)/\(∀e,e∈s.2.2↔e∈l.take s.1)/\o6 w G) (λs=>l.length-s.1) (0,(),[]) ?_ ?_
 .exact⟨rfl,rfl,eE2 _,B7.nil _ _ _,eE8 _,List.Pairwise.nil,λe=>dG,t8.refl _⟩
 rintro⟨k,uL,c⟩ f w2 ⟨e7,e8,_⟩ ⟨h9,h3,aN,B,aP,J,n,M⟩;simp only at h9 h3 aN B aP J n M;simp only[eF,simprocAttr,h9,e8];refine A7 (λaa=>?_) ?_;rotate_left
 .intro aM;rw[aM,eE4]at n;simp only[i4,simprocAttr,h3];exact o8 Tryz.results57 ⟨c,B,J,n,M⟩
 have aL:=hv.inS aa;obtain⟨sv,ar,an⟩:=G1 (P:=Tryz.prog) (t:=27) hv (b7 M) (eD1 aa) aB7 aB8 av4 R3;rw[R3]at an;have ab:∀x,x∈l.take (k+1)↔x∈c\/x=l[k]:=λx=>by
  rw[eD9 aa,eE0,n,eE7]
 generalize l[k]=e at ar ab;obtain rfl:=ar.N;obtain⟨d,wz,Y,aH,aR,av,aI⟩:=aF4 (w:=w2) (B0 uL) (SV.ofN (n8 w2) e) λb hb=>B.lt hb;obtain⟨aw,ax⟩:=L8.vx_v (SV.ofN (n8 w2) e) aI;have Z:=B6 Y (B0 uL);have o:=M.trans av;have C:=B.ext av;have H:=C.rw_ (b7 o);simp only[i4,n9,A6,simprocAttr,h9,e7,h3,aL,an,aH,aR,C.isS,C.vlen];refine B4 [3,5,7,8,9] (σ:=Nat) (λi f G=>f 6=i/\i<=c.length/\(∀j (hj:j<c.length),i<=j->V6 e c[j]=true)/\o6 Y G) (λi=>i) c.length ?_ ?_
 .exact⟨rfl,eE8 _,λj hj h=>om,t8.refl _⟩
 rintro i f4 Q ⟨g3,g5,g7,g8,g9,_⟩ ⟨h6,r,D,aU⟩;have N:o6 Y Q.drew:=aU.trans (o6.drew Q);have t5:=ax (o6 Q.drew) Q.drew (t8.refl _) λG h=>A3 Z (b7 (N.trans h));simp only[A0.cells]at t5;generalize hK:CW Tryz.prog _ (ai2 1 (aj9 _ _))=K;have X:∀(i:Nat) (S:Fr) (q:World),i<=c.length->(∀j (hj:j<c.length),i<=j->V6 e c[j]=true)->(∀j (hj:j<c.length),j+1=i->V6 e c[j]=false)->o6 Y q->S 3=uL->S 5=d->S 6=i->S 7=f 7->S 8=f 8->S 9=f 9->K S q:=by
  intro i S q r D aK ad a3 a5 a6 a7 a8 a9;rw[<-hK];rw[h9]at a9;rw[e7]at a7;rw[e8]at a8;have g:o6 Y q.drew:=ad.trans (o6.drew q);have t5:=ax (o6 q.drew) q.drew (t8.refl _) λG h=>A3 Z (b7 (g.trans h));simp only[A0.cells]at t5;simp only[i4,simprocAttr];generalize aF:CW Tryz.prog _ (ai2 1 (aj9 _ _))=K2;have F:∀(T:Fr) (w6:World),(∀j (hj:j<c.length),j+1=i->V6 c[j] e=true)->o6 Y w6->T 3=uL->T 5=d->T 6=i->T 7=v->T 8=l.length->T 9=k->K2 T w6:=by
   intro T w6 al E c3 c5 c6 c7 c8 c9;rw[<-aF];have au:=o.trans E;have tv:=aw w6 (A3 Z (b7 E));obtain⟨p1,uM,w7,p2,p3,p4,p5⟩:=push (e:=35) aD8 rfl (C.ext E) (x:=e) (y:=e) (SV.ofN (n8 w) e).enc om om (b7 au);have O:=p3.ext (o6.drew w7);have aG:=O.isS;have ap:=O.vlen;have aJ:=O.vcap;have A:(c++[e]).length=c.length+1:=dG
   rw[A]at ap aJ;obtain⟨m,hm⟩:∃m,i+1+m=(c++[e]).length:=⟨c.length-i,by rw[A];omega⟩;obtain⟨w8,s1,s2,s3⟩:=dn1 (P:=Tryz.prog) (t:=35) (t':=35) (ty:=3) O rfl (B1 be2).choose_spec.1 (by rw[<-F8 (B1 be2).choose_spec.1];exact R3) hm;rw[hz,A]at s1;have aO:m=c.length-i:=by rw[A]at hm;omega
   rw[aO]at s2;have bC:((c++[e]).take (i+1)++((c++[e]).drop i).take (c.length-i)).length=c.length+1:=by
    rw[eD4,eE5,eE5,eK0,A];omega
   obtain⟨w9,q1,q2,q3⟩:=bn4 (P:=Tryz.prog) (t:=27) s2 av4 R3 (k:=i) om e;rw[do4 r]at q2;have am:=s2.inS (k:=i) om;have bg:=E.size;have U:t8 (B0 uL) Y w8:=((t8.up E).trans p4).chain ((t8.up (o6.drew w7)).trans s3) λb hb hu=>(p5 b hu).resolve_right om;have ao:t8 (B0 uL) Y w9:=U.chain q3 λb hb hu=>(p5 b hu).resolve_right om;have az:=aw w8 (F5 U);have c1:decide (((i+1:Nat):Int)<=((c.length+1:Nat):Int))=true:=by simp;omega
   have c2:decide (((c.length+1:Nat):Int)<=(vcap uM:Int))=true:=by simp;omega
   have c4:decide ((i:Int)<=((c.length+1:Nat):Int))=true:=by simp;omega
   have aT:IntKind.i64.wrap ((i:Int)+1)=((i+1:Nat):Int):=I9 i;rw[hz]at q1;simp only[A0.cells]at tv az p1 p2 q1;simp only[i4,simprocAttr,c3,c5,tv,p1,p2];refine C4 (o6 w7.drew) 7 (A8 [0,1,2,3,4,5,6]) ?_;simp only[D7,A8,i4,n9,G7,simprocAttr,c6,aG,ap,aT,c1,c2,c4];simp only[i4,n9,A6,simprocAttr,s1,c5,c6,c9,az,am,q1];refine nx4 (k+1,uM,c.take i++e::c.drop i) ⟨q2,?_,dl0 J r D al,λx=>?_,?_⟩
   .simp only[eD4,eG6,eE5,eK0];omega
   .simp only[];rw[ab,dB9]
   .exact t8.ext_of o ao λb hb=>D4 (B.free hb)
  rcases Nat.eq_zero_or_pos i with rfl|h0
  .have aV:decide ((0:Int)<((0:Nat):Int))=false:=dG
   refine C4 (o6 q.drew) 9 (A8 [0,1,2,3,4,5,6,7,8]) ?_;simp only[D7,A8,i4,n9,A6,simprocAttr,a6];refine F _ _ (λj hj h=>om) g ?_ ?_ ?_ ?_ ?_ ?_<;>(simp only[C9,simprocAttr];assumption)
  obtain⟨j,rfl⟩:∃j,i=j+1:=⟨i-1,om⟩;have ae:decide ((0:Int)<((j+1:Nat):Int))=true:=dG
  have L:IntKind.i64.wrap (((j+1:Nat):Int)-1)=(j:Int):=by rw[N7 _ om];omega
  have p:j<c.length:=om
  have z:=H.inS p;obtain⟨ux,ac,_,tx⟩:=(H.at_ (eD1 p)).vx_v;obtain rfl:=ac.N;have t6:=tx (o6 q.drew) q.drew (t8.refl _) λG h=>b7 (g.trans h);rw[hz]at t6;simp only[A0.cells]at t6;have aq:=λw0 a b=>bA7 w0 a b c[j] e;refine C4 (o6 q.drew) 9 (A8 [0,1,2,3,4,5,6,7,8]) ?_;simp only[D7,A8,i4,n9,A6,simprocAttr,a3,a5,a6,ae,L,z,t5,t6];rcases eD2 (decide (c[j]=e))with hq|hq
  .have aQ:=eD3 hq;simp only[eF,simprocAttr,T8,aq,hq,a3,a9];refine nx4 (k+1,uL,c) ⟨(C.ext g),so,J,λx=>?_,o.trans g⟩;simp only[];rw[ab];constructor
   .exact .inl
   .rintro(h|rfl)
    .exact h
    .rw[<-aQ];exact eE1 p
  .simp only[i4,simprocAttr,T8,aq,hq];refine F _ _ (λW I h=>?_) g ?_ ?_ ?_ ?_ ?_ ?_
   .obtain rfl:W=j:=om
    exact dU6 (aK W I rfl) λh=>eD6 hq h.symm
   all_goals (simp only[C9,simprocAttr];assumption)
 rcases Nat.eq_zero_or_pos i with rfl|h0
 .have aV:decide ((0:Int)<((0:Nat):Int))=false:=dG
  simp only[i4,simprocAttr];refine C4 (o6 Q.drew) 9 (A8 [0,1,2,3,4,5,6,7,8]) ?_;simp only[D7,A8,i4,n9,A6,simprocAttr,h6];refine X 0 _ _ r D (λj hj h=>om) N ?_ ?_ ?_ ?_ ?_ ?_<;>simp only[C9,simprocAttr]
  all_goals first|assumption|(rw[g3];exact h3)
 obtain⟨j,rfl⟩:∃j,i=j+1:=⟨i-1,om⟩;have ae:decide ((0:Int)<((j+1:Nat):Int))=true:=dG
 have L:IntKind.i64.wrap (((j+1:Nat):Int)-1)=(j:Int):=by rw[N7 _ om];omega
 have p:j<c.length:=om
 have z:=H.inS p;obtain⟨ux,ac,_,tx⟩:=(H.at_ (eD1 p)).vx_v;obtain rfl:=ac.N;have t6:=tx (o6 Q.drew) Q.drew (t8.refl _) λG h=>b7 (N.trans h);rw[hz]at t6;simp only[A0.cells]at t6;have hL:=cG1 e c[j] Q.drew;simp only[A0.cells]at hL;simp only[i4,simprocAttr];refine C4 (o6 Q.drew) 9 (A8 [0,1,2,3,4,5,6,7,8]) ?_;simp only[D7,A8,i4,n9,A6,simprocAttr,h6,g3,h3,g5,ae,L,z,t5,t6];refine B3 hL (λq ad=>?_);have V:=N.trans ad;rcases eD2 (V6 e c[j])with hq|hq
 .simp only[eF,simprocAttr,hq,h6,L];refine U5 j ⟨λW I h=>?_,V⟩;rcases eH4 j W with h2|h2
  .exact D W I h2
  .obtain rfl:W=j:=om
   exact hq
 .simp only[i4,simprocAttr,hq];refine X (j+1) _ _ r D (λW I h=>?_) V ?_ ?_ ?_ ?_ ?_ ?_
  .obtain rfl:W=j:=om
   exact hq
  all_goals simp only[C9,simprocAttr]
  all_goals first|assumption|(rw[g3];exact h3)
def ec0(w){va vb}{xs ys:List Vx}(r:R (n8 w) va xs)(hb:R (n8 w) vb ys)(u:xs.length<=1000000)(v:ys.length<=1000000):
  ∃k g l i m j,(Instr.buildSlice 35 0 #[]).run Tryz.prog w = .ok k g/\(Builtin.append_ #[35,35] 35 #[k,va]).run Tryz.prog g = .ok l i /\
   (Builtin.append_ #[35,35] 35 #[l,vb]).run Tryz.prog i = .ok m j/\B7 (n8 w) j 27 m (xs++ys)/\o6 w g/\o6 w i/\o6 w j:=by
 obtain⟨k,g,n,f,c,_⟩:=ec6 (P:=Tryz.prog) (w:=w) (h:=n8 w) (α:=Vx) aD8 (n7 _);obtain⟨l,i,s,a,o,_⟩:=W6 (P:=Tryz.prog) (e:=35) aD8 rfl f r (by simp;omega) (by simp;omega) (b7 c);have d:=f.ext2 c o;rw[eL4]at a;obtain⟨m,j,t,q,p,_⟩:=W6 (P:=Tryz.prog) (e:=35) aD8 rfl a hb om om (b7 d);exact⟨k,g,l,i,m,j,n,s,t,q,c,d,t8.ext_of d p λb hb=>D4 (a.free hb)⟩
def cF8(va vb)(xs ys:List Vx)(w)(k:R (n8 w) va xs)(hb:R (n8 w) vb ys)(i:xs.length<=1000000)(j:ys.length<=1000000):
  p7 Tryz.prog 21 #[va,vb] w λu h=>(∃c:List Vx,R (n8 h) u c/\(c.Pairwise λa b=>V6 a b=true)/\(∀e,e∈c↔e∈xs\/e∈ys)/\o6 w h):=by
 apply y5 [va,vb] Tryz.func21 rfl;obtain⟨s,v,t,x,q,r,n,o,p,l,_,_,d⟩:=ec0 w k hb i j;simp only[eF,simprocAttr,n,o,p];apply z6 (bL0 q (xs++ys) r (l.rw_ (b7 d)) (by rw[eD4];omega));rintro u y ⟨c,g,m,hm,f⟩;simp only[i4,simprocAttr];exact o8 Tryz.results21 ⟨c,g.rw_ (b7 f),m,λe=>by rw[hm,eE0],d.trans f⟩
def cx6{p}{xs ys:List Vx}:∀v∈(P5 p xs ys).1,v∈(b9 p).wv:=λv a=>by
 unfold P5 at a;split at a
 .simp at a
 .split at a
  .exact ad9 a
  .simp at a
def eb5{p}{L:List Vx}(a:L.Pairwise λu v=>V6 u v=true)(h:∀v∈L,v∈(b9 p).wv):L.length<=(b9 p).wv.length:=J5 (a.imp λh=>cC7 h) h
def ca0(v:Value)(p:Pg)(i j k m:Int)(w:World)(hv:SV (n8 w) v p):p7 Tryz.prog 4 #[v,i,j,k,m] w λu w'=>(u=true/\o6 w w'):=by
 apply y5 [v,i,j,k,m] Tryz.func4 rfl;obtain⟨c,w1,bv,ag,aP⟩:=L3 hv (n7 _);obtain⟨sp,z,d,_⟩:=aP.pg_v;simp only[eF,simprocAttr,bv];refine B3 (aA1 w1) (λw2 ah=>?_);simp only[eF,simprocAttr,d w2 (b7 ah)];refine B3 (az6 sp p w2 (z.mono (b7 ah))) (λw3 bz=>?_);have o:=ah.trans bz;rcases eD2 (decide (C1 p<=20000))with G|G;rotate_left
 .simp only[eF,simprocAttr,G];exact o8 Tryz.results4 ⟨rfl,ag.trans o⟩
 have T:C1 p<=1000000:=eD7 (eD3 G) dR;simp only[eF,simprocAttr,G,d w3 (b7 o)];refine B3 (aL7 sp 16 w3 (z.mono (b7 o)) T) (λw4 bA=>?_);have q:=o.trans bA;rcases eD2 (C8 p&&decide (((bi8 p:Nat):Int)<=16))with g|g;rotate_left
 .simp only[eF,simprocAttr,g];exact o8 Tryz.results4 ⟨rfl,ag.trans q⟩
 have hR:C8 p=true:=by rw[eF1]at g;exact g.1
 have hr:=D6 hR;have cb:=ah0 hr T;have n:=J3 hr.toKnown;simp only[eF,simprocAttr,g,d w4 (b7 q)];apply z6 (S8 sp w4 (z.mono (b7 q)) T);rintro uv w5 ⟨M,bB⟩;rw[fi hR]at M;have a0:=q.trans bB;simp only[i4,simprocAttr];refine B3 (S7 uv (b9 p).wv i w5 M om) (λw6 a3=>?_);simp only[i4,simprocAttr];refine B3 (S7 uv (b9 p).wv j w6 (A9.mono (b7 a3) M) om) (λw7 bC=>?_);have ha:=aB2 n i;have hb:=aB2 n j;have hc:=aB2 n k;have hd:=aB2 n m;generalize ar4 (b9 p).wv i=A at ha;generalize ar4 (b9 p).wv j=B at hb;obtain⟨da,db,wz,wa,wb,w8,aD,aE,aT,aU,bD,aJ,aK⟩:=vx2 A B w7;obtain⟨uA,hA,a8,_⟩:=aJ.vx_v;obtain rfl:=hA.N;obtain⟨uB,hB,ldB,_⟩:=aK.vx_v;obtain rfl:=hB.N;have J:=(a3.trans bC).trans bD;simp only[i4,simprocAttr,aD,aE,aT,aU];refine B3 (S7 uv (b9 p).wv k w8 (A9.mono (b7 J) M) om) (λw9 a4=>?_);simp only[i4,simprocAttr];refine B3 (S7 uv (b9 p).wv m w9 (A9.mono (b7 (J.trans a4)) M) om) (λwA bE=>?_);generalize ar4 (b9 p).wv k=C at hc;generalize ar4 (b9 p).wv m=D at hd;obtain⟨dc,dd,c9,wc,wd,wB,aF,aG,aV,aW,bF,aL,aM⟩:=vx2 C D wA;obtain⟨uC,hC,am,_⟩:=aL.vx_v;obtain rfl:=hC.N;obtain⟨uD,hD,a9,_⟩:=aM.vx_v;obtain rfl:=hD.N;have s:=(a4.trans bE).trans bF;have I:=(a0.trans J).trans s;obtain⟨u1,wC,q1,r1,aj⟩:=bg2 A B wB;obtain⟨u2,wD,q2,r2,a5⟩:=bg2 C D wC;have ax:=aj.trans a5;have ab:∀u∈[A,B],u∈(b9 p).wv:=by simp[ha,hb]
 have ad:∀u∈[C,D],u∈(b9 p).wv:=by simp[hc,hd]
 obtain⟨L,eL,sL,mL⟩:=cM2 hR T ab ad;have eN:=dw0 (p:=p) (ys:=[C]) hR T (by simpa using hc);simp only[i4,simprocAttr,aF,aG,aV,aW,d wB (b7 I),a8 wB (b7 s),ldB wB (b7 s),q1,am wC (b7 aj),a9 wC (b7 aj),q2];apply z6 (ab9 sp u1 u2 [A,B] [C,D] wD (z.mono (b7 (I.trans ax))) T (A9.mono (b7 a5) r1) r2 dG dG);rintro _ wE ⟨ul,rfl,rl,nl,bG⟩;rw[eL]at rl nl;simp only[]at rl nl;have ac:=ax.trans bG;have aw:=s.trans ac;have a1:=I.trans ac;obtain⟨u3,wF,q3,r3,ak⟩:=bg2 A B wE;obtain⟨XS,aC⟩:∃X,X=[A,B]:=⟨_,rfl⟩;obtain⟨V,af⟩:∃Y,Y=[C,D]:=⟨_,rfl⟩;have cy:XS.length=2:=by rw[aC];rfl
 have cA:V.length=2:=by rw[af];rfl
 rw[<-aC]at r3 ab mL;rw[<-af]at ad mL;simp only[eF,simprocAttr,a8 wE (b7 aw),ldB wE (b7 aw),q3,r3.isS,r3.vlen];refine B4 [5,14,15,16,17,62,63] (σ:=Nat×Value×List Vx) (λt f w'=>f 64=t.1/\f 18=t.2.1/\t.1<=XS.length/\R (n8 w') t.2.1 t.2.2/\(t.2.2.Pairwise λu v=>V6 u v=true)/\(∀v,v∈t.2.2↔∃x∈XS.take t.1,∃y∈V,v∈(P5 p [x] [y]).1)/\o6 wF w') (λt=>XS.length-t.1) (0,(),[]) ?_ ?_
 .exact⟨rfl,rfl,eE2 _,N5,List.Pairwise.nil,λv=>dG,t8.refl _⟩
 rintro⟨a,u4,W⟩ f wG ⟨e5,ar,bl,bm,au,bn,bo,_⟩ ⟨N,aa,bt,r4,s4,m4,K⟩;simp only at N aa bt r4 s4 m4;rw[eL]at au;have r:=(a1.trans ak).trans K;have ay:=(ac.trans ak).trans K;simp only[eF,simprocAttr,N,bo];refine A7 (λP=>?_) ?_;rotate_left
 .rintro rfl;rw[eE4]at m4;have e1:decide (L=W)=true:=eG9 (dc1 dU7 dK8 sL s4 λv=>(mL v).trans (m4 v).symm);obtain⟨u5,wH,q5,r5,e⟩:=ad4 C wG;simp only[i4,simprocAttr,e5,ar,d wG (b7 r),am wG (b7 ay),q5];apply z6 (ab9 sp () u5 [] [C] wH (z.mono (b7 (r.trans e))) T N5 r5 dG dG);rintro _ wI ⟨un,rfl,rn,_,E⟩;rw[eN]at rn;simp only[eN];have bs:=ak.trans K;simp only[eF,simprocAttr,bm,au,aa];refine B3 (cF9 ul u4 L W wI (A9.mono (b7 ((bs.trans e).trans E)) rl) (A9.mono (b7 (e.trans E)) r4) om) (λwJ F=>?_);have bd:R (n8 wJ) un ([]:List Vx):=A9.mono (b7 F) rn;simp only[eF,simprocAttr,e1,bd.isS,bd.vlen,eK5];exact o8 Tryz.results4 ⟨rfl,ag.trans (((r.trans e).trans E).trans F)⟩
 have hg:=eD1 P;have bJ:=ab _ (eE1 P);have aZ:=eD9 P;have bx:=r3.inS P;have aS:=bt7 r3 (b7 K) hg;generalize XS[a]=X at hg bJ aZ aS;obtain⟨dX,de,wH,aH,aX,e,aN⟩:=ao6 (SV.ofN (n8 wG) X) (n7 _);obtain⟨uX,hX,bL,_⟩:=aN.vx_v;obtain rfl:=hX.N;obtain⟨u6,wI,q6,r6,E⟩:=bg2 C D wH;rw[<-af]at r6;have az:=ay.trans e;have an:=A9.mono (b7 (e.trans E)) r4;have an:R (n8 wI) u4 W:=an;simp only[i4,n9,A6,simprocAttr,N,ar,bl,bn,bx,aS,aH,aX,am wH (b7 az),a9 wH (b7 az),q6,r6.isS,r6.vlen];refine B4 [5,14,15,16,17,20,62,63,64,70,71] (σ:=Nat×Value×List Vx) (λt f w'=>f 72=t.1/\f 18=t.2.1/\t.1<=V.length/\R (n8 w') t.2.1 t.2.2/\(t.2.2.Pairwise λu v=>V6 u v=true)/\(∀v,v∈t.2.2↔(∃x∈XS.take a,∃y∈V,v∈(P5 p [x] [y]).1)\/∃y∈V.take t.1,v∈(P5 p [X] [y]).1)/\o6 wI w') (λt=>V.length-t.1) (0,u4,W) ?_ ?_
 .exact⟨rfl,aa,eE2 _,an,s4,λv=>by rw[m4];simp,t8.refl _⟩
 rintro⟨b,u7,Z⟩ f2 wJ ⟨g5,cn,co,cp,cq,bp,cr,cs,av,bq,br,_⟩ ⟨O,H,bu,r7,s7,m7,F⟩;simp only at O H bu r7 s7 m7;rw[e5]at g5;rw[N]at av;have ae:=E.trans F;have a2:=(r.trans e).trans ae;simp only[eF,simprocAttr,O,br];refine A7 (λl=>?_) ?_;rotate_left
 .rintro rfl;rw[eE4]at m7;simp only[eF,simprocAttr,av];refine nx4 (a+1,u7,Z) ⟨r7,s7,λv=>?_,(K.trans e).trans ae⟩ (c:=H);simp only[aZ,eE0,eE7];rw[m7];constructor
  .rintro(⟨x,G,g⟩|h)
   .exact⟨x,.inl G,g⟩
   .exact⟨X,.inr rfl,h⟩
  .rintro⟨x,G|rfl,g⟩
   .exact .inl ⟨x,G,g⟩
   .exact .inr g
 have aQ:=eD1 l;have bK:=ad _ (eE1 l);have S:=eD9 l;have aR:=r6.inS l;have Q:=bt7 r6 (b7 F) aQ;generalize V[b]=Y at aQ bK S Q;obtain⟨dY,df,wK,aI,aY,al,aO⟩:=ao6 (SV.ofN (n8 wJ) Y) (n7 _);obtain⟨uY,hY,bM,_⟩:=aO.vx_v;obtain rfl:=hY.N;have U:=a2.trans al;obtain⟨u8,wM,q8,r8,a6⟩:=ad4 X wK;obtain⟨u9,wN,q9,r9,a7⟩:=ad4 Y wM;have aB:=a6.trans a7;simp only[i4,n9,A6,simprocAttr,O,g5,bp,bq,aR,Q,aI,aY,d wK (b7 U),bL wK (b7 (ae.trans al)),q8,bM wM (b7 a6),q9];apply z6 (ab9 sp u8 u9 [X] [Y] wN (z.mono (b7 (U.trans aB))) T (A9.mono (b7 a7) r8) r9 dG dG);rintro _ wO ⟨uo,rfl,ro,no,bH⟩;have aA:=(al.trans aB).trans bH;have hZ:=eb5 s7 λv hv=>by
  rcases(m7 v).1 hv with⟨_,_,_,_,h⟩|⟨_,_,h⟩
  .exact cx6 v h
  .exact cx6 v h
 simp only[i4,simprocAttr,H];apply z6 (cF8 u7 uo Z (P5 p [X] [Y]).1 wO (A9.mono (b7 aA) r7) ro om om);rintro bW wP ⟨Z2,bP,bT,bN,bI⟩;simp only[eF,simprocAttr,O];refine nx4 (b+1,bW,Z2) ⟨bP,bT,λv=>?_,(F.trans aA).trans bI⟩;simp only[S,eE0,eE7];rw[bN,m7];constructor
 .rintro((h|⟨y,G,g⟩)|h)
  .exact .inl h
  .exact .inr ⟨y,.inl G,g⟩
  .exact .inr ⟨Y,.inr rfl,h⟩
 .rintro(h|⟨y,G|rfl,g⟩)
  .exact .inl (.inl h)
  .exact .inl (.inr ⟨y,G,g⟩)
  .exact .inr g
end Go.Proofs.YtpebpfiglfmegaaGreat
namespace Go.Proofs.YtpebpfiglfmegaaGreat.chopJoin
open Go Go.ChangeShapes Go.WideShapes Go.ChangeAt Go.RowKit
def aI5:laidOutB Tryz.prog=true:=kr
def Z1:∀t∈Tryz.f4.params.toList,Tryz.prog.readableRec t=true/\t<Tryz.prog.types.size:=by
 rw[Tryz.params4];decide +kernel
set_option maxRecDepth 100000 in
def lifted(r:Os)(c:r.Started)(H:Type)(enc:TypeId×Value->H):
  ReturnsInHanded {} Tryz.checked r 4 .any (Rows.chopJoinSpec.pre6 enc Tryz.prog Tryz.f4 Rows.chopJoinRow.domain false) (Rows.chopJoinSpec.post enc Tryz.prog Tryz.f4 false true false false):=by
 refine returnsInHanded_of_change (C:=Tryz.checked) own c kr Tryz.func4
  (ChangeSpec.witness6 (enc:=enc) (C:=Tryz.checked) false ⟨#[],#[.agg #[.slice none 0 0,.slice none 0 0],.int .i64 0,.int .i64 0,.int .i64 0,.int .i64 0],[]⟩ 8 kr kr kr kr) ?_
 intro W d args F gs i b n o _;have a:∀(j:Nat) t v,Tryz.f4.params[j]?=some t->args[j]?=some v->Value.okWide Tryz.prog W .any d t v:=b;have h:=n;obtain⟨p,q,f,R,rfl,T,V⟩:=n;have k:DataW.TrodAll enc Tryz.prog W 0 (λ_=>true) true Tryz.f4.params.toList args.toList F p:=f;have g:=k;rw[Tryz.params4]at k a;obtain⟨s,ad,d0,G,p0,q0,l,rfl,rfl,M,Y⟩:=trodAll_cons k;obtain⟨w,ae,d1,I,p1,q1,rfl,rfl,rfl,N,Z⟩:=trodAll_cons Y;obtain⟨x,af,d2,J,p2,q2,rfl,rfl,rfl,O,r2⟩:=trodAll_cons Z;obtain⟨y,ag,d3,K,p3,q3,rfl,rfl,rfl,P,r3⟩:=trodAll_cons r2;obtain⟨z,ah,d4,L,p4,q4,rfl,rfl,rfl,Q,r4⟩:=trodAll_cons r3;obtain⟨rfl,rfl,rfl⟩:=trodAll_nil r4;obtain rfl:args=#[s,w,x,y,z]:=by cases args;simp_all
 obtain⟨rfl,rfl⟩:=trodVars_none R;obtain⟨x0,m⟩:=aZ1 M;obtain⟨A,rfl,rfl,rfl,w1⟩:=open_int Tryz.underlying3 (a 1 3 w rfl rfl) N;obtain⟨B,rfl,rfl,rfl,w2⟩:=open_int Tryz.underlying3 (a 2 3 x rfl rfl) O;obtain⟨D,rfl,rfl,rfl,w3⟩:=open_int Tryz.underlying3 (a 3 3 y rfl rfl) P;obtain⟨E,rfl,rfl,rfl,w4⟩:=open_int Tryz.underlying3 (a 4 3 z rfl rfl) Q;clear f b;simp only[List.append_nil]at h g;refine(ca0 s x0 A B D E W m).mono λe W' ⟨u,S,X,U⟩=>?_;subst S;subst X;exact⟨_,rfl,aB3 aI5 Z1 rfl h g rfl rfl (λ_ _ _=>(trodAll_cons_mk (shut_bool Tryz.underlying4 _) trodAll_mk0)) U⟩
def kM:mapsRowed Tryz.prog=true:=kr
def kI:(Rows.chopJoinRow.inPlace==Tryz.prog.inPlace 4)=true:=kr
def kU:(Rows.chopJoinRow.unfollowed==Tryz.prog.unfollowed 4)=true:=kr
def kR:(Rows.chopJoinRow.recurses==Tryz.prog.recurses 4)=true:=kr
def kN:(Rows.chopJoinRow.named==Tryz.prog.varsNamed 4)=true:=kr
def kS:Tryz.prog.stopsHeard=true:=kr
def kE:Tryz.prog.mayEnter=true:=kr
def kL:(Rows.chopJoinRow.lifted==Tryz.prog.liftsFinal)=true:=kr
def kK:(Tryz.prog.make==some Rows.chopJoinRow.make)=true:=kr
def closed:joinedFacts Tryz.prog 4 Tryz.f4 Rows.chopJoinSpec Rows.chopJoinRow=true:=by
 unfold joinedFacts;rw[aI5,kM,kI,kU,kR,kN,kS,kE,kL,kK]
 kernel_rfl
def bn2:Rows.chopJoinRow.holds Tryz.pinned (OpenSpec.ofChange Rows.chopJoinSpec):=
 OpenClaim.holds_of_wide 4 Tryz.f4 rfl rfl rfl rfl rfl rfl rfl ⟨rfl,rfl,rfl,rfl,rfl⟩ rfl rfl rfl rfl rfl kr Tryz.func4 closed
  (of_decide_eq_true kr) (by unfold Func.isWrapper;first|(rw[fi (by decide +kernel)];kernel_rfl)|(rw[fh (by decide +kernel)];exact⟨rfl,rfl⟩))
  (λc a H b _=>lifted c a H b)
theorem proved:Rows.ChopJoinSaid:=bn2
end Go.Proofs.YtpebpfiglfmegaaGreat.chopJoin
