/- sliceJoin.proved: for every input the law returns true. No condition. -/
import Derived.Test.YtggahhenbbgffaaGreatRows
import Derived.Test.YtggahhenbbgffaaGreatZ7
import Derived.Test.YtggahhenbbgffaaGreatZ8
set_option maxRecDepth 1000000
set_option maxHeartbeats 8000000
set_option linter.unusedVariables false
set_option linter.unusedSimpArgs false
set_option linter.unnecessarySimpa false
set_option linter.defProp false
namespace Go.Proofs.YtggahhenbbgffaaGreat
open Go 
section
open Go.ChangeShapes Go.WideShapes Go.ChangeAt Go.RowKit
section
variable {H:Type} {enc:TypeId×Value->H} {P:Program} {W:World} {v:Value} {d:DataW H} {ps:List MemPlace} {t:TypeId} {base:Nat} {sp:Nat->Bool} {held:Bool}
def cM6{e:TypeId}{g:Nat}(j:P.underlying t=some (.slice e))(f:Value.okWide P W .any g t v)(h:DataW.Trod enc P W base sp held t v d ps):
  ∃b,DataW.trod enc P W base sp held b t [v]=some (d,ps):=by
 obtain⟨a,n,c,rfl⟩:=okWide_slice j f;obtain⟨b,i⟩:=h;exact⟨b,by simpa[Value.cells]using i⟩
def bA2{e:TypeId}{z:Nat}(w:P.underlying t=some (.slice e))(C:P.underlying e=some (.int .i64))(B:P.cellsOf e=1)(i:Value.okWide P W .any z t v)(h:DataW.Trod enc P W base sp held t v d ps):
  ∃y:List Int,R (m8 W) v y/\∀n∈y,(Lit.int .i64 n).wf=true:=by
 obtain⟨n,g⟩:=cM6 w i h;rcases open_ints w C B g with⟨f,_⟩|⟨a,b,l,s,f,_,p,_,r,_,c,q⟩
 .simp only[eq9,and_true]at f;subst f;exact⟨[],⟨none,0,0,rfl,rfl,eg6 _,[],rfl,λj u k=>by simp at k⟩,λn g=>by cases g⟩
 .simp only[eq9,and_true]at f;subst f;have D:b<=s.length:=by rw[r];split<;>omega
  refine⟨s.take b,⟨some a,b,l,rfl,by rw[eg0];omega,p,(s.take b).map λn=>.int .i64 n,G4.2 rfl,λj u k=>⟨a,rfl,?_⟩⟩,λn g=>q n (em8 g)⟩;rw[ei9]at k;obtain⟨x,m,A⟩:=Option.map_eq_some_iff.1 k;have o:=(ef6.1 m).1;rw[eg0]at o;rw[List.getElem?_take_of_lt (by omega)]at m;have:=c j (by omega);rw[al0]at this;rw[this,<-A];simp[List.getD,m]
end
end
def dP5{P:Program}{K:Fr->World->Prop}{f:Fr}{w:World}{d:Option Nat}{ty:TypeId}{b:String}{a:Array Edge}{x y:Operand}{c:Array TypeId}:B5 P none ⟨d,.call {callee:=.builtin .copy,args:=#[x,y],argTypes:=c},ty,b,a,none⟩ K f w↔ak7 ((Builtin.copy_ c ty #[ev f x,ev f y]).run P w) K f d:=by
 simp[B5,ay9,ad7,bk6,bw4]
def cU5{α:Type}{ys:List α}{e y:α}{i:Nat}(c:i<=ys.length):((ys++[e]).take (i+1)++((ys++[e]).drop i).take (ys.length-i)).set i y=ys.take i++y::ys.drop i:=by
 have d:((ys++[e]).drop i).take (ys.length-i)=ys.drop i:=by
  rw[List.drop_append_of_le_length c,el9 (by rw[el6];omega),ej5 (by rw[el6];omega)]
 have a:∃z,(ys++[e]).take (i+1)=ys.take i++[z]:=by
  have b:i<(ys++[e]).length:=by simp;omega
  rw[ef8 b,el9 c];exact⟨_,rfl⟩
 obtain⟨z,a⟩:=a;have b:(ys.take i).length=i:=by rw[eg0];omega
 rw[d,a,ei0,List.set_append_right _ _ (by omega),b];simp
section
variable {α:Type} [A3 α] [p8 α] {P:Program} {h:Hp} {w:World} {T:TypeId} {v:Value} {xs:List α}
def cT2(ho:B0 h w T v xs){t t' ty:TypeId}(ht:M9 P t=some T){B:TypeInfo}(hi:P.info? T=some B)(hs:B.size=A3.sz α){i m:Nat}(hm:i+1+m=xs.length):
  ∃C,(Builtin.copy_ #[t,t'] ty #[reS v (i+1) xs.length (A3.sz α),reS v i xs.length (A3.sz α)]).run P w = .ok (goInt m) C/\B0 h C T v (xs.take (i+1)++(xs.drop i).take m)/\o8 (A0 v) w C:=by
 rcases cI3 ho with⟨rfl,rfl⟩|⟨b,c,a,rfl,Z,Q,h3,h4,h5,R⟩
 .simp at hm
 have U:=A3.pos (α:=α);have G:¬c=i:=by omega
 generalize O:A3.sz α=z at *;have al:a.toList.length=a.size:=by simp
 have H:xs.length*z<=a.size:=by rw[h5];exact eo2 _ h3
 have r:(i+1)*z+m*z=xs.length*z:=by rw[<-er2,hm]
 have ag:i*z+m*z+z=xs.length*z:=by rw[<-r,Nat.succ_mul];omega
 have f:∀l:List α,(l.flatMap p8.cells).length=l.length*z:=λl=>by rw[ac4,O]
 have n:((xs.drop i).take m).flatMap p8.cells=(a.toList.drop (i*z)).take (m*z):=by
  have E:xs.flatMap p8.cells=(xs.take i).flatMap p8.cells++((xs.drop i).take m).flatMap p8.cells++((xs.drop i).drop m).flatMap p8.cells:=by rw[<-eo8,<-eo8,ei0,ej2,ej2]
  have W:((xs.take i).flatMap p8.cells).length=i*z:=by rw[f,eg0,el2 (by omega)]
  have X:(((xs.drop i).take m).flatMap p8.cells).length=m*z:=by rw[f,eg0,el6,el2 (by omega)]
  have F:a.toList=xs.flatMap p8.cells++a.toList.drop (xs.length*z):=by rw[<-R,ej2]
  rw[F,E,ei0,ei0,<-W,List.drop_left,<-X,eo6]
 have d:(((xs.drop i).take m).flatMap p8.cells).length=m*z:=by rw[f,eg0,el6,el2 (by omega)]
 generalize g:((xs.drop i).take m).flatMap p8.cells=k at n d;have M:reS (.slice (some ⟨b,0,none⟩) xs.length c) i xs.length z = .slice (some ⟨b,i*z,none⟩) (xs.length-i) (c-i):=by
  simp only[reS,if_neg G,el5,add_lit,ej1]
 obtain⟨o,L,y⟩:∃o,reS (.slice (some ⟨b,0,none⟩) xs.length c) (i+1) xs.length z = .slice (some ⟨b,o,none⟩) (xs.length-(i+1)) (c-(i+1))/\(o=(i+1)*z\/(o=0/\m=0)):=by
  simp only[reS];by_cases hc:c=i+1
  .exact⟨0,by rw[if_pos hc],.inr ⟨rfl,by omega⟩⟩
  .exact⟨(i+1)*z,by simp only[if_neg hc,el5,add_lit,ej1],.inl rfl⟩
 have p:o+0+k.length<=a.size:=by
  rw[d];rcases y with rfl|⟨rfl,rfl⟩<;>omega
 have A:∀u∈k,u.oneCell'=true:=λu V=>by
  rw[<-g]at V;obtain⟨x,_,hx⟩:=ei7.1 V;exact U5 x u hx
 have K:(loadCells ⟨b,i*z,none⟩ (m*z)).run P w = .ok k.toArray w:=by
  rw[<-d];refine run_loadCells_list w _ k λj u D=>?_;rw[n]at D;have I:=(ef6.1 D).1;rw[eg0]at I;rw[en1,if_pos (by omega),eo3]at D;rw[add_lit,en2 w b _ a T (0,0) Q,<-er1];exact D
 obtain⟨C,E,F,Y⟩:=bi9 (P:=P) (T:=T) b o k 0 a w Q p A;have q:Nat.min (xs.length-i) (xs.length-(i+1))=m:=by
  show min _ _=m;omega
 refine⟨C,?_,?_,Y.weaken λ_ _ e=>by subst e;rfl⟩
 .rw[L,M];unfold Builtin.copy_;simp only[List.getElem?_toArray,List.getElem?_cons_zero,List.getElem?_cons_succ,eh7,H4,O4 ht,eg9,Builtin.lenOf,Builtin.firstCells,sizeOf,N3,hi,hs,q,K,E,ej3]
 .have J:(xs.take (i+1)++(xs.drop i).take m).length=xs.length:=by
   rw[ef4,eg0,eg0,el6];omega
  have:=bg5 (l:=xs.take (i+1)++(xs.drop i).take m) Z F (by rw[J];omega) h4 ?_ ?_
  .rw[J]at this;exact this
  .simp only[Nat.add_zero,ep3,ef4,eg0,el6];rw[es4,O];omega
  .rw[J,List.toList_toArray,Nat.add_zero,O,eo8,g];have h8:(xs.take (i+1)).flatMap p8.cells=a.toList.take ((i+1)*z):=by
    have S:=eg8 (List.take ((i+1)*z)) R;rw[List.take_take,el2 (by omega)]at S;have N:xs.flatMap p8.cells=(xs.take (i+1)).flatMap p8.cells++(xs.drop (i+1)).flatMap p8.cells:=by rw[<-eo8,ej2]
    have hf:((xs.take (i+1)).flatMap p8.cells).length=(i+1)*z:=by rw[f,eg0,el2 (by omega)]
    rw[S,N,<-hf,eo6]
   rw[h8];rcases y with rfl|⟨rfl,rfl⟩
   .rw[el9 (by rw[ef4,eg0,d];omega)];exact ej5 (by rw[ef4,eg0,d];omega)
   .have s:k=[]:=List.length_eq_zero_iff.1 (by rw[d];simp);rw[s];simp only[ep6,ep1,em2,Nat.add_zero,en9,ei5];rw[show xs.length=i+1 by omega]
end
def ca2{α:Type}{f:α->α->Bool}(g:∀a,f a a=false)(k:∀a b c,f a b=true->f b c=true->f a c=true):∀{l m:List α},l.Pairwise (λa b=>f a b=true)->m.Pairwise (λa b=>f a b=true)->(∀x,x∈l↔x∈m)->l=m
 | [],[],_,_,_=>rfl
 | [],b::m,_,_,h=>by have:=(h b).2 List.mem_cons_self;cases this
 | a::l,[],_,_,h=>by have:=(h a).1 List.mem_cons_self;cases this
 | a::l,b::m,hl,hm,h=>by
  rw[el0]at hl hm;have i:a=b:=by
   rcases eh0.1 ((h a).1 List.mem_cons_self)with e|d
   .exact e
   .rcases eh0.1 ((h b).2 List.mem_cons_self)with e|h2
    .exact e.symm
    .have:=k _ _ _ (hm.1 a d) (hl.1 b h2);rw[g]at this;cases this
  subst i;rw[ca2 g k hl.2 hm.2 λx=>?_];have j:=h x;rw[eh0,eh0]at j;constructor
  .intro d;rcases j.1 (.inr d)with rfl|h2
   .have:=hl.1 _ d;rw[g]at this;cases this
   .exact h2
  .intro d;rcases j.2 (.inr d)with rfl|h2
   .have:=hm.1 _ d;rw[g]at this;cases this
   .exact h2
theorem cK1(a:Vx):S9 a a=false:=by rw[aQ8,aX0.refl];rfl
def cC3(a b c:Vx)(d:S9 a b=true)(e:S9 b c=true):S9 a c=true:=by
 rw[aQ8]at *;have d:=ef3 d;have e:=ef3 e;have f:=aX0.letr (x:=a) (y:=b) (z:=c) (by omega) (by omega);refine ek5 ?_;rcases Int.lt_or_eq_of_le f with h|h
 .exact h
 .have:=aG2 h;subst this;have g:=aX0.anti a b;omega
def dy0{a b:Vx}(c:S9 a b=false)(d:a≠b):S9 b a=true:=by
 rw[aQ8]at *;have c:=ef7 c;have f:=aX0.anti a b;have:vxC a b≠0:=λe=>d (aG2 e);exact ek5 (by omega)
def cR3{c:List Vx}{e:Vx}{i:Nat}(o:c.Pairwise λa b=>S9 a b=true)(v:i<=c.length)(m:∀j (k:j<c.length),i<=j->S9 e c[j]=true)(l:∀j (k:j<c.length),j+1=i->S9 c[j] e=true):(c.take i++e::c.drop i).Pairwise λa b=>S9 a b=true:=by
 have g:=o;rw[<-ej2 i c,List.pairwise_append]at g;obtain⟨p,q,r⟩:=g;have s:∀b∈c.drop i,S9 e b=true:=λb f=>by
  obtain⟨j,k,rfl⟩:=em3.1 f;rw[List.getElem_drop];exact m _ _ (by omega)
 have t:∀a∈c.take i,S9 a e=true:=λa d=>by
  rcases Nat.eq_zero_or_pos i with rfl|u
  .simp at d
  obtain⟨j,k,rfl⟩:=em3.1 d;rw[eg0]at k;rw[List.getElem_take];have n:=l (i-1) (by omega) (by omega);rcases ej6 j (i-1)with h|h
  .exact cC3 _ _ _ (em0.1 o j (i-1) (by omega) (by omega) h) n
  .obtain rfl:j=i-1:=by omega
   exact n
 rw[List.pairwise_append,el0];refine⟨p,⟨s,q⟩,λa d b f=>?_⟩;rcases eh0.1 f with rfl|f
 .exact t a d
 .exact r a d b f
def df8{a:List Vx}{e x:Vx}{i:Nat}:x∈a.take i++e::a.drop i↔x∈a\/x=e:=by
 conv=>rhs;rw[<-ej2 i a]
 simp only[eg1,eh0];constructor
 .rintro(h|h|h)
  .exact .inl (.inl h)
  .exact .inr h
  .exact .inl (.inr h)
 .rintro((h|h)|h)
  .exact .inl h
  .exact .inr (.inr h)
  .exact .inr (.inl h)
def bw8(v:Value)(l:List Vx)(w:World)(hv:R (m8 w) v l)(hl:l.length<=100000000):
  o9 Tryz.prog 54 #[v] w λu g=>(∃c,B0 (m8 w) g 26 u c/\(c.Pairwise λa b=>S9 a b=true)/\(∀e,e∈c↔e∈l)/\o6 w g):=by
 refine p9 [v] Tryz.func54 rfl ?_;have hz:A3.sz Vx=4:=rfl;simp only[i5,n9,simprocAttr,hv.isS,hv.vlen];refine A6 [7,8] (σ:=Nat×Value×List Vx) (λs f g=>f 9 = .int .i64 s.1/\f 3=s.2.1/\s.1<=l.length/\B0 (m8 w) g 26 s.2.1 s.2.2/\s.2.2.length<=s.1/\(s.2.2.Pairwise λa b=>S9 a b=true)/\(∀e,e∈s.2.2↔e∈l.take s.1)/\o6 w g) (λs=>l.length-s.1) (0,.slice none 0 0,[]) ?_ ?_
 .exact⟨rfl,rfl,eg3 _,B0.nil _ _ _,eg6 _,List.Pairwise.nil,λe=>by simp,o8.refl _⟩
 rintro⟨k,uL,c⟩ f w2 ⟨e7,e8,_⟩ ⟨h9,h3,aN,C,aP,J,o,M⟩;simp only at h9 h3 aN C aP J o M;simp only[i5,n9,simprocAttr,h9,e8];refine y5 (λaa=>?_) ?_;rotate_left
 .intro aM;rw[aM,eg4]at o;simp only[i5,simprocAttr,h3];exact o7 Tryz.results54 ⟨c,C,J,o,M⟩
 have aL:=hv.inS aa;obtain⟨sv,ar,an⟩:=F5 (P:=Tryz.prog) (t:=26) hv (b7 M) (ef1 aa) ar8 as0 am4 N6;rw[N6]at an;have ab:∀x,x∈l.take (k+1)↔x∈c\/x=l[k]:=λx=>by
  rw[ef8 aa,eg1,o,eh2]
 generalize l[k]=e at ar ab;obtain rfl:=ar.N;obtain⟨d,wz,Y,aH,aR,av,aI⟩:=ap9 (w:=w2) (A0 uL) (SV.ofN (m8 w2) e) λb hb=>C.lt hb;obtain⟨aw,ax⟩:=I6.vx_v (SV.ofN (m8 w2) e) aI;have Z:=A8 Y (A0 uL);have p:=M.trans av;have D:=C.ext av;have H:=D.rw_ (b7 p);simp only[i5,n9,y4,simprocAttr,h9,e7,h3,aL,an,aH,aR,D.isS,D.vlen];refine A6 [3,5,7,8,9] (σ:=Nat) (λi f g=>f 6 = .int .i64 i/\i<=c.length/\(∀j (hj:j<c.length),i<=j->S9 e c[j]=true)/\o6 Y g) (λi=>i) c.length ?_ ?_
 .exact⟨rfl,eg6 _,λj hj h=>by omega,o8.refl _⟩
 rintro i f4 Q ⟨g3,g5,g7,g8,g9,_⟩ ⟨h6,z,E,aU⟩;have N:o6 Y Q.drew:=aU.trans (o6.drew Q);have t5:=ax (λg=>o6 Q.drew g) Q.drew (o8.refl _) λg h=>p7 Z (b7 (N.trans h));simp only[p8.cells]at t5;generalize hK:CW Tryz.prog _ (aa5 1 (ad0 _ _))=K;have X:∀(i:Nat) (S:Fr) (r:World),i<=c.length->(∀j (hj:j<c.length),i<=j->S9 e c[j]=true)->(∀j (hj:j<c.length),j+1=i->S9 e c[j]=false)->o6 Y r->S 3=uL->S 5 = .pointer (some d)->S 6 = .int .i64 i->S 7=f 7->S 8=f 8->S 9=f 9->K S r:=by
  intro i S r z E aK ad a3 a5 a6 a7 a8 a9;rw[<-hK];rw[h9]at a9;rw[e7]at a7;rw[e8]at a8;have n:o6 Y r.drew:=ad.trans (o6.drew r);have t5:=ax (λg=>o6 r.drew g) r.drew (o8.refl _) λg h=>p7 Z (b7 (n.trans h));simp only[p8.cells]at t5;simp only[i5,simprocAttr];generalize aF:CW Tryz.prog _ (aa5 1 (ad0 _ _))=K2;have G:∀(T:Fr) (w6:World),(∀j (hj:j<c.length),j+1=i->S9 c[j] e=true)->o6 Y w6->T 3=uL->T 5 = .pointer (some d)->T 6 = .int .i64 i->T 7=v->T 8 = .int .i64 l.length->T 9 = .int .i64 k->K2 T w6:=by
   intro T w6 al F c3 c5 c6 c7 c8 c9;rw[<-aF];have au:=p.trans F;have tv:=aw w6 (p7 Z (b7 F));obtain⟨p1,uM,w7,p2,p3,p4,p5⟩:=push (e:=22) at7 rfl (D.ext F) (x:=.agg (p8.cells e).toArray) (y:=e) (SV.ofN (m8 w) e).enc (by omega) (by omega) (b7 au);have O:=p3.ext (o6.drew w7);have aG:=O.isS;have ap:=O.vlen;have aJ:=O.vcap;have B:(c++[e]).length=c.length+1:=by simp
   rw[B]at ap aJ;obtain⟨m,hm⟩:∃m,i+1+m=(c++[e]).length:=⟨c.length-i,by rw[B];omega⟩;obtain⟨w8,s1,s2,s3⟩:=cT2 (P:=Tryz.prog) (t:=22) (t':=22) (ty:=3) O rfl (z7 aS3).choose_spec.1 (by rw[<-E1 (z7 aS3).choose_spec.1];exact N6) hm;rw[hz,B]at s1;have aO:m=c.length-i:=by rw[B]at hm;omega
   rw[aO]at s2;have bC:((c++[e]).take (i+1)++((c++[e]).drop i).take (c.length-i)).length=c.length+1:=by
    rw[ef4,eg0,eg0,el6,B];omega
   obtain⟨w9,q1,q2,q3⟩:=bb1 (P:=Tryz.prog) (t:=26) s2 am4 N6 (k:=i) (by omega) e;rw[cU5 z]at q2;have am:=s2.inS (k:=i) (by omega);have bg:=F.size;have U:o8 (A0 uL) Y w8:=((o8.up F).trans p4).chain ((o8.up (o6.drew w7)).trans s3) λb hb hu=>(p5 b hu).resolve_right (by omega);have ao:o8 (A0 uL) Y w9:=U.chain q3 λb hb hu=>(p5 b hu).resolve_right (by omega);have az:=aw w8 (D8 U);have c1:decide (((i+1:Nat):Int)<=((c.length+1:Nat):Int))=true:=by simp;omega
   have c2:decide (((c.length+1:Nat):Int)<=(vcap uM:Int))=true:=by simp;omega
   have c4:decide ((i:Int)<=((c.length+1:Nat):Int))=true:=by simp;omega
   have aT:IntKind.i64.wrap ((i:Int)+1)=((i+1:Nat):Int):=H8 i;rw[hz]at q1;simp only[p8.cells]at tv az p1 p2 q1;simp only[i5,simprocAttr,c3,c5,tv,p1,p2];refine B9 (λg=>o6 w7.drew g) 7 (A5 [0,1,2,3,4,5,6]) ?_;simp only[D0,A5,i5,n9,J0,simprocAttr,c6,aG,ap,aT,c1,c2,c4];simp only[i5,n9,y4,simprocAttr,s1,c5,c6,c9,az,am,q1];refine nx4 (k+1,uM,c.take i++e::c.drop i) ⟨q2,?_,cR3 J z E al,λx=>?_,?_⟩
   .simp only[ef4,ei2,eg0,el6];omega
   .simp only[];rw[ab,df8]
   .exact o8.ext_of p ao λb hb=>D1 (C.free hb)
  rcases Nat.eq_zero_or_pos i with rfl|h0
  .have aV:decide ((0:Int)<((0:Nat):Int))=false:=by simp
   refine B9 (λg=>o6 r.drew g) 9 (A5 [0,1,2,3,4,5,6,7,8]) ?_;simp only[D0,A5,i5,n9,y4,simprocAttr,a6];refine G _ _ (λj hj h=>by omega) n ?_ ?_ ?_ ?_ ?_ ?_<;>(simp only[B3,simprocAttr];assumption)
  obtain⟨j,rfl⟩:∃j,i=j+1:=⟨i-1,by omega⟩;have ae:decide ((0:Int)<((j+1:Nat):Int))=true:=by simp
  have L:IntKind.i64.wrap (((j+1:Nat):Int)-1)=(j:Int):=by rw[M2 _ (by omega)];omega
  have q:j<c.length:=by omega
  have A:=H.inS q;obtain⟨ux,ac,_,tx⟩:=(H.at_ (ef1 q)).vx_v;obtain rfl:=ac.N;have t6:=tx (λg=>o6 r.drew g) r.drew (o8.refl _) λg h=>b7 (n.trans h);rw[hz]at t6;simp only[p8.cells]at t6;have aq:=λw0 a b=>bl8 w0 a b c[j] e;refine B9 (λg=>o6 r.drew g) 9 (A5 [0,1,2,3,4,5,6,7,8]) ?_;simp only[D0,A5,i5,n9,y4,simprocAttr,a3,a5,a6,ae,L,A,t5,t6];rcases ef2 (decide (c[j]=e))with hq|hq
  .have aQ:=ef3 hq;simp only[i5,n9,simprocAttr,L8,aq,hq,a3,a9];refine nx4 (k+1,uL,c) ⟨(D.ext n),by simp only[];omega,J,λx=>?_,p.trans n⟩;simp only[];rw[ab];constructor
   .exact .inl
   .rintro(h|rfl)
    .exact h
    .rw[<-aQ];exact eg2 q
  .simp only[i5,simprocAttr,L8,aq,hq];refine G _ _ (λW I h=>?_) n ?_ ?_ ?_ ?_ ?_ ?_
   .obtain rfl:W=j:=by omega
    exact dy0 (aK W I rfl) λh=>ef7 hq h.symm
   all_goals (simp only[B3,simprocAttr];assumption)
 rcases Nat.eq_zero_or_pos i with rfl|h0
 .have aV:decide ((0:Int)<((0:Nat):Int))=false:=by simp
  simp only[i5,simprocAttr];refine B9 (λg=>o6 Q.drew g) 9 (A5 [0,1,2,3,4,5,6,7,8]) ?_;simp only[D0,A5,i5,n9,y4,simprocAttr,h6];refine X 0 _ _ z E (λj hj h=>by omega) N ?_ ?_ ?_ ?_ ?_ ?_<;>simp only[B3,simprocAttr]
  all_goals first|assumption|(rw[g3];exact h3)
 obtain⟨j,rfl⟩:∃j,i=j+1:=⟨i-1,by omega⟩;have ae:decide ((0:Int)<((j+1:Nat):Int))=true:=by simp
 have L:IntKind.i64.wrap (((j+1:Nat):Int)-1)=(j:Int):=by rw[M2 _ (by omega)];omega
 have q:j<c.length:=by omega
 have A:=H.inS q;obtain⟨ux,ac,_,tx⟩:=(H.at_ (ef1 q)).vx_v;obtain rfl:=ac.N;have t6:=tx (λg=>o6 Q.drew g) Q.drew (o8.refl _) λg h=>b7 (N.trans h);rw[hz]at t6;simp only[p8.cells]at t6;have hL:=cm7 e c[j] Q.drew;simp only[p8.cells]at hL;simp only[i5,simprocAttr];refine B9 (λg=>o6 Q.drew g) 9 (A5 [0,1,2,3,4,5,6,7,8]) ?_;simp only[D0,A5,i5,n9,y4,simprocAttr,h6,g3,h3,g5,ae,L,A,t5,t6];refine B2 hL (λr ad=>?_);have V:=N.trans ad;rcases ef2 (S9 e c[j])with hq|hq
 .simp only[i5,n9,simprocAttr,hq,h6,L];refine T4 j ⟨λW I h=>?_,V⟩;rcases ej6 j W with h2|h2
  .exact E W I h2
  .obtain rfl:W=j:=by omega
   exact hq
 .simp only[i5,simprocAttr,hq];refine X (j+1) _ _ z E (λW I h=>?_) V ?_ ?_ ?_ ?_ ?_ ?_
  .obtain rfl:W=j:=by omega
   exact hq
  all_goals simp only[B3,simprocAttr]
  all_goals first|assumption|(rw[g3];exact h3)
def cw9(w:World){r s:Value}{xs ys:List Vx}(t:R (m8 w) r xs)(hb:R (m8 w) s ys)(x:xs.length<=1000000)(y:ys.length<=1000000):
  ∃k g l i m j,(Instr.buildSlice 22 0 #[]).run Tryz.prog w = .ok k g/\(Builtin.append_ #[22,22] 22 #[k,r]).run Tryz.prog g = .ok l i /\
   (Builtin.append_ #[22,22] 22 #[l,s]).run Tryz.prog i = .ok m j/\B0 (m8 w) j 26 m (xs++ys)/\o6 w g/\o6 w i/\o6 w j:=by
 obtain⟨k,g,n,f,c,_⟩:=dF5 (P:=Tryz.prog) (w:=w) (h:=m8 w) (α:=Vx) at7 (n7 _);obtain⟨l,i,u,a,o,_⟩:=W2 (P:=Tryz.prog) (e:=22) at7 rfl f t (by simp;omega) (by simp;omega) (b7 c);have d:=f.ext2 c o;rw[ep1]at a;obtain⟨m,j,v,q,p,_⟩:=W2 (P:=Tryz.prog) (e:=22) at7 rfl a hb (by omega) (by omega) (b7 d);exact⟨k,g,l,i,m,j,n,u,v,q,c,d,o8.ext_of d p λb hb=>D1 (a.free hb)⟩
def bu3(h i:Value)(xs ys:List Vx)(w:World)(m:R (m8 w) h xs)(hb:R (m8 w) i ys)(k:xs.length<=1000000)(l:ys.length<=1000000):
  o9 Tryz.prog 25 #[h,i] w λu j=>(∃c:List Vx,R (m8 j) u c/\(c.Pairwise λa b=>S9 a b=true)/\(∀e,e∈c↔e∈xs\/e∈ys)/\o6 w j):=by
 refine p9 [h,i] Tryz.func25 rfl ?_;obtain⟨v,y,x,z,s,t,p,q,r,n,_,_,d⟩:=cw9 w m hb k l;simp only[i5,n9,simprocAttr,p,q,r];refine t8 (bw8 s (xs++ys) t (n.rw_ (b7 d)) (by rw[ef4];omega)) ?_;rintro u A ⟨c,g,o,hm,f⟩;simp only[i5,simprocAttr];exact o7 Tryz.results25 ⟨c,g.rw_ (b7 f),o,λe=>by rw[hm,eg1],d.trans f⟩
section
variable {p:Pg} {by_:List Int} {l:List Vx}
def bS2(h:0<l.length):∀v∈aB2 l by_,v∈l:=by
 unfold aB2;intro v a;split at a
 .simp at a
 .obtain⟨i,_,rfl⟩:=eh4.1 a;exact aR2 h i
def bF9:(aB2 l by_).length<=3:=by
 unfold aB2;split
 .simp
 .rw[eg5,eg0];omega
def bN2(a:D3 p)(hw:B7 p<=1000000)(S:List Bool):(E8 (i4 p).wv S).Pairwise λu v=>S9 u v=true:=ck0 (cK5 a hw) S
end
def bz5(v:Value)(p:Pg)(vb:Value)(lb:List Int)(vm:Value)(lm:List Int)(w:World)(hv:SV (m8 w) v p)(az:R (m8 w) vb lb)(aA:R (m8 w) vm lm):o9 Tryz.prog 5 #[v,vb,vm] w λu s=>(u = .bool true/\o6 w s):=by
 refine p9 [v,vb,vm] Tryz.func5 rfl ?_;obtain⟨c,w1,aw,o,S⟩:=Q4 hv (n7 _);obtain⟨C,g,a,H⟩:=S.pg_v;simp only[i5,n9,simprocAttr,aw];refine B2 (az5 w1) (λw2 I=>?_);simp only[i5,n9,simprocAttr,a w2 (b7 I)];refine B2 (aN3 C p w2 (g.mono (b7 I))) (λw3 aB=>?_);have j:=I.trans aB;rcases ef2 (decide (B7 p<=20000))with h1|h1;rotate_left
 .simp only[i5,n9,simprocAttr,h1];exact o7 Tryz.results5 ⟨rfl,o.trans j⟩
 have i:B7 p<=1000000:=ef9 (ef3 h1) (by decide);simp only[i5,n9,simprocAttr,h1,a w3 (b7 j)];refine B2 (aR9 C 25 w3 (g.mono (b7 j)) i) (λw4 aC=>?_);have k:=j.trans aC;rcases ef2 (E0 p&&decide (((bB0 p:Nat):Int)<=25))with h2|h2;rotate_left
 .simp only[i5,n9,simprocAttr,h2];exact o7 Tryz.results5 ⟨rfl,o.trans k⟩
 have D:E0 p=true:=by rw[eh5]at h2;exact h2.1
 have y:=G6 D;have bc:=at1 y i;have E:=ag5 y.toKnown;simp only[i5,n9,simprocAttr,h2,a w4 (b7 k)];refine t8 (R7 C w4 (g.mono (b7 k)) i) ?_;rintro uv w5 ⟨M,aD⟩;rw[if_pos D]at M;have q:=k.trans aD;simp only[i5,simprocAttr];refine t8 (aX7 uv vb (i4 p).wv lb w5 M (A3.mono (b7 (o.trans q)) az) (by omega)) ?_;rintro ux w6 ⟨rx,J⟩;simp only[i5,simprocAttr];refine t8 (aX7 uv vm (i4 p).wv lm w6 (A3.mono (b7 J) M) (A3.mono (b7 ((o.trans q).trans J)) aA) (by omega)) ?_;rintro uy w7 ⟨ry,U⟩;have B:=A3.mono (b7 U) rx;have b:=(q.trans J).trans U;have mx:=bS2 (by_:=lb) E;have my:=bS2 (by_:=lm) E;have fx:=bF9 (by_:=lb) (l:=(i4 p).wv);have fy:=bF9 (by_:=lm) (l:=(i4 p).wv);generalize aB2 (i4 p).wv lb=X at rx B mx fx;generalize aB2 (i4 p).wv lm=Y at ry my fy;obtain⟨lX,nX,_⟩:=ai8 y i mx;obtain⟨lY,nY,_⟩:=ai8 y i my;obtain⟨lZ,nZ,_⟩:=ai8 (vs:=X++Y) y i (λv hv=>(eg1.1 hv).elim (mx v) (my v));have bX:=bx4 D nX;have bY:=bx4 D nY;have bZ:=bx4 D nZ;have gX:=bX6 D nX;have gY:=bX6 D nY;have gZ:=bX6 D nZ;have jb:=λv=>cM7 (v:=v) y i nX nY nZ;have jf:=λv=>cP8 (v:=v) y i nX nY nZ;have sb:=bN2 y i ((i4 p).backB lZ);have sf:=bN2 y i ((i4 p).forwB lZ);generalize E8 (i4 p).wv ((i4 p).backB lX)=BX at bX jb;generalize E8 (i4 p).wv ((i4 p).backB lY)=BY at bY jb;generalize E8 (i4 p).wv ((i4 p).backB lZ)=BZ at bZ jb sb;generalize E8 (i4 p).wv ((i4 p).forwB lX)=FX at gX jf;generalize E8 (i4 p).wv ((i4 p).forwB lY)=FY at gY jf;generalize E8 (i4 p).wv ((i4 p).forwB lZ)=FZ at gZ jf sf;clear nX nY nZ;simp only[i5,simprocAttr,a w7 (b7 b)];refine t8 (K6 C ux X w7 (g.mono (b7 b)) i B (by omega)) ?_;rintro _ w8 ⟨ua,rfl,ra,na,z⟩;rw[bX]at ra na;simp only[]at ra na;simp only[i5,simprocAttr,a w8 (b7 (b.trans z))];refine t8 (K6 C uy Y w8 (g.mono (b7 (b.trans z))) i (A3.mono (b7 z) ry) (by omega)) ?_;rintro _ N ⟨ub,rfl,rb,nb,V⟩;rw[bY]at rb nb;simp only[]at rb nb;have m:=(z.trans V).trans (o6.drew N);have G:=b.trans m;obtain⟨c0,wc0,c1,b3,c2,a0,aK,aL,aM,ax,ab,ac,e⟩:=cw9 N.drew (A3.mono (b7 m) B) (A3.mono (b7 m) ry) (by omega) (by omega);have t1:=H (λs=>o6 N.drew s) N.drew (o8.refl _) λs h=>b7 (G.trans h);simp only[i5,simprocAttr];refine B9 (λs=>o6 N.drew s) 11 (A5 [0,2,4,1,3,5,6,7,8,9,10]) ?_;simp only[D0,A5,i5,simprocAttr,t1,aK];refine⟨ab,?_⟩;simp only[D0,i5,simprocAttr,aL];refine⟨ac,?_⟩;simp only[D0,i5,simprocAttr,aM];refine⟨e,?_⟩;simp only[D0,i5,simprocAttr];have T:(X++Y).length<=1000000:=by rw[ef4];omega
 refine t8 (K6 C c2 (X++Y) a0 (g.mono (b7 (G.trans e))) i (ax.rw_ (b7 e)) T) ?_;rintro _ wD ⟨uc,rfl,rc,nc,K⟩;rw[bZ]at rc nc;simp only[]at rc nc;refine⟨e.trans K,?_⟩;have r:=(m.trans e).trans K;have d:=b.trans r;have al:=A3.mono (b7 r) B;have am:=A3.mono (b7 r) ry;simp only[D0,i5,simprocAttr];simp only[i5,simprocAttr,a wD (b7 d)];refine t8 (N5 C ux X wD (g.mono (b7 d)) i al (by omega)) ?_;rintro _ wE ⟨ud,rfl,rd,nd,A⟩;rw[gX]at rd nd;simp only[]at rd nd;simp only[i5,simprocAttr,a wE (b7 (d.trans A))];refine t8 (N5 C uy Y wE (g.mono (b7 (d.trans A))) i (A3.mono (b7 A) am) (by omega)) ?_;rintro _ O ⟨ue,rfl,re,ne,W⟩;rw[gY]at re ne;simp only[]at re ne;have n:=(A.trans W).trans (o6.drew O);have F:=d.trans n;obtain⟨d0,b4,d1,b5,d2,a1,aN,aO,aP,ay,ad,ae,f⟩:=cw9 O.drew (A3.mono (b7 n) al) (A3.mono (b7 n) am) (by omega) (by omega);have t2:=H (λs=>o6 O.drew s) O.drew (o8.refl _) λs h=>b7 (F.trans h);simp only[i5,simprocAttr];refine B9 (λs=>o6 O.drew s) 11 (A5 [0,2,4,1,3,5,6,7,8,9,10]) ?_;simp only[D0,A5,i5,simprocAttr,t2,aN];refine⟨ad,?_⟩;simp only[D0,i5,simprocAttr,aO];refine⟨ae,?_⟩;simp only[D0,i5,simprocAttr,aP];refine⟨f,?_⟩;simp only[D0,i5,simprocAttr];refine t8 (N5 C d2 (X++Y) a1 (g.mono (b7 (F.trans f))) i (ay.rw_ (b7 f)) T) ?_;rintro _ wG ⟨uf,rfl,rf,nf,L⟩;rw[gZ]at rf nf;simp only[]at rf nf;refine⟨f.trans L,?_⟩;simp only[D0,i5,simprocAttr];have P:=((o6.drew N).trans e).trans K;have t:=(n.trans f).trans L;have Q:=((o6.drew O).trans f).trans L;have av:=W.trans Q;refine t8 (bu3 ua ub BX BY wG (A3.mono (b7 ((V.trans P).trans t)) ra) (A3.mono (b7 (P.trans t)) rb) (by omega) (by omega)) ?_;rintro ug wH ⟨O1,aQ,aY,aG,Z⟩;have e1:decide (BZ=O1)=true:=ek5 (ca2 cK1 cC3 sb aY λv=>(jb v).trans (aG v).symm);simp only[i5,simprocAttr];refine B2 (bu4 uc ug BZ O1 wH (A3.mono (b7 (t.trans Z)) rc) aQ (by omega)) (λwI aE=>?_);have x:=Z.trans aE;simp only[i5,simprocAttr,e1];refine t8 (bu3 ud ue FX FY wI (A3.mono (b7 (av.trans x)) rd) (A3.mono (b7 (Q.trans x)) re) (by omega) (by omega)) ?_;rintro ui wJ ⟨O2,aR,aZ,aH,aa⟩;have e2:decide (FZ=O2)=true:=ek5 (ca2 cK1 cC3 sf aZ λv=>(jf v).trans (aH v).symm);simp only[i5,simprocAttr];refine B2 (bu4 uf ui FZ O2 wJ (A3.mono (b7 (x.trans aa)) rf) aR (by omega)) (λwK aF=>?_);simp only[i5,simprocAttr,e2];exact o7 Tryz.results5 ⟨rfl,((((o.trans d).trans t).trans x).trans aa).trans aF⟩
end Go.Proofs.YtggahhenbbgffaaGreat
namespace Go.Proofs.YtggahhenbbgffaaGreat.sliceJoin
open Go Go.ChangeShapes Go.WideShapes Go.ChangeAt Go.RowKit
def bf3:laidOutB Tryz.prog=true:=by kernel_rfl
def al8:∀t∈Tryz.f5.params.toList,Tryz.prog.readableRec t=true/\t<Tryz.prog.types.size:=by
 rw[Tryz.params5];decide +kernel
set_option maxRecDepth 100000 in
def lifted(y:Os)(c:y.Started)(H:Type)(enc:TypeId×Value->H):
  ReturnsInHanded {} Tryz.checked y 5 .any (Rows.sliceJoinSpec.pre6 enc Tryz.prog Tryz.f5 Rows.sliceJoinRow.domain false) (Rows.sliceJoinSpec.post enc Tryz.prog Tryz.f5 false true false false):=by
 refine returnsInHanded_of_change (C:=Tryz.checked) own c (by kernel_rfl) Tryz.func5
  (ChangeSpec.witness6 (enc:=enc) (C:=Tryz.checked) false ⟨#[],#[.agg #[.slice none 0 0,.slice none 0 0],.slice none 0 0,.slice none 0 0],[]⟩ 8 (by kernel_rfl) (by kernel_rfl) (by kernel_rfl) (by kernel_rfl)) ?_
 intro W d args A gs i b w x _;have a:∀(j:Nat) t v,Tryz.f5.params[j]?=some t->args[j]?=some v->Value.okWide Tryz.prog W .any d t v:=b;have h:=w;obtain⟨p,q,f,J,rfl,L,N⟩:=w;have k:DataW.TrodAll enc Tryz.prog W 0 (λ_=>true) true Tryz.f5.params.toList args.toList A p:=f;have g:=k;rw[Tryz.params5]at k a;obtain⟨z,S,d0,B,p0,q0,l,rfl,rfl,F,P⟩:=trodAll_cons k;obtain⟨r,T,d1,D,p1,q1,rfl,rfl,rfl,G,Q⟩:=trodAll_cons P;obtain⟨s,U,d2,E,p2,q2,rfl,rfl,rfl,I,R⟩:=trodAll_cons Q;obtain⟨rfl,rfl,rfl⟩:=trodAll_nil R;obtain rfl:args=#[z,r,s]:=by cases args;simp_all
 obtain⟨rfl,rfl⟩:=trodVars_none J;obtain⟨V,m⟩:=bA3 F;obtain⟨X,n,w1⟩:=bA2 Tryz.underlying24 Tryz.underlying3 (by kernel_rfl) (a 1 24 r rfl rfl) G;obtain⟨Y,o,w2⟩:=bA2 Tryz.underlying24 Tryz.underlying3 (by kernel_rfl) (a 2 24 s rfl rfl) I;clear f b;simp only[List.append_nil]at h g;refine(bz5 z V r X s Y W m n o).mono λe Z ⟨u,K,O,M⟩=>?_;subst K;subst O;exact⟨_,rfl,aR3 bf3 al8 rfl h g rfl rfl (λ_ _ _=>(trodAll_cons_mk (shut_bool Tryz.underlying4 _) trodAll_mk0)) M⟩
def kM:mapsRowed Tryz.prog=true:=by kernel_rfl
def kI:(Rows.sliceJoinRow.inPlace==Tryz.prog.inPlace 5)=true:=by kernel_rfl
def kU:(Rows.sliceJoinRow.unfollowed==Tryz.prog.unfollowed 5)=true:=by kernel_rfl
def kR:(Rows.sliceJoinRow.recurses==Tryz.prog.recurses 5)=true:=by kernel_rfl
def kN:(Rows.sliceJoinRow.named==Tryz.prog.varsNamed 5)=true:=by kernel_rfl
def kS:Tryz.prog.stopsHeard=true:=by kernel_rfl
def kE:Tryz.prog.mayEnter=true:=by kernel_rfl
def kL:(Rows.sliceJoinRow.lifted==Tryz.prog.liftsFinal)=true:=by kernel_rfl
def kK:(Tryz.prog.make==some Rows.sliceJoinRow.make)=true:=by kernel_rfl
def closed:joinedFacts Tryz.prog 5 Tryz.f5 Rows.sliceJoinSpec Rows.sliceJoinRow=true:=by
 unfold joinedFacts;rw[bf3,kM,kI,kU,kR,kN,kS,kE,kL,kK]
 kernel_rfl
def bZ6:Rows.sliceJoinRow.holds Tryz.pinned (OpenSpec.ofChange Rows.sliceJoinSpec):=
 OpenClaim.holds_of_wide 5 Tryz.f5 rfl rfl rfl rfl rfl rfl rfl ⟨rfl,rfl,rfl,rfl,rfl⟩ rfl rfl rfl rfl rfl (by kernel_rfl) Tryz.func5 closed
  (of_decide_eq_true (by kernel_rfl)) (by unfold Func.isWrapper;first|(rw[if_pos (by decide +kernel)];kernel_rfl)|(rw[if_neg (by decide +kernel)];exact⟨rfl,rfl⟩))
  (λc a H b _=>lifted c a H b)
theorem proved:Rows.SliceJoinSaid:=bZ6
end Go.Proofs.YtggahhenbbgffaaGreat.sliceJoin
