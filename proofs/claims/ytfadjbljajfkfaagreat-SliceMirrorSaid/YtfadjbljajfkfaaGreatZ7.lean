/- sliceMirror.proved: for every input the law returns true. No condition. Part 7 of 7. -/
import Derived.Carry
import Derived.Deep.Matrix
import Derived.Deep.Slices
import Derived.OpenShut
import Derived.ProofKit
import Derived.Test.YtfadjbljajfkfaaGreatRows
import Derived.WalkKit
import Derived.Test.YtfadjbljajfkfaaGreatZ6
set_option maxRecDepth 1000000
set_option maxHeartbeats 8000000
set_option linter.unusedVariables false
set_option linter.unusedSimpArgs false
set_option linter.unnecessarySimpa false
set_option linter.defProp false
namespace Go.Proofs.YtfadjbljajfkfaaGreat
open Go 
section
open Go.ChangeShapes Go.WideShapes Go.ChangeAt Go.RowKit
def own:ownKnob Tryz.prog.godebug=none:=by kernel_rfl
theorem o9.keptBut{w d:World}(h:o7 w d)(b:MemPlace->Prop):w.keptBut d b:=by
 refine⟨h.os,h.output,λi f=>?_⟩;rw[h.block i f id];cases e:w.heap[i]? with
 | none=>rfl
 | some o=>
  cases o with
  | cells c t j=>exact⟨rfl,rfl,rfl,λ_ _=>rfl⟩
  | map g a=>exact .inr ⟨rfl,rfl⟩
  | _=>rfl
end
section
open Go.ChangeShapes Go.WideShapes Go.ChangeAt Go.RowKit
def o9.belowE{w a:World}(h:o7 w a):Below w.heap.size w a:=⟨h.os,h.tape,h.output,h.size,λk b=>h.block k b id⟩
section
variable {H:Type} {enc:TypeId×Value->H} {P:Program}
def bk8(j:laidOutB P=true){W i:World}(k:o7 W i):∀{f:List TypeId} {g:List Value} {e:List (DataW H)} {c:List MemPlace},
  (∀t∈f,P.readableRec t=true/\t<P.types.size)->(∀p∈c,p.block<W.heap.size)->DataW.TrodAll enc P W 0 (λ_=>true) true f g e c ->
  DataW.TrodAll enc P i 0 (λb=>decide (b<W.heap.size)) true f g e c
 | [],g,e,c,_,_,h=>by
  obtain⟨rfl,rfl,rfl⟩:=trodAll_nil h;exact trodAll_mk0
 | t::f,g,e,c,ht,hp,h=>by
  obtain⟨v,u,d,l,p,q,rfl,rfl,rfl,m,o⟩:=trodAll_cons h;refine trodAll_cons_mk ?_ (bk8 j k (λs a=>ht s (dS2 _ a)) (λx a=>hp x (dS0 _ a)) o);have:=ht t (by simp);exact m.elim λn r=>Below.trod j this.1 this.2 ⟨n,r⟩ k.belowE (λx a=>hp x (dQ1 _ a))
theorem cQ4{f:Func}{s:ChangeSpec}{apart e c:Bool}{W i:World}{args:Array Value}{v:Value}{d:List (DataW H)}{a:List MemPlace}
  (o:laidOutB P=true) (u:∀t∈f.params.toList,P.readableRec t=true/\t<P.types.size)
  (hv:s.vars=[]) (k:DataW.Whole enc P f.params.toList s.vars apart W args.toList d [] a)
  (m:DataW.TrodAll enc P W 0 (λ_=>true) true f.params.toList args.toList d a)
  (r:(s.fn H d).args=d) (j:(s.fn H d).vars=[])
  (g:∀(b:Nat) (w:Nat->Bool) (n:Bool),DataW.TrodAll enc P i b w n f.resultTypes.toList (v.resultList f.resultTypes.size) (s.fn H d).results [])
  (l:o7 W i):s.post enc P f apart e c false W args v i:=by
 refine⟨d,[],a,[],a,[],k,?_,?_,?_,l.keptBut _,λh=>by cases h⟩
 ·rw[dP8];exact g _ _ _
 ·rw[dP8,r];exact bk8 o l u (λp q=>k.lt p q) m
 ·rw[dP8,j,hv];exact rfl
end
end
section
open Go.ChangeShapes Go.WideShapes Go.ChangeAt Go.RowKit
section
variable {H:Type} {enc:TypeId×Value->H} {P:Program} {W:World} {base:Nat} {sp:Nat->Bool} {held:Bool}
def Opn(enc:TypeId×Value->H)(P:Program)(W:World)(base:Nat)(sp:Nat->Bool)(held:Bool)(α:Type)[A4 α](T:TypeId)(n:Nat):Prop:=
 ∀a d,DataW.trod enc P W base sp held n T a=some d->∃x:α,A4.enc (i4 W) a x
def bN0{T:TypeId}(a:P.underlying T=some (.int .i64))(n:Nat):Opn enc P W base sp held Int T n:=λb d h=>by
 obtain⟨k,rfl,_⟩:=DataW.trod_int a h;exact⟨k,rfl⟩
def bM9{T:TypeId}(a:P.underlying T=some .bool)(n:Nat):Opn enc P W base sp held Bool T n:=λb d h=>by
 obtain⟨k,rfl,_⟩:=DataW.trod_bool a h;exact⟨k,rfl⟩
def aR5{T:TypeId}(a:P.underlying T=some .string)(n:Nat):Opn enc P W base sp held A6 T n:=λc d h=>by
 obtain⟨⟨b⟩,rfl,_⟩:=DataW.trod_string a h;exact⟨ofA b,by rw[bx7];rfl⟩
def bZ5{α:Type}[A4 α]{h:Hp}(a:Addr):∀(b:Nat),(∀i,i<b->∃e:List Value,e.length=A4.sz α/\(∀r,r<A4.sz α->L3 h ((a.add (i*A4.sz α)).add r)=e[r]?)/\∃x:α,A4.enc h e x) ->
  ∃(c:List Value) (f:List α),f.length=b/\c.length=b*A4.sz α/\O3 h c f/\∀j u,c[j]?=some u->L3 h (a.add j)=some u
 | 0,_=>⟨[],[],rfl,by simp,rfl,λj u d=>by simp at d⟩
 | b+1,hx=>by
  obtain⟨c,f,m,g,n,o⟩:=bZ5 a b λi t=>hx i (by omega);obtain⟨e,p,q,x,s⟩:=hx b (by omega);refine⟨c++e,f++[x],by simp[m],by rw[dM7,g,p,dY1,Nat.one_mul],al4 n (aH5 s),λj u d=>?_⟩;rcases dQ7 j c.length with l|k
  ·rw[dR6 l]at d;exact o j u d
  ·rw[dR4 k]at d;have v:=(dM9.1 d).1;have:=q (j-c.length) (by omega);rw[Addr.add_add',g,show b*A4.sz α+(j-b*A4.sz α)=j by omega]at this;rw[this,<-g];exact d
def am2{α:Type}[A4 α]{t e:TypeId}{n:Nat}(E:P.underlying t=some (.slice e))(A:P.cellsOf e=A4.sz α)(hn:∀m,m<n->Opn enc P W base sp held α e m):Opn enc P W base sp held (List α) t n:=λf d h=>by
 rcases DataW.trod_slice E h with⟨rfl,_⟩|⟨a,b,l,p,w,m,rfl,rfl,_,_,s,_,B,F,_⟩
 ·exact⟨[],J9⟩
 ·have c:∀i,i<b->∃f:List Value,f.length=A4.sz α/\(∀r,r<A4.sz α->L3 (i4 W) ((a.add (i*A4.sz α)).add r)=f[r]?)/\∃x:α,A4.enc (i4 W) f x:=λi C=>by
   have g:=F i C;rw[dM4 (by omega)]at g;obtain⟨o,z,q⟩:=dU9.1 g;obtain⟨_,k,v⟩:=World.cells?_some z;rw[A]at k v;exact⟨o,k,v,hn m (by omega) _ _ q⟩
  obtain⟨y,G,g,_,q,k⟩:=bZ5 (α:=α) a b c;exact⟨G,some a,b,l,rfl,g.symm,s,y,q,λj u D=>⟨a,rfl,k j u D⟩⟩
end
section
variable {H:Type} {enc:TypeId×Value->H} {W:World} {base:Nat} {sp:Nat->Bool} {held:Bool}
def bb6:Tryz.prog.cellsOf 9=1:=by kernel_rfl
def cJ3:Tryz.prog.cellsOf 3=1:=by kernel_rfl
def cJ4:Tryz.prog.cellsOf 2=1:=by kernel_rfl
def bK1:Tryz.prog.cellsOf 4=1:=by kernel_rfl
def cJ2:Tryz.prog.cellsOf 31=1:=by kernel_rfl
def du1:Tryz.prog.cellsOf 104=1:=by kernel_rfl
def du0:Tryz.prog.cellsOf 107=1:=by kernel_rfl
def dg9:Tryz.prog.cellsOf 73=1:=by kernel_rfl
def du3:Tryz.prog.cellsOf 72=1:=by kernel_rfl
def du5:Tryz.prog.cellsOf 32=1:=by kernel_rfl
def cY9:Tryz.prog.cellsOf 106=4:=by kernel_rfl
def dt9:Tryz.prog.cellsOf 124=6:=by kernel_rfl
def cZ0:Tryz.prog.cellsOf 109=13:=by kernel_rfl
def du2:Tryz.prog.cellsOf 78=2:=by kernel_rfl
def du4:Tryz.prog.cellsOf 75=5:=by kernel_rfl
def dG4:Tryz.prog.cellsOf 34=2:=by kernel_rfl
def bn2(n:Nat):Opn enc Tryz.prog W base sp held (List A6) 31 n:=am2 Tryz.underlying31 bb6 λm _=>aR5 Tryz.underlying9 m
def dx3(n:Nat):Opn enc Tryz.prog W base sp held Pa 78 n:=λk d h=>by
 obtain⟨l,m,rfl,rfl,g,a,f⟩:=DataW.trod_struct Tryz.underlying78 h;have a:l.length=2:=a;rw[du2]at g
 match k,g with
 | [c0,c1],_=>
  have c:=f 0 _ rfl;have e:=f 1 _ rfl;rw[dM4 (by omega)]at c e;simp only[bb6,bK1,List.getElem_toArray,dY9,dX2,dV7,List.drop_succ_cons,dZ1,dX3]at c e;obtain⟨i,e0⟩:=aR5 Tryz.underlying9 m _ _ c;obtain⟨j,b⟩:=bM9 Tryz.underlying4 m _ _ e;have e0:[c0]=[p6 i]:=e0;have b:[c1]=[.bool j]:=b;simp only[dZ3,and_true]at e0 b;subst e0;subst b;exact⟨⟨i,j⟩,rfl⟩
def di2:∀n,Opn enc Tryz.prog W base sp held Ex 106 n:=λn=>by
 induction n using Nat.strongRecOn with
 | ind n t=>
 intro r d h;obtain⟨v,m,rfl,rfl,l,a,e⟩:=DataW.trod_struct Tryz.underlying106 h;have a:v.length=4:=a;rw[cY9]at l
 match r,l with
 | [c0,c1,c2,c3],_=>
  have f:=e 0 _ rfl;have g:=e 1 _ rfl;have i:=e 2 _ rfl;have j:=e 3 _ rfl;rw[dM4 (by omega)]at f g i j;simp only[bb6,cJ3,cJ4,du1,List.getElem_toArray,dY9,dX2,dV7,List.drop_succ_cons,dZ1,dX3]at f g i j;obtain⟨o,e0⟩:=bN0 Tryz.underlying3 m _ _ f;obtain⟨p,b⟩:=bN0 Tryz.underlying2 m _ _ g;obtain⟨q,c⟩:=aR5 Tryz.underlying9 m _ _ i;obtain⟨u,s⟩:=am2 Tryz.underlying104 cY9 (λk w=>t k (by omega)) _ _ j;have e0:[c0]=[.int .i64 o]:=e0;have b:[c1]=[.int .i64 p]:=b;have c:[c2]=[p6 q]:=c;simp only[dZ3,and_true]at e0 b c;subst e0;subst b;subst c;exact⟨.mk o p q u,bK9.2 ⟨c3,rfl,s⟩⟩
def dx2(n:Nat):Opn enc Tryz.prog W base sp held Ar 124 n:=λl d h=>by
 obtain⟨q,m,rfl,rfl,i,a,g⟩:=DataW.trod_struct Tryz.underlying124 h;have a:q.length=3:=a;rw[dt9]at i
 match l,i with
 | [c0,c1,c2,c3,c4,c5],_=>
  have c:=g 0 _ rfl;have e:=g 1 _ rfl;have f:=g 2 _ rfl;rw[dM4 (by omega)]at c e f;simp only[bb6,bK1,cY9,List.getElem_toArray,dY9,dX2,dV7,List.drop_succ_cons,dZ1,dX3]at c e f;obtain⟨j,e0⟩:=bM9 Tryz.underlying4 m _ _ c;obtain⟨k,b⟩:=aR5 Tryz.underlying9 m _ _ e;obtain⟨p,o⟩:=di2 m _ _ f;have e0:[c0]=[.bool j]:=e0;have b:[c1]=[p6 k]:=b;simp only[dZ3,and_true]at e0 b;subst e0;subst b;exact⟨⟨j,k,p⟩,_,rfl,o⟩
def dx6:∀n,Opn enc Tryz.prog W base sp held St 109 n:=λn=>by
 induction n using Nat.strongRecOn with
 | ind n w=>
 intro C d h;obtain⟨O,m,rfl,rfl,v,b,a⟩:=DataW.trod_struct Tryz.underlying109 h;have b:O.length=10:=b;rw[cZ0]at v
 match C,v with
 | [c0,c1,c2,c3,c4,c5,c6,c7,c8,c9,c10,c11,c12],_=>
  have i:=a 0 _ rfl;have j:=a 1 _ rfl;have l:=a 2 _ rfl;have o:=a 3 _ rfl;have p:=a 4 _ rfl;have q:=a 5 _ rfl;have r:=a 6 _ rfl;have s:=a 7 _ rfl;have t:=a 8 _ rfl;have u:=a 9 _ rfl;rw[dM4 (by omega)]at i j l o p q r s t u;simp only[bb6,cJ3,bK1,cJ2,cY9,du0,dg9,List.getElem_toArray,dY9,dX2,dV7,List.drop_succ_cons,dZ1,dX3]at i j l o p q r s t u;obtain⟨x,e0⟩:=bN0 Tryz.underlying3 m _ _ i;obtain⟨y,c⟩:=bN0 Tryz.underlying3 m _ _ j;obtain⟨J,D⟩:=bn2 m _ _ l;obtain⟨z,e⟩:=aR5 Tryz.underlying9 m _ _ o;obtain⟨A,f⟩:=aR5 Tryz.underlying9 m _ _ p;obtain⟨K,E⟩:=di2 m _ _ q;obtain⟨B,g⟩:=bM9 Tryz.underlying4 m _ _ r;obtain⟨L,F⟩:=am2 Tryz.underlying107 dt9 (λk _=>dx2 k) _ _ s;obtain⟨M,G⟩:=am2 Tryz.underlying73 cZ0 (λk I=>w k (by omega)) _ _ t;obtain⟨N,H⟩:=am2 Tryz.underlying73 cZ0 (λk I=>w k (by omega)) _ _ u;have e0:[c0]=[.int .i64 x]:=e0;have c:[c1]=[.int .i64 y]:=c;have e:[c3]=[p6 z]:=e;have f:[c4]=[p6 A]:=f;have g:[c9]=[.bool B]:=g;simp only[dZ3,and_true]at e0 c e f g;subst e0;subst c;subst e;subst f;subst g;exact⟨.mk x y J z A K B L M N,bL0.2 ⟨c2,[c5,c6,c7,c8],c10,c11,c12,rfl,D,E,F,G,H⟩⟩
def dx5(n:Nat):Opn enc Tryz.prog W base sp held Pr 75 n:=λo d h=>by
 obtain⟨x,m,rfl,rfl,j,a,b⟩:=DataW.trod_struct Tryz.underlying75 h;have a:x.length=5:=a;rw[du4]at j
 match o,j with
 | [c0,c1,c2,c3,c4],_=>
  have c:=b 0 _ rfl;have e:=b 1 _ rfl;have f:=b 2 _ rfl;have g:=b 3 _ rfl;have i:=b 4 _ rfl;rw[dM4 (by omega)]at c e f g i;simp only[bb6,cJ2,du3,dg9,List.getElem_toArray,dY9,dX2,dV7,List.drop_succ_cons,dZ1,dX3]at c e f g i;obtain⟨l,e0⟩:=aR5 Tryz.underlying9 m _ _ c;obtain⟨t,p⟩:=am2 Tryz.underlying72 du2 (λk _=>dx3 k) _ _ e;obtain⟨u,q⟩:=bn2 m _ _ f;obtain⟨v,r⟩:=am2 Tryz.underlying73 cZ0 (λk _=>dx6 k) _ _ g;obtain⟨w,s⟩:=bn2 m _ _ i;have e0:[c0]=[p6 l]:=e0;simp only[dZ3,and_true]at e0;subst e0;exact⟨⟨l,t,u,v,w⟩,c1,c2,c3,c4,rfl,p,q,r,s⟩
def dx4(n:Nat):Opn enc Tryz.prog W base sp held Pg 34 n:=λg d h=>by
 obtain⟨o,m,rfl,rfl,f,a,e⟩:=DataW.trod_struct Tryz.underlying34 h;have a:o.length=2:=a;rw[dG4]at f
 match g,f with
 | [c0,c1],_=>
  have b:=e 0 _ rfl;have c:=e 1 _ rfl;rw[dM4 (by omega)]at b c;simp only[cJ2,du5,List.getElem_toArray,dY9,dX2,dV7,List.drop_succ_cons,dZ1,dX3]at b c;obtain⟨j,e0⟩:=bn2 m _ _ b;obtain⟨l,i⟩:=am2 Tryz.underlying32 du4 (λk _=>dx5 k) _ _ c;exact⟨⟨j,l⟩,c0,c1,rfl,e0,i⟩
def dl0{v:Value}{d:DataW H}{f:List MemPlace}(h:DataW.Trod enc Tryz.prog W base sp held 34 v d f):∃p:Pg,SV (i4 W) v p:=by
 obtain⟨n,c⟩:=h;obtain⟨p,b⟩:=dx4 n _ _ c;have a:=A4.len b;have e:A4.sz Pg=2:=rfl;rw[e]at a;refine⟨p,v.cells.toList,?_,b⟩;cases v with
 | agg g=>simp[Value.cells]
 | _=>simp[Value.cells]at a
end
end
end Go.Proofs.YtfadjbljajfkfaaGreat
namespace Go.Proofs.YtfadjbljajfkfaaGreat.sliceMirror
open Go Go.ChangeShapes Go.WideShapes Go.ChangeAt Go.RowKit
def dv4:laidOutB Tryz.prog=true:=by kernel_rfl
def cQ8:∀t∈Tryz.f5.params.toList,Tryz.prog.readableRec t=true/\t<Tryz.prog.types.size:=by
 rw[Tryz.params5];decide +kernel
set_option maxRecDepth 100000 in
def lifted(r:Os)(c:r.Started)(H:Type)(enc:TypeId×Value->H):
  ReturnsInHanded {} Tryz.checked r 5 .any (Rows.sliceMirrorSpec.pre6 enc Tryz.prog Tryz.f5 Rows.sliceMirrorRow.domain false) (Rows.sliceMirrorSpec.post enc Tryz.prog Tryz.f5 false true false false):=by
 refine returnsInHanded_of_change (C:=Tryz.checked) own c (by kernel_rfl) Tryz.func5
  (ChangeSpec.witness6 (enc:=enc) (C:=Tryz.checked) false ⟨#[],#[.agg #[.slice none 0 0,.slice none 0 0],.int .i64 0,.int .i64 0],[]⟩ 8 (by kernel_rfl) (by kernel_rfl) (by kernel_rfl) (by kernel_rfl)) ?_
 intro W d args A gs i b n o _;have a:∀(j:Nat) t v,Tryz.f5.params[j]?=some t->args[j]?=some v->Value.okWide Tryz.prog W .any d t v:=b;have h:=n;obtain⟨p,q,f,J,rfl,L,N⟩:=n;have k:DataW.TrodAll enc Tryz.prog W 0 (λ_=>true) true Tryz.f5.params.toList args.toList A p:=f;have g:=k;rw[Tryz.params5]at k a;obtain⟨s,S,Y,B,p0,q0,l,rfl,rfl,F,P⟩:=trodAll_cons k;obtain⟨w,T,Z,D,p1,q1,rfl,rfl,rfl,G,Q⟩:=trodAll_cons P;obtain⟨x,U,d2,E,p2,q2,rfl,rfl,rfl,I,R⟩:=trodAll_cons Q;obtain⟨rfl,rfl,rfl⟩:=trodAll_nil R;obtain rfl:args=#[s,w,x]:=by cases args;simp_all
 obtain⟨rfl,rfl⟩:=trodVars_none J;obtain⟨V,m⟩:=dl0 F;obtain⟨y,rfl,rfl,rfl,w1⟩:=open_int Tryz.underlying3 (a 1 3 w rfl rfl) G;obtain⟨z,rfl,rfl,rfl,w2⟩:=open_int Tryz.underlying3 (a 2 3 x rfl rfl) I;clear f b;simp only[List.append_nil]at h g;refine(bb1 s V y z W m).mono λe X ⟨u,K,O,M⟩=>?_;subst K;subst O;exact⟨_,rfl,cQ4 dv4 cQ8 rfl h g rfl rfl (λ_ _ _=>(trodAll_cons_mk (shut_bool Tryz.underlying4 _) trodAll_mk0)) M⟩
def kM:mapsRowed Tryz.prog=true:=by kernel_rfl
def kI:(Rows.sliceMirrorRow.inPlace==Tryz.prog.inPlace 5)=true:=by kernel_rfl
def kU:(Rows.sliceMirrorRow.unfollowed==Tryz.prog.unfollowed 5)=true:=by kernel_rfl
def kR:(Rows.sliceMirrorRow.recurses==Tryz.prog.recurses 5)=true:=by kernel_rfl
def kN:(Rows.sliceMirrorRow.named==Tryz.prog.varsNamed 5)=true:=by kernel_rfl
def kS:Tryz.prog.stopsHeard=true:=by kernel_rfl
def kE:Tryz.prog.mayEnter=true:=by kernel_rfl
def kL:(Rows.sliceMirrorRow.lifted==Tryz.prog.liftsFinal)=true:=by kernel_rfl
def kK:(Tryz.prog.make==some Rows.sliceMirrorRow.make)=true:=by kernel_rfl
def closed:joinedFacts Tryz.prog 5 Tryz.f5 Rows.sliceMirrorSpec Rows.sliceMirrorRow=true:=by
 unfold joinedFacts;rw[dv4,kM,kI,kU,kR,kN,kS,kE,kL,kK]
 kernel_rfl
def dJ0:Rows.sliceMirrorRow.holds Tryz.pinned (OpenSpec.ofChange Rows.sliceMirrorSpec):=
 OpenClaim.holds_of_wide 5 Tryz.f5 rfl rfl rfl rfl rfl rfl rfl ⟨rfl,rfl,rfl,rfl,rfl⟩ rfl rfl rfl rfl rfl (by kernel_rfl) Tryz.func5 closed
  (of_decide_eq_true (by kernel_rfl)) (by unfold Func.isWrapper;first|(rw[if_pos (by decide +kernel)];kernel_rfl)|(rw[if_neg (by decide +kernel)];exact⟨rfl,rfl⟩))
  (λc a H b _=>lifted c a H b)
theorem proved:Rows.SliceMirrorSaid:=dJ0
end Go.Proofs.YtfadjbljajfkfaaGreat.sliceMirror
namespace Go.Proofs.YtfadjbljajfkfaaGreat
open Go
end Go.Proofs.YtfadjbljajfkfaaGreat
