/- What the functions of the program do, for every input; plain facts. No condition, no statement of its own. Part 8. -/
import Derived.Carry
import Derived.Deep.Matrix
import Derived.Deep.Slices
import Derived.OpenShut
import Derived.ProofKit
import Derived.Test.YtpebpfiglfmegaaGreatRows
import Derived.WalkKit
import Derived.Test.YtpebpfiglfmegaaGreatZ7
set_option maxRecDepth 1000000
set_option maxHeartbeats 8000000
set_option linter.unusedVariables false
set_option linter.unusedSimpArgs false
set_option linter.unnecessarySimpa false
set_option linter.defProp false
namespace Go.Proofs.YtpebpfiglfmegaaGreat
open Go List IntKind Region
section
open Go.ChangeShapes Go.WideShapes Go.ChangeAt Go.RowKit
def own:ownKnob Tryz.prog.godebug=none:=kr
def t8.keptBut{w w'}(h:o6 w w')(b:MemPlace->Prop):w.keptBut w' b:=by
 refine⟨h.os,h.output,λi d=>?_⟩;rw[h.block i d id];cases e:w.heap[i]? with
 | none=>rfl
 | some o=>
  cases o with
  | cells c t g=>exact⟨rfl,rfl,rfl,λ_ _=>rfl⟩
  | map f a=>exact .inr ⟨rfl,rfl⟩
  | _=>rfl
end
section
open Go.ChangeShapes Go.WideShapes Go.ChangeAt Go.RowKit
def t8.belowE{w w'}(h:o6 w w'):Below w.heap.size w w':=⟨h.os,h.tape,h.output,h.size,λk a=>h.block k a id⟩
section
variable {H:Type} {enc:TypeId×Value->H} {P:Program}
def bJ6(i:laidOutB P=true){W W'}(j:o6 W W'):∀{f:List TypeId} {g:List Value} {e:List (DataW H)} {c:List MemPlace},
  (∀t∈f,P.readableRec t=true/\t<P.types.size)->(∀p∈c,p.block<W.heap.size)->DataW.TrodAll enc P W 0 (λ_=>true) true f g e c ->
  DataW.TrodAll enc P W' 0 (λb=>decide (b<W.heap.size)) true f g e c
 | [],g,e,c,_,_,h=>by
  obtain⟨rfl,rfl,rfl⟩:=trodAll_nil h;exact trodAll_mk0
 | t::f,g,e,c,ht,hp,h=>by
  obtain⟨v,s,d,k,p,q,rfl,rfl,rfl,l,m⟩:=trodAll_cons h;refine trodAll_cons_mk ?_ (bJ6 i j (λr a=>ht r (eI1 _ a)) (λx a=>hp x (eH0 _ a)) m);have:=ht t dG;exact l.elim λn o=>Below.trod i this.1 this.2 ⟨n,o⟩ j.belowE (λx a=>hp x (eF9 _ a))
def aB3{f:Func}{s:ChangeSpec}{apart fresh handsOn W W'}{args:Array Value}{v:Value}{c:List (DataW H)}{a:List MemPlace}
  (l:laidOutB P=true) (o:∀t∈f.params.toList,P.readableRec t=true/\t<P.types.size)
  (hv:s.vars=[]) (g:DataW.Whole enc P f.params.toList s.vars apart W args.toList c [] a)
  (j:DataW.TrodAll enc P W 0 (λ_=>true) true f.params.toList args.toList c a)
  (n:(s.fn H c).args=c) (e:(s.fn H c).vars=[])
  (d:∀(b:Nat) (q:Nat->Bool) (k:Bool),DataW.TrodAll enc P W' b q k f.resultTypes.toList (v.resultList f.resultTypes.size) (s.fn H c).results [])
  (i:o6 W W'):s.post enc P f apart fresh handsOn false W args v W':=by
 refine⟨c,[],a,[],a,[],g,?_,?_,?_,i.keptBut _,λh=>by cases h⟩
 .rw[eG5];exact d _ _ _
 .rw[eG5,n];exact bJ6 l i o (λp m=>g.lt p m) j
 .rw[eG5,e,hv];exact rfl
end
end
section
open Go.ChangeShapes Go.WideShapes Go.ChangeAt Go.RowKit
section
variable {H:Type} {enc:TypeId×Value->H} {P:Program} {W:World} {base:Nat} {sp:Nat->Bool} {held:Bool}
def Opn(enc:TypeId×Value->H)(P:Program)(W:World)(base:Nat)(sp:Nat->Bool)(held:Bool)(α:Type)[A9 α](T:TypeId)(n:Nat):Prop:=
 ∀a d,DataW.trod enc P W base sp held n T a=some d->∃x:α,A9.enc (n8 W) a x
def bC1{T}(a:P.underlying T=some (.int .i64))(n):Opn enc P W base sp held Int T n:=λb d h=>by
 obtain⟨k,rfl,_⟩:=DataW.trod_int a h;exact⟨k,rfl⟩
def cq8{T}(a:P.underlying T=some .bool)(n):Opn enc P W base sp held Bool T n:=λb d h=>by
 obtain⟨k,rfl,_⟩:=DataW.trod_bool a h;exact⟨k,rfl⟩
def aU4{T}(a:P.underlying T=some .string)(n):Opn enc P W base sp held B9 T n:=λc d h=>by
 obtain⟨⟨b⟩,rfl,_⟩:=DataW.trod_string a h;exact⟨ofA b,by rw[bX9];rfl⟩
def cG6{α:Type}[A9 α]{h}(a:Addr):∀(b:Nat),(∀i,i<b->∃e:List Value,e.length=A9.sz α/\(∀r,r<A9.sz α->P4 h ((a.add (i*A9.sz α)).add r)=e[r]?)/\∃x:α,A9.enc h e x) ->
  ∃(c:List Value) (f:List α),f.length=b/\c.length=b*A9.sz α/\V4 h c f/\∀j u,c[j]?=some u->P4 h (a.add j)=some u
 | 0,_=>⟨[],[],rfl,dG,rfl,λj u d=>by simp at d⟩
 | b+1,hx=>by
  obtain⟨c,f,m,g,n,o⟩:=cG6 a b λi t=>hx i om;obtain⟨e,p,q,x,s⟩:=hx b om;refine⟨c++e,f++[x],by simp[m],by rw[eD4,g,p,eP3,Nat.one_mul],aq6 n (aq7 s),λj u d=>?_⟩;rcases eH4 j c.length with l|k
  .rw[eI7 l]at d;exact o j u d
  .rw[eI8 k]at d;have v:=(eD8.1 d).1;have:=q (j-c.length) om;rw[Addr.add_add',g,show b*A9.sz α+(j-b*A9.sz α)=j by omega]at this;rw[this,<-g];exact d
def aB0{α:Type}[A9 α]{t e n}(E:P.underlying t=some (.slice e))(A:P.cellsOf e=A9.sz α)(hn:∀m,m<n->Opn enc P W base sp held α e m):Opn enc P W base sp held (List α) t n:=λf d h=>by
 rcases DataW.trod_slice E h with⟨rfl,_⟩|⟨a,b,l,p,w,m,rfl,rfl,_,_,s,_,B,F,_⟩
 .exact⟨[],N5⟩
 .have c:∀i,i<b->∃f:List Value,f.length=A9.sz α/\(∀r,r<A9.sz α->P4 (n8 W) ((a.add (i*A9.sz α)).add r)=f[r]?)/\∃x:α,A9.enc (n8 W) f x:=λi C=>by
   have g:=F i C;rw[eD1 om]at g;obtain⟨o,z,q⟩:=eJ2.1 g;obtain⟨_,k,v⟩:=World.cells?_some z;rw[A]at k v;exact⟨o,k,v,hn m om _ _ q⟩
  obtain⟨y,G,g,_,q,k⟩:=cG6 (α:=α) a b c;exact⟨G,some a,b,l,rfl,g.symm,s,y,q,λj u D=>⟨a,rfl,k j u D⟩⟩
end
section
variable {H:Type} {enc:TypeId×Value->H} {W:World} {base:Nat} {sp:Nat->Bool} {held:Bool}
def bl5:Tryz.prog.cellsOf 9=1:=kr
def cL6:Tryz.prog.cellsOf 3=1:=kr
def dv7:Tryz.prog.cellsOf 2=1:=kr
def cn6:Tryz.prog.cellsOf 4=1:=kr
def dv6:Tryz.prog.cellsOf 22=1:=kr
def ek2:Tryz.prog.cellsOf 108=1:=kr
def ek1:Tryz.prog.cellsOf 111=1:=kr
def dV8:Tryz.prog.cellsOf 66=1:=kr
def ek4:Tryz.prog.cellsOf 65=1:=kr
def ek6:Tryz.prog.cellsOf 23=1:=kr
def dN4:Tryz.prog.cellsOf 110=4:=kr
def ek0:Tryz.prog.cellsOf 125=6:=kr
def dN5:Tryz.prog.cellsOf 113=13:=kr
def ek3:Tryz.prog.cellsOf 72=2:=kr
def ek5:Tryz.prog.cellsOf 68=5:=kr
def ex2:Tryz.prog.cellsOf 25=2:=kr
def bM4(n):Opn enc Tryz.prog W base sp held (List B9) 22 n:=aB0 Tryz.underlying22 bl5 λm _=>aU4 Tryz.underlying9 m
def en6(n):Opn enc Tryz.prog W base sp held Pa 72 n:=λk d h=>by
 obtain⟨l,m,rfl,rfl,g,a,f⟩:=DataW.trod_struct Tryz.underlying72 h;have a:l.length=2:=a;rw[ek3]at g
 match k,g with
 | [c0,c1],_=>
  have c:=f 0 _ rfl;have e:=f 1 _ rfl;rw[eD1 om]at c e;simp only[bl5,cn6,List.getElem_toArray,eP7,eO5,eM9,List.drop_succ_cons,eP8,eN9]at c e;obtain⟨i,e0⟩:=aU4 Tryz.underlying9 m _ _ c;obtain⟨j,b⟩:=cq8 Tryz.underlying4 m _ _ e;have e0:[c0]=[A4 i]:=e0;have b:[c1]=[.bool j]:=b;simp only[eP0,and_true]at e0 b;subst e0;subst b;exact⟨⟨i,j⟩,rfl⟩
def dW9:∀n,Opn enc Tryz.prog W base sp held Ex 110 n:=λn=>by
 induction n using Nat.strongRecOn with
 | ind n t=>
 intro r d h;obtain⟨v,m,rfl,rfl,l,a,e⟩:=DataW.trod_struct Tryz.underlying110 h;have a:v.length=4:=a;rw[dN4]at l
 match r,l with
 | [c0,c1,c2,c3],_=>
  have f:=e 0 _ rfl;have g:=e 1 _ rfl;have i:=e 2 _ rfl;have j:=e 3 _ rfl;rw[eD1 om]at f g i j;simp only[bl5,cL6,dv7,ek2,List.getElem_toArray,eP7,eO5,eM9,List.drop_succ_cons,eP8,eN9]at f g i j;obtain⟨o,e0⟩:=bC1 Tryz.underlying3 m _ _ f;obtain⟨p,b⟩:=bC1 Tryz.underlying2 m _ _ g;obtain⟨q,c⟩:=aU4 Tryz.underlying9 m _ _ i;obtain⟨u,s⟩:=aB0 Tryz.underlying108 dN4 (λk w=>t k om) _ _ j;have e0:[c0]=[.int .i64 o]:=e0;have b:[c1]=[.int .i64 p]:=b;have c:[c2]=[A4 q]:=c;simp only[eP0,and_true]at e0 b c;subst e0;subst b;subst c;exact⟨.mk o p q u,bQ5.2 ⟨c3,rfl,s⟩⟩
def en5(n):Opn enc Tryz.prog W base sp held Ar 125 n:=λl d h=>by
 obtain⟨q,m,rfl,rfl,i,a,g⟩:=DataW.trod_struct Tryz.underlying125 h;have a:q.length=3:=a;rw[ek0]at i
 match l,i with
 | [c0,c1,c2,c3,c4,c5],_=>
  have c:=g 0 _ rfl;have e:=g 1 _ rfl;have f:=g 2 _ rfl;rw[eD1 om]at c e f;simp only[bl5,cn6,dN4,List.getElem_toArray,eP7,eO5,eM9,List.drop_succ_cons,eP8,eN9]at c e f;obtain⟨j,e0⟩:=cq8 Tryz.underlying4 m _ _ c;obtain⟨k,b⟩:=aU4 Tryz.underlying9 m _ _ e;obtain⟨p,o⟩:=dW9 m _ _ f;have e0:[c0]=[.bool j]:=e0;have b:[c1]=[A4 k]:=b;simp only[eP0,and_true]at e0 b;subst e0;subst b;exact⟨⟨j,k,p⟩,_,rfl,o⟩
def en9:∀n,Opn enc Tryz.prog W base sp held St 113 n:=λn=>by
 induction n using Nat.strongRecOn with
 | ind n w=>
 intro C d h;obtain⟨O,m,rfl,rfl,v,b,a⟩:=DataW.trod_struct Tryz.underlying113 h;have b:O.length=10:=b;rw[dN5]at v
 match C,v with
 | [c0,c1,c2,c3,c4,c5,c6,c7,c8,c9,c10,c11,c12],_=>
  have i:=a 0 _ rfl;have j:=a 1 _ rfl;have l:=a 2 _ rfl;have o:=a 3 _ rfl;have p:=a 4 _ rfl;have q:=a 5 _ rfl;have r:=a 6 _ rfl;have s:=a 7 _ rfl;have t:=a 8 _ rfl;have u:=a 9 _ rfl;rw[eD1 om]at i j l o p q r s t u;simp only[bl5,cL6,cn6,dv6,dN4,ek1,dV8,List.getElem_toArray,eP7,eO5,eM9,List.drop_succ_cons,eP8,eN9]at i j l o p q r s t u;obtain⟨x,e0⟩:=bC1 Tryz.underlying3 m _ _ i;obtain⟨y,c⟩:=bC1 Tryz.underlying3 m _ _ j;obtain⟨J,D⟩:=bM4 m _ _ l;obtain⟨z,e⟩:=aU4 Tryz.underlying9 m _ _ o;obtain⟨A,f⟩:=aU4 Tryz.underlying9 m _ _ p;obtain⟨K,E⟩:=dW9 m _ _ q;obtain⟨B,g⟩:=cq8 Tryz.underlying4 m _ _ r;obtain⟨L,F⟩:=aB0 Tryz.underlying111 ek0 (λk _=>en5 k) _ _ s;obtain⟨M,G⟩:=aB0 Tryz.underlying66 dN5 (λk I=>w k om) _ _ t;obtain⟨N,H⟩:=aB0 Tryz.underlying66 dN5 (λk I=>w k om) _ _ u;have e0:[c0]=[.int .i64 x]:=e0;have c:[c1]=[.int .i64 y]:=c;have e:[c3]=[A4 z]:=e;have f:[c4]=[A4 A]:=f;have g:[c9]=[.bool B]:=g;simp only[eP0,and_true]at e0 c e f g;subst e0;subst c;subst e;subst f;subst g;exact⟨.mk x y J z A K B L M N,bQ6.2 ⟨c2,[c5,c6,c7,c8],c10,c11,c12,rfl,D,E,F,G,H⟩⟩
def en8(n):Opn enc Tryz.prog W base sp held Pr 68 n:=λo d h=>by
 obtain⟨x,m,rfl,rfl,j,a,b⟩:=DataW.trod_struct Tryz.underlying68 h;have a:x.length=5:=a;rw[ek5]at j
 match o,j with
 | [c0,c1,c2,c3,c4],_=>
  have c:=b 0 _ rfl;have e:=b 1 _ rfl;have f:=b 2 _ rfl;have g:=b 3 _ rfl;have i:=b 4 _ rfl;rw[eD1 om]at c e f g i;simp only[bl5,dv6,ek4,dV8,List.getElem_toArray,eP7,eO5,eM9,List.drop_succ_cons,eP8,eN9]at c e f g i;obtain⟨l,e0⟩:=aU4 Tryz.underlying9 m _ _ c;obtain⟨t,p⟩:=aB0 Tryz.underlying65 ek3 (λk _=>en6 k) _ _ e;obtain⟨u,q⟩:=bM4 m _ _ f;obtain⟨v,r⟩:=aB0 Tryz.underlying66 dN5 (λk _=>en9 k) _ _ g;obtain⟨w,s⟩:=bM4 m _ _ i;have e0:[c0]=[A4 l]:=e0;simp only[eP0,and_true]at e0;subst e0;exact⟨⟨l,t,u,v,w⟩,c1,c2,c3,c4,rfl,p,q,r,s⟩
def en7(n):Opn enc Tryz.prog W base sp held Pg 25 n:=λg d h=>by
 obtain⟨o,m,rfl,rfl,f,a,e⟩:=DataW.trod_struct Tryz.underlying25 h;have a:o.length=2:=a;rw[ex2]at f
 match g,f with
 | [c0,c1],_=>
  have b:=e 0 _ rfl;have c:=e 1 _ rfl;rw[eD1 om]at b c;simp only[dv6,ek6,List.getElem_toArray,eP7,eO5,eM9,List.drop_succ_cons,eP8,eN9]at b c;obtain⟨j,e0⟩:=bM4 m _ _ b;obtain⟨l,i⟩:=aB0 Tryz.underlying23 ek5 (λk _=>en8 k) _ _ c;exact⟨⟨j,l⟩,c0,c1,rfl,e0,i⟩
def aZ1{v}{d:DataW H}{f:List MemPlace}(h:DataW.Trod enc Tryz.prog W base sp held 25 v d f):∃p:Pg,SV (n8 W) v p:=by
 obtain⟨n,c⟩:=h;obtain⟨p,b⟩:=en7 n _ _ c;have a:=A9.len b;have e:A9.sz Pg=2:=rfl;rw[e]at a;refine⟨p,v.cells.toList,?_,b⟩;cases v with
 | agg g=>simp[Value.cells]
 | _=>simp[Value.cells]at a
end
end
def Bk.namesV(b:Bk)(v:Vx):List B9:=
 if v.kind≠2/\v.kind≠5/\v.kind≠6 then[]
 else if v.kind=2 then(if(b.s.it v.id).s.kind=4 then[]else N0 (b.s.it v.id).s)
 else if v.kind=6/\v.slot=U0 then[(b.s.it v.id).s.name]
 else match((b.callee (b.s.it v.id).s).params.zip (b.s.it v.id).s.args).find? λx=>decide (x.1.name=v.slot)with
  | some x=>ab5 x.2
  | none=>[]
def Bk.calledA(b:Bk)(inS:Vx->Bool)(v:Vx):List Vx:=
 if(b.s.it v.id).s.kind≠4 then[]else
  ⟨(b.s.it v.id).s.proc,1,0,e0⟩::((b.slotsIn (b.s.pr (b.s.it v.id).s.proc)).filter λn=>inS ⟨(b.s.it v.id).s.proc,3,0,n⟩).map λn=>⟨v.proc,5,v.id,n⟩
def Bk.along(b:Bk)(inS:Vx->Bool)(v:Vx):List Vx:=
 (((b.namesV v).filter λn=>(b.s.fn (b.s.pr v.proc)).params.any λq=>decide (q.name=n)).map λn=>(⟨v.proc,3,0,n⟩:Vx)) ++
 (if v.kind=4 then(if(b.s.fn (b.s.pr v.proc)).params.contains ⟨v.slot,true⟩then[⟨v.proc,3,0,v.slot⟩]else[])
  else if v.kind=6 then[⟨(b.s.it v.id).s.proc,4,0,v.slot⟩]
  else if v.kind=2 then b.calledA inS v else[])
def inN(V:List Vx)(S:List Int)(v:Vx):Bool:=match atV V v with
 | some i=>S.contains (i:Int)
 | none=>false
def Bk.alongN(b:Bk)(S:List Int):List Int:=S.flatMap λi=>F1 (P9 b.wv b.all lvK) i++match b.wv[i.toNat]? with
 | some v=>(b.along (inN b.wv S) v).filterMap λu=>(atV b.wv u).map λ(k:Nat)=>(k:Int)
 | none=>[]
def Bk.closeN(b:Bk)(a:Nat):List Int:=bR8 b.alongN (b.wv.length+1) (af1 (b.backB [(a:Int)]))
def Bk.closeS(b:Bk)(a:Nat):List Bool:=W2 b.wv.length (b.closeN a)
section
variable {p:Pg} {e:Eg} {v u:Vx} {a:Nat}
def bL9{V:List Vx}(hn:V.Nodup){S:List Int}{v:Vx}:inN V S v=true↔v∈V/\((C5 V v:Nat):Int)∈S:=by
 unfold inN C5;cases h:atV V v with
 | none=>
  have a:v∉V:=λb=>by have:=Z8.2 b;rw[h]at this;cases this
  simp[a]
 | some i=>
  have a:v∈V:=Z8.1 (by rw[h];rfl);simp[a]
def cn7{b:Bk}{f g:Vx->Bool}(h:∀v,f v=true->g v=true):∀u∈b.calledA f v,u∈b.calledA g v:=λu a=>by
 unfold Bk.calledA at *;split at a
 .simp at a
 .next e=>
  rw[fh e];rcases eF0.1 a with a|a
  .exact a ▸ List.mem_cons_self
  .obtain⟨n,i,rfl⟩:=eF2.1 a;obtain⟨c,d⟩:=eF6.1 i;exact eI1 _ (eF2.2 ⟨n,eF6.2 ⟨c,h _ d⟩,rfl⟩)
def aR7{b:Bk}{f g:Vx->Bool}(h:∀v,f v=true->g v=true):∀u∈b.along f v,u∈b.along g v:=λu a=>by
 unfold Bk.along at *;rcases eE0.1 a with a|a
 .exact eF9 _ a
 .apply eH0 _;split at a
  .next d=>rw[fi d];exact a
  .next d=>
   rw[fh d];split at a
   .next c=>rw[fi c];exact a
   .next c=>
    rw[fh c];split at a
    .next e=>rw[fi e];exact cn7 h u a
    .simp at a
def ar1{S:List Int}{j:Int}:j∈(b9 p).alongN S↔∃i∈S,j∈F1 (P9 (b9 p).wv (b9 p).all lvK) i\/∃v,(b9 p).wv[i.toNat]?=some v/\∃u∈(b9 p).along (inN (b9 p).wv S) v,u∈(b9 p).wv/\((C5 (b9 p).wv u:Nat):Int)=j:=by
 unfold Bk.alongN;rw[eG1];refine exists_congr λi=>and_congr_right λ_=>?_;rw[eE0];apply or_congr_right;cases hv:(b9 p).wv[i.toNat]? with
 | none=>simp
 | some v=>
  simp only[List.mem_filterMap,Option.map_eq_some_iff,eO1,exists_eq_left'];refine exists_congr λu=>and_congr_right λ_=>?_;constructor
  .rintro⟨k,a,rfl⟩;exact⟨Z8.1 (by rw[a];rfl),by unfold C5;rw[a];rfl⟩
  .rintro⟨hm,rfl⟩;obtain⟨k,a⟩:=eJ0.1 (Z8.2 hm);exact⟨k,a,by unfold C5;rw[a];rfl⟩
def at4(w:E3 p)(hw:C1 p<=1000000)(a:Nat):
  (∀i,A5 ((b9 p).backB [(a:Int)]) i=true->i∈(b9 p).closeN a)/\(∀j∈(b9 p).alongN ((b9 p).closeN a),j∈(b9 p).closeN a) /\
  (∀C:List Int,(∀i,A5 ((b9 p).backB [(a:Int)]) i=true->i∈C)->(∀j∈(b9 p).alongN C,j∈C)->∀i∈(b9 p).closeN a,i∈C)/\∀i∈(b9 p).closeN a,J2 (b9 p).wv.length i=true:=by
 have K:=w.toKnown;have l:∀i:Int,J2 (b9 p).wv.length i=true↔i∈(List.range (b9 p).wv.length).map λ(k:Nat)=>(k:Int):=λi=>by
  rw[C0,eF2];exact⟨λh=>⟨i.toNat,eH7.2 om,om⟩,λ⟨k,f,m⟩=>by have:=eH7.1 f;omega⟩
 have s:∀i∈af1 ((b9 p).backB [(a:Int)]),J2 (b9 p).wv.length i=true:=λi b=>by
  have h:=W3 (R1.1 b);unfold Bk.backB at h;rw[G5,G5,E0]at h;exact h
 have t:∀S,∀j∈(b9 p).alongN S,J2 (b9 p).wv.length j=true:=λS j e=>by
  obtain⟨i,_,h|⟨v,_,u,_,_,rfl⟩⟩:=ar1.1 e
  .have:=ae4 (J3 K) _ _ h;rw[Z0]at this;exact this
  .exact an1 (J3 K) u
 obtain⟨q,r,n⟩:=cA9 (c:=(b9 p).alongN) (U:=(List.range (b9 p).wv.length).map λ(k:Nat)=>(k:Int)) (λS j e=>(l j).1 (t S j e)) bU7 (λi b=>(l i).1 (s i b));rw[eE3,eI3]at q r n;have d:∀S T:List Int,(∀i∈S,i∈T)->∀j∈(b9 p).alongN S,j∈(b9 p).alongN T:=λS T g j e=>by
  obtain⟨i,b,h⟩:=ar1.1 e;refine ar1.2 ⟨i,g i b,h.imp_right ?_⟩;rintro⟨v,z,u,y,f,m⟩;exact⟨v,z,u,aR7 (λx o=>by
   rw[bL9 (Z7 w hw)]at o ⊢;exact⟨o.1,g _ o.2⟩) u y,f,m⟩
 refine⟨λi b=>q i (R1.2 b),r,λC f m=>n d C (λi b=>f i (R1.1 b)) m,λi b=>?_⟩;have:=n d ((List.range (b9 p).wv.length).map λ(k:Nat)=>(k:Int)) (λi b=>(l i).1 (s i b)) (λj e=>(l j).1 (t _ j e)) i b;exact(l i).2 this
end
def L8.at{α:Type}[A9 α]{k h g a v}{x:α}(f:L8 k a v)(hv:SV h v x)(c:E6 k g)(d:E6 h g):At g a x:=by
 obtain⟨n,rfl,l⟩:=hv;obtain⟨b,e,i⟩:=f;obtain rfl:=ai7 e;exact⟨_,A9.mono d l,λj u m=>K9 c (i j u m)⟩
def inB(p:Pg)(S:List Bool)(y:Vx):Bool:=decide (y∈(b9 p).wv)&&A5 S ((C5 (b9 p).wv y:Nat):Int)
section
variable {p:Pg} {a:Nat} {S S2:List Bool} {u v:Vx}
def bt0:inB p S v=true↔v∈(b9 p).wv/\A5 S ((C5 (b9 p).wv v:Nat):Int)=true:=by
 unfold inB;rw[eF1,decide_eq_true_iff]
structure by5 (p:Pg) (a:Nat) (S:List Bool):Prop where
 len:S.length=(b9 p).wv.length
 base:∀i,A5 ((b9 p).backB [(a:Int)]) i=true->A5 S i=true
 le:∀i,A5 S i=true->i∈(b9 p).closeN a
def by5.start(b:E3 p)(hw:C1 p<=1000000):by5 p a ((b9 p).backB [(a:Int)]):=
 ⟨by unfold Bk.backB;rw[G5,G5,E0],λ_ h=>h,(at4 b hw a).1⟩
def by5.add(g:E3 p)(hw:C1 p<=1000000)(j:by5 p a S)(hv:v∈(b9 p).wv)(hm:A5 S ((C5 (b9 p).wv v:Nat):Int)=true)(q:u∈(b9 p).along (inB p S2) v)(k:∀i,A5 S2 i=true->A5 S i=true)(h:u∈(b9 p).wv):
  by5 p a (S.set (C5 (b9 p).wv u) true)/\∀i,A5 S i=true->A5 (S.set (C5 (b9 p).wv u) true) i=true:=by
 have o:=Z7 g hw;have r:=V1 (J3 g.toKnown) u;have d:∀e:Int,A5 (S.set (C5 (b9 p).wv u) true) e=if e=((C5 (b9 p).wv u:Nat):Int)then true else A5 S e:=λe=>by
  have:=O2 (l:=S) (a:=((C5 (b9 p).wv u:Nat):Int)) (b:=e) (v:=true) (C0.2 ⟨om,by have:=j.len;omega⟩);rw[eF4]at this;exact this
 have f:∀i,A5 S i=true->A5 (S.set (C5 (b9 p).wv u) true) i=true:=λi c=>by rw[d,c];simp
 refine⟨⟨by rw[eK6,j.len],λi c=>f i (j.base i c),λi c=>?_⟩,f⟩;rw[d]at c;split at c
 .next e=>
  subst e;refine(at4 g hw a).2.1 _ (ar1.2 ⟨_,j.le _ hm,.inr ⟨v,by rw[eF4];exact P7 hv,u,aR7 (λx s=>?_) u q,h,rfl⟩⟩);obtain⟨m,n⟩:=bt0.1 s;exact(bL9 o).2 ⟨m,j.le _ (k _ n)⟩
 .exact j.le i c
def by5.fin(m:E3 p)(hw:C1 p<=1000000)(j:by5 p a S)(w:∀i,A5 S i=true->∀k∈F1 (P9 (b9 p).wv (b9 p).all lvK) i,A5 S k=true)
  (t:∀v∈(b9 p).wv,A5 S ((C5 (b9 p).wv v:Nat):Int)=true->∀u∈(b9 p).along (inB p S) v,u∈(b9 p).wv->A5 S ((C5 (b9 p).wv u:Nat):Int)=true):S=(b9 p).closeS a:=by
 have l:=Z7 m hw;refine bO5 (by unfold Bk.closeS;rw[E0,j.len]) λv n=>?_;unfold Bk.closeS at n ⊢;rw[E0]at n;rw[ab1];refine⟨λh=>⟨C0.2 ⟨om,om⟩,j.le _ h⟩,λh=>?_⟩;refine R1.1 ((at4 m hw a).2.2.1 (af1 S) (λi c=>R1.2 (j.base i c)) (λk z=>?_) _ h.2);obtain⟨i,c,q|⟨y,o,u,A,f,rfl⟩⟩:=ar1.1 z
 .exact R1.2 (w i (R1.1 c) k q)
 .have g:=eF7 o;have b:=R1.1 c;have e:=W3 b;have d:((C5 (b9 p).wv y:Nat):Int)=i:=by
   have:=bM2 l o;rw[this];have:=(C0.1 e).1;omega
  refine R1.2 (t y g (by rw[d];exact b) u (aR7 (λx B=>?_) u A) f);obtain⟨r,s⟩:=(bL9 l).1 B;exact bt0.2 ⟨r,R1.1 s⟩
end
section
variable {p:Pg} {w1 w:World} {g r:Nat} {ab:Addr} {vP:Value} {x:WX}
structure Rnd (p:Pg) (a:Nat) (S1 S2:List Bool) (m:Bool) (done:Vx->Vx->Prop):Prop where
 j:by5 p a S2
 up:∀i,A5 S1 i=true->A5 S2 i=true
 cnt:S2.count false<=S1.count false
 less:m=true->S2.count false<S1.count false
 same:m=false->S2=S1/\∀v u,done v u->v∈(b9 p).wv->A5 S1 ((C5 (b9 p).wv v:Nat):Int)=true->u∈(b9 p).along (inB p S1) v->u∈(b9 p).wv->A5 S1 ((C5 (b9 p).wv u:Nat):Int)=true
def Rnd.more{a}{c S2:List Bool}{m}{done b:Vx->Vx->Prop}(h:Rnd p a c S2 m done)(d:m=false->∀v u,b v u->v∈(b9 p).wv->A5 c ((C5 (b9 p).wv v:Nat):Int)=true->u∈(b9 p).along (inB p c) v->u∈(b9 p).wv->A5 c ((C5 (b9 p).wv u:Nat):Int)=true):Rnd p a c S2 m b:=
 ⟨h.j,h.up,h.cnt,h.less,λhm=>⟨(h.same hm).1,d hm⟩⟩
end
end Go.Proofs.YtpebpfiglfmegaaGreat
