/- What the functions of the program do, for every input; plain facts. No condition, no statement of its own. Part 7. -/
import Derived.Carry
import Derived.Deep.Matrix
import Derived.Deep.Slices
import Derived.OpenShut
import Derived.ProofKit
import Derived.Test.YtpebpfiglfmegaaGreatRows
import Derived.WalkKit
import Derived.Test.YtpebpfiglfmegaaGreatZ6
set_option maxRecDepth 1000000
set_option maxHeartbeats 8000000
set_option linter.unusedVariables false
set_option linter.unusedSimpArgs false
set_option linter.unnecessarySimpa false
set_option linter.defProp false
namespace Go.Proofs.YtpebpfiglfmegaaGreat
open Go 
section
open Go.ChangeShapes Go.WideShapes Go.ChangeAt Go.RowKit
def own:ownKnob Tryz.prog.godebug=none:=kr
def p6.keptBut{w d:World}(h:o6 w d)(b:MemPlace->Prop):w.keptBut d b:=by
 refine⟨h.os,h.output,λi f=>?_⟩;rw[h.block i f id];cases e:w.heap[i]? with
 | none=>rfl
 | some o=>
  cases o with
  | cells c t j=>exact⟨rfl,rfl,rfl,λ_ _=>rfl⟩
  | map g a=>exact .inr ⟨rfl,rfl⟩
  | _=>rfl
end
section
open Go.ChangeShapes Go.WideShapes Go.ChangeAt Go.RowKit
def p6.belowE{w a:World}(h:o6 w a):Below w.heap.size w a:=⟨h.os,h.tape,h.output,h.size,λk b=>h.block k b id⟩
section
variable {H:Type} {enc:TypeId×Value->H} {P:Program}
def by9(j:laidOutB P=true){W i:World}(k:o6 W i):∀{f:List TypeId} {g:List Value} {e:List (DataW H)} {c:List MemPlace},
  (∀t∈f,P.readableRec t=true/\t<P.types.size)->(∀p∈c,p.block<W.heap.size)->DataW.TrodAll enc P W 0 (λ_=>true) true f g e c ->
  DataW.TrodAll enc P i 0 (λb=>decide (b<W.heap.size)) true f g e c
 | [],g,e,c,_,_,h=>by
  obtain⟨rfl,rfl,rfl⟩:=trodAll_nil h;exact trodAll_mk0
 | t::f,g,e,c,ht,hp,h=>by
  obtain⟨v,u,d,l,p,q,rfl,rfl,rfl,m,o⟩:=trodAll_cons h;refine trodAll_cons_mk ?_ (by9 j k (λs a=>ht s (ep3 _ a)) (λx a=>hp x (en7 _ a)) o);have:=ht t dP;exact m.elim λn r=>Below.trod j this.1 this.2 ⟨n,r⟩ k.belowE (λx a=>hp x (em4 _ a))
def aU2{f:Func}{s:ChangeSpec}{apart e c:Bool}{W i:World}{args:Array Value}{v:Value}{d:List (DataW H)}{a:List MemPlace}
  (o:laidOutB P=true) (u:∀t∈f.params.toList,P.readableRec t=true/\t<P.types.size)
  (hv:s.vars=[]) (k:DataW.Whole enc P f.params.toList s.vars apart W args.toList d [] a)
  (m:DataW.TrodAll enc P W 0 (λ_=>true) true f.params.toList args.toList d a)
  (r:(s.fn H d).args=d) (j:(s.fn H d).vars=[])
  (g:∀(b:Nat) (w:Nat->Bool) (n:Bool),DataW.TrodAll enc P i b w n f.resultTypes.toList (v.resultList f.resultTypes.size) (s.fn H d).results [])
  (l:o6 W i):s.post enc P f apart e c false W args v i:=by
 refine⟨d,[],a,[],a,[],k,?_,?_,?_,l.keptBut _,λh=>by cases h⟩
 .rw[em5];exact g _ _ _
 .rw[em5,r];exact by9 o l u (λp q=>k.lt p q) m
 .rw[em5,j,hv];exact rfl
end
end
section
open Go.ChangeShapes Go.WideShapes Go.ChangeAt Go.RowKit
section
variable {H:Type} {enc:TypeId×Value->H} {P:Program} {W:World} {base:Nat} {sp:Nat->Bool} {held:Bool}
def Opn(enc:TypeId×Value->H)(P:Program)(W:World)(base:Nat)(sp:Nat->Bool)(held:Bool)(α:Type)[A6 α](T:TypeId)(n:Nat):Prop:=
 ∀a d,DataW.trod enc P W base sp held n T a=some d->∃x:α,A6.enc (i5 W) a x
def bq8{T:TypeId}(a:P.underlying T=some (.int .i64))(n:Nat):Opn enc P W base sp held Int T n:=λb d h=>by
 obtain⟨k,rfl,_⟩:=DataW.trod_int a h;exact⟨k,rfl⟩
def cd0{T:TypeId}(a:P.underlying T=some .bool)(n:Nat):Opn enc P W base sp held Bool T n:=λb d h=>by
 obtain⟨k,rfl,_⟩:=DataW.trod_bool a h;exact⟨k,rfl⟩
def aN1{T:TypeId}(a:P.underlying T=some .string)(n:Nat):Opn enc P W base sp held B3 T n:=λc d h=>by
 obtain⟨⟨b⟩,rfl,_⟩:=DataW.trod_string a h;exact⟨ofA b,by rw[bK8];rfl⟩
def cr0{α:Type}[A6 α]{h:Hp}(a:Addr):∀(b:Nat),(∀i,i<b->∃e:List Value,e.length=A6.sz α/\(∀r,r<A6.sz α->N2 h ((a.add (i*A6.sz α)).add r)=e[r]?)/\∃x:α,A6.enc h e x) ->
  ∃(c:List Value) (f:List α),f.length=b/\c.length=b*A6.sz α/\Q9 h c f/\∀j u,c[j]?=some u->N2 h (a.add j)=some u
 | 0,_=>⟨[],[],rfl,dP,rfl,λj u d=>by simp at d⟩
 | b+1,hx=>by
  obtain⟨c,f,m,g,n,o⟩:=cr0 a b λi t=>hx i om;obtain⟨e,p,q,x,s⟩:=hx b om;refine⟨c++e,f++[x],by simp[m],by rw[ej2,g,p,ev0,Nat.one_mul],al5 n (al6 s),λj u d=>?_⟩;rcases en2 j c.length with l|k
  .rw[eo2 l]at d;exact o j u d
  .rw[eo3 k]at d;have v:=(ej5.1 d).1;have:=q (j-c.length) om;rw[Addr.add_add',g,show b*A6.sz α+(j-b*A6.sz α)=j by omega]at this;rw[this,<-g];exact d
def at8{α:Type}[A6 α]{t e:TypeId}{n:Nat}(E:P.underlying t=some (.slice e))(A:P.cellsOf e=A6.sz α)(hn:∀m,m<n->Opn enc P W base sp held α e m):Opn enc P W base sp held (List α) t n:=λf d h=>by
 rcases DataW.trod_slice E h with⟨rfl,_⟩|⟨a,b,l,p,w,m,rfl,rfl,_,_,s,_,B,F,_⟩
 .exact⟨[],L6⟩
 .have c:∀i,i<b->∃f:List Value,f.length=A6.sz α/\(∀r,r<A6.sz α->N2 (i5 W) ((a.add (i*A6.sz α)).add r)=f[r]?)/\∃x:α,A6.enc (i5 W) f x:=λi C=>by
   have g:=F i C;rw[ej0 om]at g;obtain⟨o,z,q⟩:=eq6.1 g;obtain⟨_,k,v⟩:=World.cells?_some z;rw[A]at k v;exact⟨o,k,v,hn m om _ _ q⟩
  obtain⟨y,G,g,_,q,k⟩:=cr0 (α:=α) a b c;exact⟨G,some a,b,l,rfl,g.symm,s,y,q,λj u D=>⟨a,rfl,k j u D⟩⟩
end
section
variable {H:Type} {enc:TypeId×Value->H} {W:World} {base:Nat} {sp:Nat->Bool} {held:Bool}
def bc0:Tryz.prog.cellsOf 9=1:=kr
def cw5:Tryz.prog.cellsOf 3=1:=kr
def dd3:Tryz.prog.cellsOf 2=1:=kr
def bZ2:Tryz.prog.cellsOf 4=1:=kr
def dd2:Tryz.prog.cellsOf 22=1:=kr
def dQ4:Tryz.prog.cellsOf 108=1:=kr
def dQ3:Tryz.prog.cellsOf 111=1:=kr
def dC5:Tryz.prog.cellsOf 66=1:=kr
def dQ6:Tryz.prog.cellsOf 65=1:=kr
def dQ8:Tryz.prog.cellsOf 23=1:=kr
def du8:Tryz.prog.cellsOf 110=4:=kr
def dQ2:Tryz.prog.cellsOf 125=6:=kr
def du9:Tryz.prog.cellsOf 113=13:=kr
def dQ5:Tryz.prog.cellsOf 72=2:=kr
def dQ7:Tryz.prog.cellsOf 68=5:=kr
def ed3:Tryz.prog.cellsOf 25=2:=kr
def bB2(n:Nat):Opn enc Tryz.prog W base sp held (List B3) 22 n:=at8 Tryz.underlying22 bc0 λm _=>aN1 Tryz.underlying9 m
def dT6(n:Nat):Opn enc Tryz.prog W base sp held Pa 72 n:=λk d h=>by
 obtain⟨l,m,rfl,rfl,g,a,f⟩:=DataW.trod_struct Tryz.underlying72 h;have a:l.length=2:=a;rw[dQ5]at g
 match k,g with
 | [c0,c1],_=>
  have c:=f 0 _ rfl;have e:=f 1 _ rfl;rw[ej0 om]at c e;simp only[bc0,bZ2,List.getElem_toArray,ev2,eu1,es1,List.drop_succ_cons,ev3,et3]at c e;obtain⟨i,e0⟩:=aN1 Tryz.underlying9 m _ _ c;obtain⟨j,b⟩:=cd0 Tryz.underlying4 m _ _ e;have e0:[c0]=[t8 i]:=e0;have b:[c1]=[.bool j]:=b;simp only[eu7,and_true]at e0 b;subst e0;subst b;exact⟨⟨i,j⟩,rfl⟩
def dD8:∀n,Opn enc Tryz.prog W base sp held Ex 110 n:=λn=>by
 induction n using Nat.strongRecOn with
 | ind n t=>
 intro r d h;obtain⟨v,m,rfl,rfl,l,a,e⟩:=DataW.trod_struct Tryz.underlying110 h;have a:v.length=4:=a;rw[du8]at l
 match r,l with
 | [c0,c1,c2,c3],_=>
  have f:=e 0 _ rfl;have g:=e 1 _ rfl;have i:=e 2 _ rfl;have j:=e 3 _ rfl;rw[ej0 om]at f g i j;simp only[bc0,cw5,dd3,dQ4,List.getElem_toArray,ev2,eu1,es1,List.drop_succ_cons,ev3,et3]at f g i j;obtain⟨o,e0⟩:=bq8 Tryz.underlying3 m _ _ f;obtain⟨p,b⟩:=bq8 Tryz.underlying2 m _ _ g;obtain⟨q,c⟩:=aN1 Tryz.underlying9 m _ _ i;obtain⟨u,s⟩:=at8 Tryz.underlying108 du8 (λk w=>t k om) _ _ j;have e0:[c0]=[.int .i64 o]:=e0;have b:[c1]=[.int .i64 p]:=b;have c:[c2]=[t8 q]:=c;simp only[eu7,and_true]at e0 b c;subst e0;subst b;subst c;exact⟨.mk o p q u,ca1.2 ⟨c3,rfl,s⟩⟩
def dT5(n:Nat):Opn enc Tryz.prog W base sp held Ar 125 n:=λl d h=>by
 obtain⟨q,m,rfl,rfl,i,a,g⟩:=DataW.trod_struct Tryz.underlying125 h;have a:q.length=3:=a;rw[dQ2]at i
 match l,i with
 | [c0,c1,c2,c3,c4,c5],_=>
  have c:=g 0 _ rfl;have e:=g 1 _ rfl;have f:=g 2 _ rfl;rw[ej0 om]at c e f;simp only[bc0,bZ2,du8,List.getElem_toArray,ev2,eu1,es1,List.drop_succ_cons,ev3,et3]at c e f;obtain⟨j,e0⟩:=cd0 Tryz.underlying4 m _ _ c;obtain⟨k,b⟩:=aN1 Tryz.underlying9 m _ _ e;obtain⟨p,o⟩:=dD8 m _ _ f;have e0:[c0]=[.bool j]:=e0;have b:[c1]=[t8 k]:=b;simp only[eu7,and_true]at e0 b;subst e0;subst b;exact⟨⟨j,k,p⟩,_,rfl,o⟩
def dT9:∀n,Opn enc Tryz.prog W base sp held St 113 n:=λn=>by
 induction n using Nat.strongRecOn with
 | ind n w=>
 intro C d h;obtain⟨O,m,rfl,rfl,v,b,a⟩:=DataW.trod_struct Tryz.underlying113 h;have b:O.length=10:=b;rw[du9]at v
 match C,v with
 | [c0,c1,c2,c3,c4,c5,c6,c7,c8,c9,c10,c11,c12],_=>
  have i:=a 0 _ rfl;have j:=a 1 _ rfl;have l:=a 2 _ rfl;have o:=a 3 _ rfl;have p:=a 4 _ rfl;have q:=a 5 _ rfl;have r:=a 6 _ rfl;have s:=a 7 _ rfl;have t:=a 8 _ rfl;have u:=a 9 _ rfl;rw[ej0 om]at i j l o p q r s t u;simp only[bc0,cw5,bZ2,dd2,du8,dQ3,dC5,List.getElem_toArray,ev2,eu1,es1,List.drop_succ_cons,ev3,et3]at i j l o p q r s t u;obtain⟨x,e0⟩:=bq8 Tryz.underlying3 m _ _ i;obtain⟨y,c⟩:=bq8 Tryz.underlying3 m _ _ j;obtain⟨J,D⟩:=bB2 m _ _ l;obtain⟨z,e⟩:=aN1 Tryz.underlying9 m _ _ o;obtain⟨A,f⟩:=aN1 Tryz.underlying9 m _ _ p;obtain⟨K,E⟩:=dD8 m _ _ q;obtain⟨B,g⟩:=cd0 Tryz.underlying4 m _ _ r;obtain⟨L,F⟩:=at8 Tryz.underlying111 dQ2 (λk _=>dT5 k) _ _ s;obtain⟨M,G⟩:=at8 Tryz.underlying66 du9 (λk I=>w k om) _ _ t;obtain⟨N,H⟩:=at8 Tryz.underlying66 du9 (λk I=>w k om) _ _ u;have e0:[c0]=[.int .i64 x]:=e0;have c:[c1]=[.int .i64 y]:=c;have e:[c3]=[t8 z]:=e;have f:[c4]=[t8 A]:=f;have g:[c9]=[.bool B]:=g;simp only[eu7,and_true]at e0 c e f g;subst e0;subst c;subst e;subst f;subst g;exact⟨.mk x y J z A K B L M N,ca2.2 ⟨c2,[c5,c6,c7,c8],c10,c11,c12,rfl,D,E,F,G,H⟩⟩
def dT8(n:Nat):Opn enc Tryz.prog W base sp held Pr 68 n:=λo d h=>by
 obtain⟨x,m,rfl,rfl,j,a,b⟩:=DataW.trod_struct Tryz.underlying68 h;have a:x.length=5:=a;rw[dQ7]at j
 match o,j with
 | [c0,c1,c2,c3,c4],_=>
  have c:=b 0 _ rfl;have e:=b 1 _ rfl;have f:=b 2 _ rfl;have g:=b 3 _ rfl;have i:=b 4 _ rfl;rw[ej0 om]at c e f g i;simp only[bc0,dd2,dQ6,dC5,List.getElem_toArray,ev2,eu1,es1,List.drop_succ_cons,ev3,et3]at c e f g i;obtain⟨l,e0⟩:=aN1 Tryz.underlying9 m _ _ c;obtain⟨t,p⟩:=at8 Tryz.underlying65 dQ5 (λk _=>dT6 k) _ _ e;obtain⟨u,q⟩:=bB2 m _ _ f;obtain⟨v,r⟩:=at8 Tryz.underlying66 du9 (λk _=>dT9 k) _ _ g;obtain⟨w,s⟩:=bB2 m _ _ i;have e0:[c0]=[t8 l]:=e0;simp only[eu7,and_true]at e0;subst e0;exact⟨⟨l,t,u,v,w⟩,c1,c2,c3,c4,rfl,p,q,r,s⟩
def dT7(n:Nat):Opn enc Tryz.prog W base sp held Pg 25 n:=λg d h=>by
 obtain⟨o,m,rfl,rfl,f,a,e⟩:=DataW.trod_struct Tryz.underlying25 h;have a:o.length=2:=a;rw[ed3]at f
 match g,f with
 | [c0,c1],_=>
  have b:=e 0 _ rfl;have c:=e 1 _ rfl;rw[ej0 om]at b c;simp only[dd2,dQ8,List.getElem_toArray,ev2,eu1,es1,List.drop_succ_cons,ev3,et3]at b c;obtain⟨j,e0⟩:=bB2 m _ _ b;obtain⟨l,i⟩:=at8 Tryz.underlying23 dQ7 (λk _=>dT8 k) _ _ c;exact⟨⟨j,l⟩,c0,c1,rfl,e0,i⟩
def bC9{v:Value}{d:DataW H}{f:List MemPlace}(h:DataW.Trod enc Tryz.prog W base sp held 25 v d f):∃p:Pg,SV (i5 W) v p:=by
 obtain⟨n,c⟩:=h;obtain⟨p,b⟩:=dT7 n _ _ c;have a:=A6.len b;have e:A6.sz Pg=2:=rfl;rw[e]at a;refine⟨p,v.cells.toList,?_,b⟩;cases v with
 | agg g=>simp[Value.cells]
 | _=>simp[Value.cells]at a
end
end
end Go.Proofs.YtpebpfiglfmegaaGreat
