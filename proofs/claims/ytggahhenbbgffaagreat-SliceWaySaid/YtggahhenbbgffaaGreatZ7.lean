/- What the functions of the program do, for every input; plain facts. No condition, no statement of its own. Part 7. -/
import Derived.Carry
import Derived.Deep.Matrix
import Derived.Deep.Slices
import Derived.OpenShut
import Derived.ProofKit
import Derived.Test.YtggahhenbbgffaaGreatRows
import Derived.WalkKit
import Derived.Test.YtggahhenbbgffaaGreatZ6
set_option maxRecDepth 1000000
set_option maxHeartbeats 8000000
set_option linter.unusedVariables false
set_option linter.unusedSimpArgs false
set_option linter.unnecessarySimpa false
set_option linter.defProp false
namespace Go.Proofs.YtggahhenbbgffaaGreat
open Go 
section
open Go.ChangeShapes Go.WideShapes Go.ChangeAt Go.RowKit
def own:ownKnob Tryz.prog.godebug=none:=by kernel_rfl
def o8.keptBut{w d:World}(h:o6 w d)(b:MemPlace->Prop):w.keptBut d b:=by
 refine⟨h.os,h.output,λi f=>?_⟩;rw[h.block i f id];cases e:w.heap[i]? with
 | none=>rfl
 | some o=>
  cases o with
  | cells c t j=>exact⟨rfl,rfl,rfl,λ_ _=>rfl⟩
  | map g a=>exact .inr ⟨rfl,rfl⟩
  | _=>rfl
end
section
open Go.ChangeShapes Go.WideShapes Go.ChangeAt Go.RowKit
def o8.belowE{w a:World}(h:o6 w a):Below w.heap.size w a:=⟨h.os,h.tape,h.output,h.size,λk b=>h.block k b id⟩
section
variable {H:Type} {enc:TypeId×Value->H} {P:Program}
def bv4(j:laidOutB P=true){W i:World}(k:o6 W i):∀{f:List TypeId} {g:List Value} {e:List (DataW H)} {c:List MemPlace},
  (∀t∈f,P.readableRec t=true/\t<P.types.size)->(∀p∈c,p.block<W.heap.size)->DataW.TrodAll enc P W 0 (λ_=>true) true f g e c ->
  DataW.TrodAll enc P i 0 (λb=>decide (b<W.heap.size)) true f g e c
 | [],g,e,c,_,_,h=>by
  obtain⟨rfl,rfl,rfl⟩:=trodAll_nil h;exact trodAll_mk0
 | t::f,g,e,c,ht,hp,h=>by
  obtain⟨v,u,d,l,p,q,rfl,rfl,rfl,m,o⟩:=trodAll_cons h;refine trodAll_cons_mk ?_ (bv4 j k (λs a=>ht s (ek0 _ a)) (λx a=>hp x (ej4 _ a)) o);have:=ht t (by simp);exact m.elim λn r=>Below.trod j this.1 this.2 ⟨n,r⟩ k.belowE (λx a=>hp x (ei1 _ a))
def aR3{f:Func}{s:ChangeSpec}{apart e c:Bool}{W i:World}{args:Array Value}{v:Value}{d:List (DataW H)}{a:List MemPlace}
  (o:laidOutB P=true) (u:∀t∈f.params.toList,P.readableRec t=true/\t<P.types.size)
  (hv:s.vars=[]) (k:DataW.Whole enc P f.params.toList s.vars apart W args.toList d [] a)
  (m:DataW.TrodAll enc P W 0 (λ_=>true) true f.params.toList args.toList d a)
  (r:(s.fn H d).args=d) (j:(s.fn H d).vars=[])
  (g:∀(b:Nat) (w:Nat->Bool) (n:Bool),DataW.TrodAll enc P i b w n f.resultTypes.toList (v.resultList f.resultTypes.size) (s.fn H d).results [])
  (l:o6 W i):s.post enc P f apart e c false W args v i:=by
 refine⟨d,[],a,[],a,[],k,?_,?_,?_,l.keptBut _,λh=>by cases h⟩
 .rw[ei5];exact g _ _ _
 .rw[ei5,r];exact bv4 o l u (λp q=>k.lt p q) m
 .rw[ei5,j,hv];exact rfl
end
end
section
open Go.ChangeShapes Go.WideShapes Go.ChangeAt Go.RowKit
section
variable {H:Type} {enc:TypeId×Value->H} {P:Program} {W:World} {base:Nat} {sp:Nat->Bool} {held:Bool}
def Opn(enc:TypeId×Value->H)(P:Program)(W:World)(base:Nat)(sp:Nat->Bool)(held:Bool)(α:Type)[A3 α](T:TypeId)(n:Nat):Prop:=
 ∀a d,DataW.trod enc P W base sp held n T a=some d->∃x:α,A3.enc (m8 W) a x
def bm8{T:TypeId}(a:P.underlying T=some (.int .i64))(n:Nat):Opn enc P W base sp held Int T n:=λb d h=>by
 obtain⟨k,rfl,_⟩:=DataW.trod_int a h;exact⟨k,rfl⟩
def bZ4{T:TypeId}(a:P.underlying T=some .bool)(n:Nat):Opn enc P W base sp held Bool T n:=λb d h=>by
 obtain⟨k,rfl,_⟩:=DataW.trod_bool a h;exact⟨k,rfl⟩
def aJ8{T:TypeId}(a:P.underlying T=some .string)(n:Nat):Opn enc P W base sp held A9 T n:=λc d h=>by
 obtain⟨⟨b⟩,rfl,_⟩:=DataW.trod_string a h;exact⟨ofA b,by rw[bI9];rfl⟩
def cn2{α:Type}[A3 α]{h:Hp}(a:Addr):∀(b:Nat),(∀i,i<b->∃e:List Value,e.length=A3.sz α/\(∀r,r<A3.sz α->M7 h ((a.add (i*A3.sz α)).add r)=e[r]?)/\∃x:α,A3.enc h e x) ->
  ∃(c:List Value) (f:List α),f.length=b/\c.length=b*A3.sz α/\Q8 h c f/\∀j u,c[j]?=some u->M7 h (a.add j)=some u
 | 0,_=>⟨[],[],rfl,by simp,rfl,λj u d=>by simp at d⟩
 | b+1,hx=>by
  obtain⟨c,f,m,g,n,o⟩:=cn2 a b λi t=>hx i (by omega);obtain⟨e,p,q,x,s⟩:=hx b (by omega);refine⟨c++e,f++[x],by simp[m],by rw[ef4,g,p,er2,Nat.one_mul],aj6 n (aj7 s),λj u d=>?_⟩;rcases ej6 j c.length with l|k
  .rw[ek3 l]at d;exact o j u d
  .rw[ek7 k]at d;have v:=(ef6.1 d).1;have:=q (j-c.length) (by omega);rw[Addr.add_add',g,show b*A3.sz α+(j-b*A3.sz α)=j by omega]at this;rw[this,<-g];exact d
def ar2{α:Type}[A3 α]{t e:TypeId}{n:Nat}(E:P.underlying t=some (.slice e))(A:P.cellsOf e=A3.sz α)(hn:∀m,m<n->Opn enc P W base sp held α e m):Opn enc P W base sp held (List α) t n:=λf d h=>by
 rcases DataW.trod_slice E h with⟨rfl,_⟩|⟨a,b,l,p,w,m,rfl,rfl,_,_,s,_,B,F,_⟩
 .exact⟨[],K9⟩
 .have c:∀i,i<b->∃f:List Value,f.length=A3.sz α/\(∀r,r<A3.sz α->M7 (m8 W) ((a.add (i*A3.sz α)).add r)=f[r]?)/\∃x:α,A3.enc (m8 W) f x:=λi C=>by
   have g:=F i C;rw[ef1 (by omega)]at g;obtain⟨o,z,q⟩:=el4.1 g;obtain⟨_,k,v⟩:=World.cells?_some z;rw[A]at k v;exact⟨o,k,v,hn m (by omega) _ _ q⟩
  obtain⟨y,G,g,_,q,k⟩:=cn2 (α:=α) a b c;exact⟨G,some a,b,l,rfl,g.symm,s,y,q,λj u D=>⟨a,rfl,k j u D⟩⟩
end
section
variable {H:Type} {enc:TypeId×Value->H} {W:World} {base:Nat} {sp:Nat->Bool} {held:Bool}
def aY9:Tryz.prog.cellsOf 9=1:=by kernel_rfl
def cs6:Tryz.prog.cellsOf 3=1:=by kernel_rfl
def da4:Tryz.prog.cellsOf 2=1:=by kernel_rfl
def bW4:Tryz.prog.cellsOf 4=1:=by kernel_rfl
def da3:Tryz.prog.cellsOf 31=1:=by kernel_rfl
def dM6:Tryz.prog.cellsOf 104=1:=by kernel_rfl
def dM5:Tryz.prog.cellsOf 107=1:=by kernel_rfl
def dz4:Tryz.prog.cellsOf 73=1:=by kernel_rfl
def dM8:Tryz.prog.cellsOf 72=1:=by kernel_rfl
def dN0:Tryz.prog.cellsOf 32=1:=by kernel_rfl
def dq5:Tryz.prog.cellsOf 106=4:=by kernel_rfl
def dM4:Tryz.prog.cellsOf 124=6:=by kernel_rfl
def dq6:Tryz.prog.cellsOf 109=13:=by kernel_rfl
def dM7:Tryz.prog.cellsOf 78=2:=by kernel_rfl
def dM9:Tryz.prog.cellsOf 75=5:=by kernel_rfl
def dZ2:Tryz.prog.cellsOf 34=2:=by kernel_rfl
def by2(n:Nat):Opn enc Tryz.prog W base sp held (List A9) 31 n:=ar2 Tryz.underlying31 aY9 λm _=>aJ8 Tryz.underlying9 m
def dP8(n:Nat):Opn enc Tryz.prog W base sp held Pa 78 n:=λk d h=>by
 obtain⟨l,m,rfl,rfl,g,a,f⟩:=DataW.trod_struct Tryz.underlying78 h;have a:l.length=2:=a;rw[dM7]at g
 match k,g with
 | [c0,c1],_=>
  have c:=f 0 _ rfl;have e:=f 1 _ rfl;rw[ef1 (by omega)]at c e;simp only[aY9,bW4,List.getElem_toArray,er5,ep9,en9,List.drop_succ_cons,er6,ep6]at c e;obtain⟨i,e0⟩:=aJ8 Tryz.underlying9 m _ _ c;obtain⟨j,b⟩:=bZ4 Tryz.underlying4 m _ _ e;have e0:[c0]=[p6 i]:=e0;have b:[c1]=[.bool j]:=b;simp only[eq9,and_true]at e0 b;subst e0;subst b;exact⟨⟨i,j⟩,rfl⟩
def dA7:∀n,Opn enc Tryz.prog W base sp held Ex 106 n:=λn=>by
 induction n using Nat.strongRecOn with
 | ind n t=>
 intro r d h;obtain⟨v,m,rfl,rfl,l,a,e⟩:=DataW.trod_struct Tryz.underlying106 h;have a:v.length=4:=a;rw[dq5]at l
 match r,l with
 | [c0,c1,c2,c3],_=>
  have f:=e 0 _ rfl;have g:=e 1 _ rfl;have i:=e 2 _ rfl;have j:=e 3 _ rfl;rw[ef1 (by omega)]at f g i j;simp only[aY9,cs6,da4,dM6,List.getElem_toArray,er5,ep9,en9,List.drop_succ_cons,er6,ep6]at f g i j;obtain⟨o,e0⟩:=bm8 Tryz.underlying3 m _ _ f;obtain⟨p,b⟩:=bm8 Tryz.underlying2 m _ _ g;obtain⟨q,c⟩:=aJ8 Tryz.underlying9 m _ _ i;obtain⟨u,s⟩:=ar2 Tryz.underlying104 dq5 (λk w=>t k (by omega)) _ _ j;have e0:[c0]=[.int .i64 o]:=e0;have b:[c1]=[.int .i64 p]:=b;have c:[c2]=[p6 q]:=c;simp only[eq9,and_true]at e0 b c;subst e0;subst b;subst c;exact⟨.mk o p q u,bC0.2 ⟨c3,rfl,s⟩⟩
def dP7(n:Nat):Opn enc Tryz.prog W base sp held Ar 124 n:=λl d h=>by
 obtain⟨q,m,rfl,rfl,i,a,g⟩:=DataW.trod_struct Tryz.underlying124 h;have a:q.length=3:=a;rw[dM4]at i
 match l,i with
 | [c0,c1,c2,c3,c4,c5],_=>
  have c:=g 0 _ rfl;have e:=g 1 _ rfl;have f:=g 2 _ rfl;rw[ef1 (by omega)]at c e f;simp only[aY9,bW4,dq5,List.getElem_toArray,er5,ep9,en9,List.drop_succ_cons,er6,ep6]at c e f;obtain⟨j,e0⟩:=bZ4 Tryz.underlying4 m _ _ c;obtain⟨k,b⟩:=aJ8 Tryz.underlying9 m _ _ e;obtain⟨p,o⟩:=dA7 m _ _ f;have e0:[c0]=[.bool j]:=e0;have b:[c1]=[p6 k]:=b;simp only[eq9,and_true]at e0 b;subst e0;subst b;exact⟨⟨j,k,p⟩,_,rfl,o⟩
def dQ1:∀n,Opn enc Tryz.prog W base sp held St 109 n:=λn=>by
 induction n using Nat.strongRecOn with
 | ind n w=>
 intro C d h;obtain⟨O,m,rfl,rfl,v,b,a⟩:=DataW.trod_struct Tryz.underlying109 h;have b:O.length=10:=b;rw[dq6]at v
 match C,v with
 | [c0,c1,c2,c3,c4,c5,c6,c7,c8,c9,c10,c11,c12],_=>
  have i:=a 0 _ rfl;have j:=a 1 _ rfl;have l:=a 2 _ rfl;have o:=a 3 _ rfl;have p:=a 4 _ rfl;have q:=a 5 _ rfl;have r:=a 6 _ rfl;have s:=a 7 _ rfl;have t:=a 8 _ rfl;have u:=a 9 _ rfl;rw[ef1 (by omega)]at i j l o p q r s t u;simp only[aY9,cs6,bW4,da3,dq5,dM5,dz4,List.getElem_toArray,er5,ep9,en9,List.drop_succ_cons,er6,ep6]at i j l o p q r s t u;obtain⟨x,e0⟩:=bm8 Tryz.underlying3 m _ _ i;obtain⟨y,c⟩:=bm8 Tryz.underlying3 m _ _ j;obtain⟨J,D⟩:=by2 m _ _ l;obtain⟨z,e⟩:=aJ8 Tryz.underlying9 m _ _ o;obtain⟨A,f⟩:=aJ8 Tryz.underlying9 m _ _ p;obtain⟨K,E⟩:=dA7 m _ _ q;obtain⟨B,g⟩:=bZ4 Tryz.underlying4 m _ _ r;obtain⟨L,F⟩:=ar2 Tryz.underlying107 dM4 (λk _=>dP7 k) _ _ s;obtain⟨M,G⟩:=ar2 Tryz.underlying73 dq6 (λk I=>w k (by omega)) _ _ t;obtain⟨N,H⟩:=ar2 Tryz.underlying73 dq6 (λk I=>w k (by omega)) _ _ u;have e0:[c0]=[.int .i64 x]:=e0;have c:[c1]=[.int .i64 y]:=c;have e:[c3]=[p6 z]:=e;have f:[c4]=[p6 A]:=f;have g:[c9]=[.bool B]:=g;simp only[eq9,and_true]at e0 c e f g;subst e0;subst c;subst e;subst f;subst g;exact⟨.mk x y J z A K B L M N,bC1.2 ⟨c2,[c5,c6,c7,c8],c10,c11,c12,rfl,D,E,F,G,H⟩⟩
def dQ0(n:Nat):Opn enc Tryz.prog W base sp held Pr 75 n:=λo d h=>by
 obtain⟨x,m,rfl,rfl,j,a,b⟩:=DataW.trod_struct Tryz.underlying75 h;have a:x.length=5:=a;rw[dM9]at j
 match o,j with
 | [c0,c1,c2,c3,c4],_=>
  have c:=b 0 _ rfl;have e:=b 1 _ rfl;have f:=b 2 _ rfl;have g:=b 3 _ rfl;have i:=b 4 _ rfl;rw[ef1 (by omega)]at c e f g i;simp only[aY9,da3,dM8,dz4,List.getElem_toArray,er5,ep9,en9,List.drop_succ_cons,er6,ep6]at c e f g i;obtain⟨l,e0⟩:=aJ8 Tryz.underlying9 m _ _ c;obtain⟨t,p⟩:=ar2 Tryz.underlying72 dM7 (λk _=>dP8 k) _ _ e;obtain⟨u,q⟩:=by2 m _ _ f;obtain⟨v,r⟩:=ar2 Tryz.underlying73 dq6 (λk _=>dQ1 k) _ _ g;obtain⟨w,s⟩:=by2 m _ _ i;have e0:[c0]=[p6 l]:=e0;simp only[eq9,and_true]at e0;subst e0;exact⟨⟨l,t,u,v,w⟩,c1,c2,c3,c4,rfl,p,q,r,s⟩
def dP9(n:Nat):Opn enc Tryz.prog W base sp held Pg 34 n:=λg d h=>by
 obtain⟨o,m,rfl,rfl,f,a,e⟩:=DataW.trod_struct Tryz.underlying34 h;have a:o.length=2:=a;rw[dZ2]at f
 match g,f with
 | [c0,c1],_=>
  have b:=e 0 _ rfl;have c:=e 1 _ rfl;rw[ef1 (by omega)]at b c;simp only[da3,dN0,List.getElem_toArray,er5,ep9,en9,List.drop_succ_cons,er6,ep6]at b c;obtain⟨j,e0⟩:=by2 m _ _ b;obtain⟨l,i⟩:=ar2 Tryz.underlying32 dM9 (λk _=>dQ0 k) _ _ c;exact⟨⟨j,l⟩,c0,c1,rfl,e0,i⟩
def bA3{v:Value}{d:DataW H}{f:List MemPlace}(h:DataW.Trod enc Tryz.prog W base sp held 34 v d f):∃p:Pg,SV (m8 W) v p:=by
 obtain⟨n,c⟩:=h;obtain⟨p,b⟩:=dP9 n _ _ c;have a:=A3.len b;have e:A3.sz Pg=2:=rfl;rw[e]at a;refine⟨p,v.cells.toList,?_,b⟩;cases v with
 | agg g=>simp[Value.cells]
 | _=>simp[Value.cells]at a
end
end
structure Im where
 s:St
 deep:Int
 up:Int
 els:Bool
instance:A3 Im where
 sz:=16
 pos:=by omega
 enc h cs p:=∃c,cs=c++[.int .i64 p.deep,.int .i64 p.up,.bool p.els]/\A3.enc h c p.s
 len:=by rintro h cs a ⟨c,rfl,h1⟩;have h4:c.length=13:=A3.len h1;simp[h4]
 mono:=by rintro h k cs a hk ⟨c,rfl,h1⟩;exact⟨c,rfl,A3.mono hk h1⟩
 one:=by
  rintro h cs a ⟨c,rfl,h1⟩ v hv;simp only[eg1,eh0,ek1,eq2]at hv;rcases hv with hv|rfl|rfl|rfl
  .exact A3.one h1 v hv
  all_goals rfl
end Go.Proofs.YtggahhenbbgffaaGreat
