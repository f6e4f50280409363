/- pdgEnds.proved: for every input the law returns true. No condition. Part 1 of 7. -/
import Derived.Calls
import Derived.IntWalk
import Derived.KernelRfl
import Derived.Laws.AppendOwn
import Derived.Laws.CopyRow
import Derived.Laws.Entries
import Derived.Laws.Sem
import Derived.Laws.Strings
import Derived.Orders
import Derived.OrdersHeld
import Derived.StillTail
import Derived.Test.YtdgicngfmfldmaaGreatProg
set_option maxRecDepth 1000000
set_option maxHeartbeats 8000000
set_option linter.unusedVariables false
set_option linter.unusedSimpArgs false
set_option linter.unnecessarySimpa false
namespace Go.Proofs.YtdgicngfmfldmaaGreat
open Go Tryz
theorem ev9:type_of% @Array.getElem?_eq_some_iff:=@Array.getElem?_eq_some_iff
theorem ex5:type_of% @Bool.and_eq_true:=@Bool.and_eq_true
theorem eB6:type_of% @Bool.false_eq_true:=@Bool.false_eq_true
theorem eH1:type_of% @Bool.or_eq_true:=@Bool.or_eq_true
theorem eE2:type_of% @List.all_eq_true:=@List.all_eq_true
theorem eF0:type_of% @List.getElem?_drop:=@List.getElem?_drop
theorem ex7:type_of% @List.length_cons:=@List.length_cons
theorem eF9:type_of% @List.mem_of_mem_drop:=@List.mem_of_mem_drop
theorem eE5:type_of% @Nat.add_assoc:=@Nat.add_assoc
theorem ew8:type_of% @Nat.le_refl:=@Nat.le_refl
theorem ez0:type_of% @Nat.lt_or_ge:=@Nat.lt_or_ge
theorem ez3:type_of% @decide_eq_true_eq:=@decide_eq_true_eq
theorem eD2:type_of% @if_false:=@if_false
theorem eB2:type_of% @if_true:=@if_true
abbrev Fr:=Nat→Value
def Z7(a:Act):Fr:=fun i=>a.tmps.getD i undef
def p6(f:Fr)(d:Nat)(v:Value):Fr:=fun i=>if i=d then v else f i
theorem ep8{f:Fr}{d:Nat}{v:Value}{i:Nat}:p6 f d v i=if i=d then v else f i:=rfl
def A5(f:Fr):Option Nat→Value→Fr
 | some d,v=>p6 f d v
 | none,_=>f
def okd(n:Nat):Option Nat→Bool
 | some d=>decide (d<n)
 | none=>true
def ev(f:Fr):Operand→Value
 | .tmp t=>f t
 | .const v=>v
 | .global g=>.pointer (some ⟨g,0,none⟩)
 | .func g=>.func (.func g) #[] #[]
theorem bz5(a:Act):a.eval=ev (Z7 a):=by
 funext x;cases x<;>rfl
theorem aP7(a:Act)(d:Option Nat)(v:Value):(a.put d v).tmps.size=a.tmps.size:=by
 cases d<;>simp[Act.put]
theorem aw5(a:Act)(d:Option Nat)(v:Value):(a.put d v).defers=a.defers:=by
 cases d<;>simp[Act.put]
theorem aN7(a:Act)(d:Option Nat)(v:Value)(h:okd a.tmps.size d=true):Z7 (a.put d v)=A5 (Z7 a) d v:=by
 cases d with
 | none=>rfl
 | some d=>
  have hd:d<a.tmps.size:=by simpa[okd]using h
  funext i
  simp only[Z7,Act.put,A5,p6,Array.getD_eq_getD_getElem?,Array.getElem?_setIfInBounds];by_cases hi:i=d
  ·subst hi;simp[hd]
  ·have:¬d=i:=fun e=>hi e.symm;simp[hi,this]
def aH3(ops:Array Oper)(f:Fr)(j:Nat):Option Bool:=
 match(ops[j]?).bind (·.dst)with
 | some d=>match f d with
   | .bool b=>some b
   | _=>none
 | none=>none
theorem aj5(ops:Array Oper)(a:Act):yielded ops a.tmps=aH3 ops (Z7 a):=by
 funext j
 unfold yielded aH3;cases h:(ops[j]?).bind (·.dst)with
 | none=>simp
 | some d=>
  simp only[Option.bind_some,Z7,Array.getD_eq_getD_getElem?];cases h2:a.tmps[d]? with
  | none=>simp[undef]
  | some v=>cases v<;>rfl
def N5(P:Program)(o:Oper)(K:Fr→World→Prop)(f:Fr)(w:World):Prop:=
 match(execOp (ev f) o).run P w with
 | .ok (.value v) w'=>K (A5 f o.dst v) w'
 | .ok .skip w'=>K (A5 f o.dst undef) w'
 | .ok (.enter g args) w'=>Calls P g args w' fun e w''=>∃v,e = .returned v∧K (A5 f o.dst v) w''
 | _=>False
theorem ae7{P:Program}{o:Oper}{K K':Fr→World→Prop}{f:Fr}{w:World}(h:∀f w,K f w→K' f w)(hs:N5 P o K f w):N5 P o K' f w:=by
 unfold N5 at *;generalize(execOp (ev f) o).run P w=r at *;cases r with
 | halt x w'=>exact hs
 | ok n w'=>
  cases n
  case value v=>exact h _ _ hs
  case skip=>exact h _ _ hs
  case enter g args=>exact Calls.mono hs fun e w'' ⟨v,he,hk⟩=>⟨v,he,h _ _ hk⟩
  all_goals exact hs
def bl8(P:Program)(S:World→Prop)(o:Oper)(f:Fr)(v:Value):Prop:=
 ∀w,S w→(execOp (ev f) o).run P w = .ok (.value v) w
def lft(n:Nat)(Q:Exit→Fr→World→Prop):Exit→Act→World→Prop:=fun e a w=>
 a.tmps.size=n∧a.defers=[]∧Q e (Z7 a) w
theorem bb9{P:Program}{o:Oper}{K:Fr→World→Prop}{a:Act}{w:World}{n:Nat}{Q:Exit→Act→World→Prop}
  {K':Act→World→Prop} (hn:a.tmps.size=n) (hd:a.defers=[]) (ho:okd n o.dst=true)
  (hK:∀a' w',a'.tmps.size=n→a'.defers=[]→K (Z7 a') w'→K' a' w') (hs:N5 P o K (Z7 a) w):o.wp P a w K' Q:=by
 unfold N5 at hs;unfold Oper.wp;rw[bz5];generalize(execOp (ev (Z7 a)) o).run P w=r at *;have key:∀v w',K (A5 (Z7 a) o.dst v) w'→K' (a.put o.dst v) w':=fun v w' h=>
  hK _ _ (by rw[aP7];exact hn) (by rw[aw5];exact hd) (by rw[aN7 _ _ _ (by rw[hn];exact ho)];exact h)
 cases r with
 | halt x w'=>exact hs.elim
 | ok n w'=>
  cases n
  case value v=>exact key _ _ hs
  case skip=>exact key _ _ hs
  case enter g args=>exact Calls.mono hs fun e w'' ⟨v,he,hk⟩=>by subst he;exact key _ _ hk
  all_goals exact hs.elim
def Run(P:Program)(ops:Array Oper):List Oper→(Fr→World→Prop)→Fr→World→Prop
 | [],K,f,w=>K f w
 | o::l,K,f,w=>if Region.wanted o (aH3 ops f)then N5 P o (Run P ops l K) f w else Run P ops l K (A5 f o.dst undef) w
def ct5(n:Nat)(ops:Array Oper):Bool:=ops.all fun o=>okd n o.dst
theorem ar0{P:Program}{ops:Array Oper}{n:Nat}{Q:Exit→Fr→World→Prop}:∀(l:List Oper) (a:Act) (w:World),(∀o∈l,okd n o.dst=true) →
  a.tmps.size=n→a.defers=[]→Run P ops l (Q .normal) (Z7 a) w→wpList P ops (lft n Q) l a w
 | [],a,w,_,hn,hd,h=>⟨hn,hd,h⟩
 | o::l,a,w,ho,hn,hd,h=>by
  unfold Run at h;unfold wpList;rw[aj5];split
  ·rename_i hw;rw[if_pos hw]at h;exact .inl (bb9 hn hd (ho o (by simp)) (fun a' w' hn' hd' h'=>ar0 l a' w' (fun o' h''=>ho o' (by simp[h''])) hn' hd' h') h)
  ·rename_i hw;rw[if_neg hw]at h;exact ar0 l _ _ (fun o' h''=>ho o' (by simp[h''])) (by rw[aP7];exact hn) (by rw[aw5];exact hd)
    (by rw[aN7 _ _ _ (by rw[hn];exact ho o (by simp))];exact h)
def flt:Op→Bool
 | .move _ | .assign _ | .pick .. | .load .. | .nilCheck _ | .binOp .. | .unOp .. | .convert .. | .makeFunc .. | .slice .. | .fieldAddr .. | .field .. | .indexAddr .. | .index .. | .lookup .. | .extract ..=>true
 | .call {callee:=.builtin b,..}=>match b with
   | .len | .cap | .min | .max=>true
   | _=>false
 | _=>false
inductive aA0 where
 | nil
 | op (i:Nat) (r:aA0)
 | fork (rs:List Nat) (k:Nat→aA0)
def ao8(P:Program)(ops:Array Oper)(S:World→Prop):aA0→(Fr→World→Prop)→Fr→World→Prop
 | .nil,K,f,w=>K f w
 | .op i l,K,f,w=>
  match ops[i]? with
  | none=>False
  | some o=>
   if Region.wanted o (aH3 ops f)then
    if flt o.op then ∃v,bl8 P S o f v∧ao8 P ops S l K (A5 f o.dst v) w
    else N5 P o (fun f' w'=>S w'∧ao8 P ops S l K f' w') f w
   else ao8 P ops S l K (A5 f o.dst undef) w
 | .fork rs k,K,f,w=>∀i∈rs,
   match ops[i]? with
   | none=>False
   | some o=>
    if Region.wanted o (aH3 ops f)then N5 P o (fun f' w'=>S w'∧ao8 P ops S (k i) K f' w') f w
    else ao8 P ops S (k i) K (A5 f o.dst undef) w
def aP0(ops:Array Oper)(n:Nat):Nat→aA0→Array Bool→Bool
 | 0,.nil,listed=>Region.seqB .any ops (ops.size-n) n listed
 | m+1,.op i l,listed=>decide (i<n)&&(match ops[i]? with
   | none=>false
   | some o=>(if flt o.op then(Region.ready .any ops listed).contains i&&Region.free .any ops listed i else decide (Region.ready .any ops listed=[i]))) &&
  aP0 ops n m l (listed.setIfInBounds i true)
 | m+1,.fork rs k,listed=>decide (Region.ready .any ops listed=rs) && !rs.isEmpty&&rs.all fun i=>decide (i<n)&&aP0 ops n m (k i) (listed.setIfInBounds i true)
 | _,_,_=>false
def bL1(ops:Array Oper)(n:Nat)(ord:aA0):Bool:=
 Region.noSelect ops&&(decide (n=ops.size)||(decide (n<ops.size)&&Region.sinkB .any ops n&&Region.chainB .any ops n)) &&
 aP0 ops n n ord (Array.replicate ops.size false)
section
variable {P:Program} {ops:Array Oper} {Q:Exit→Act→World→Prop} {S:World→Prop}
def aM3(P:Program)(ops:Array Oper)(Q:Exit→Act→World→Prop)(S:World→Prop)(n:Nat):Nat→Array Bool→Act→World→Prop
 | 0,listed,a,w=>Region.ready .any ops listed=[]∧Q .normal a w
 | fuel+1,listed,a,w=>
  (Region.ready .any ops listed=[]→Q .normal a w) ∧
  ∀i∈Region.ready .any ops listed,wpOp P ops Q i (fun a' w'=>(i<n→S w')∧aM3 P ops Q S n fuel (listed.setIfInBounds i true) a' w') a w
theorem bn6{n:Nat}:∀(fuel:Nat) (listed:Array Bool) (a:Act) (w:World),aM3 P ops Q S n fuel listed a w→wpAny P .any ops Q fuel listed a w
 | 0,_,_,_,h=>h
 | fuel+1,_,_,_,h=>⟨h.1,fun i hi=>wpOp_mono (fun a' w' h'=>bn6 fuel _ a' w' h'.2) (h.2 i hi)⟩
theorem bD4{n i:Nat}{oi:Oper}{v:Value}(hi:ops[i]?=some oi)(hsel:∀(j:Nat) (o:Oper) cs b,ops[j]?=some o→o.op ≠ .select cs b)
  (hQ:∀c a w,Q (.panic c) (a.put oi.dst v) w→Q (.panic c) a w) (hin:i<n)
  (htw:∀listed,HeadInv .any ops n listed→listed.getD i true=false→∀t,n≤t→t∉Region.ready .any ops listed) :
  ∀(fuel:Nat) (listed:Array Bool) (a:Act) (w:World),HeadInv .any ops n listed →
   (∀j oj,ops[j]?=some oj→j≠i→listed.getD j true=false→(∀e∈oj.after,Region.binds .any e=true→e.on≠i)→oi.apart ops oj=true) →
   i∈Region.ready .any ops listed→YieldsIf P ops S oi v a→S w →
   aM3 P ops Q S n fuel (listed.setIfInBounds i true) (a.put oi.dst v) w→aM3 P ops Q S n (fuel+1) listed a w:=by
 intro fuel
 induction fuel with
 | zero=>
  intro listed a w _ _ hr hy hS H;refine⟨fun h=>(by rw[h]at hr;cases hr),fun j hj=>?_⟩;by_cases hji:j=i
  ·subst hji;exact hy.wpOp hi hS ⟨fun _=>hS,H⟩
  ·have:=ready_mono hj hji;rw[H.1]at this;cases this
 | succ fuel ih=>
  intro listed a w inv hfree hr hy hS H;refine⟨fun h=>(by rw[h]at hr;cases hr),fun j hj=>?_⟩;by_cases hji:j=i
  ·subst hji;exact hy.wpOp hi hS ⟨fun _=>hS,H⟩
  ·have h1:=H.2 j (ready_mono hj hji);obtain⟨hjun,oj,hoj,hall⟩:=mem_ready.1 hj;have hiun:=(mem_ready.1 hr).1;have hjn:j<n:=by
    rcases ez0 j n with h|h
    ·exact h
    ·exact absurd hj (htw listed inv hiun j h)
   have hnot:∀e∈oj.after,Region.binds .any e=true→e.on≠i:=fun e he hb heq=>by
    have h1:=hall e he hb;rw[heq,getD_both hiun]at h1;cases h1
   have h2:=wpOp_putIf hoj (hfree j oj hoj hji hjun hnot) (fun cs b=>hsel i oi cs b hi) (fun cs b=>hsel j oj cs b hoj) hQ hy h1;have hfree':∀k ok,ops[k]?=some ok→k≠i→(listed.setIfInBounds j true).getD k true=false →
     (∀e∈ok.after,Region.binds .any e=true→e.on≠i)→oi.apart ops ok=true:=fun k ok hk hki hun hno=>by
    refine hfree k ok hk hki ?_ hno;by_cases hjk:j=k
    ·subst hjk;exact hjun
    ·rw[getD_set_ne true hjk]at hun;exact hun
   refine wpOp_mono (fun a' w' h3=>⟨h3.2.1,ih (listed.setIfInBounds j true) a' w' (inv.set hj hjn) hfree' (ready_mono hr (Ne.symm hji)) h3.1 (h3.2.1 hjn) ?_⟩) h2;rw[Array.setIfInBounds_comm _ _ hji];exact h3.2.2
theorem ar1{o:Oper}{i n:Nat}{K:Fr→World→Prop}{a:Act}{w:World}{K':Act→World→Prop}(hi:ops[i]?=some o)
  (hn:a.tmps.size=n) (hd:a.defers=[]) (ho:okd n o.dst=true) (hK:∀a' w',a'.tmps.size=n→a'.defers=[]→K (Z7 a') w'→K' a' w')
  (h:if Region.wanted o (aH3 ops (Z7 a))then N5 P o K (Z7 a) w else K (A5 (Z7 a) o.dst undef) w):wpOp P ops Q i K' a w:=by
 unfold wpOp;simp only[hi];rw[aj5];split
 ·rename_i hw;rw[if_pos hw]at h;exact .inl (bb9 hn hd ho hK h)
 ·rename_i hw;rw[if_neg hw]at h;exact hK _ _ (by rw[aP7];exact hn) (by rw[aw5];exact hd) (by rw[aN7 _ _ _ (by rw[hn];exact ho)];exact h)
theorem aJ2{n N:Nat}{Q:Exit→Fr→World→Prop}:∀(l:List Oper) (k:Nat) (listed:Array Bool) (a:Act) (w:World),(∀j,l[j]?=ops[k+j]?)→n≤k →
  (∀o∈l,okd N o.dst=true)→a.tmps.size=N→a.defers=[] →
  Region.seqB .any ops l.length k listed=true→Run P ops l (Q .normal) (Z7 a) w→aM3 P ops (lft N Q) S n l.length listed a w
 | [],_,_,_,_,_,_,_,hn,hd,hB,h=>⟨by simpa[Region.seqB]using hB,hn,hd,h⟩
 | o::l,k,listed,a,w,hl,hk,ho,hn,hd,hB,h=>by
  have h0:ops[k]?=some o:=by simpa using(hl 0).symm
  simp only[ex7,Region.seqB,ex5,ez3]at hB;refine⟨fun h1=>(by rw[hB.1]at h1;cases h1),fun i hi=>?_⟩;rw[hB.1]at hi;have hik:i=k:=by simpa using hi
  subst hik;refine ar1 h0 hn hd (ho o (by simp)) (K:=Run P ops l (Q .normal)) (fun a' w' hn' hd' h'=>⟨fun h=>by omega,?_⟩) (by unfold Run at h;exact h);exact aJ2 l (i+1) _ a' w' (fun j=>by have:=hl (j+1);simpa[eE5,Nat.add_comm 1 j]using this) (by omega) (fun o' h''=>ho o' (by simp[h''])) hn' hd' hB.2 h'
theorem bn5{n N:Nat}{Q:Exit→Fr→World→Prop}(hQ:∀c f w,¬Q (.panic c) f w)(hs:Region.noSelect ops=true)
  (htw:∀i,i<n→∀listed,HeadInv .any ops n listed→listed.getD i true=false→∀t,n≤t→t∉Region.ready .any ops listed) (hdst:∀o∈ops.toList,okd N o.dst=true) :
  ∀(m:Nat) (l:aA0) (listed:Array Bool) (a:Act) (w:World),HeadInv .any ops n listed→a.tmps.size=N→a.defers=[]→S w→aP0 ops n m l listed=true →
   ao8 P ops S l (Run P ops (ops.toList.drop n) (Q .normal)) (Z7 a) w→aM3 P ops (lft N Q) S n (m+(ops.size-n)) listed a w:=by
 have hmem:∀{i:Nat} {o:Oper},ops[i]?=some o→okd N o.dst=true:=by
  intro i o ho;have:=Array.mem_of_getElem? ho;exact hdst o (by simpa using this)
 intro m
 induction m with
 | zero=>
  intro l listed a w inv ha hd _ hB h;cases l
  case nil=>
   have:=aJ2 (S:=S) (n:=n) (N:=N) (Q:=Q) (P:=P) (ops:=ops) (ops.toList.drop n) n listed a w (fun j=>by simp[eF0]) (ew8 _)
    (fun o ho=>hdst o (eF9 ho)) ha hd (by simpa[aP0]using hB) h
   simpa using this
  all_goals (simp[aP0]at hB)
 | succ m ih=>
  intro l listed a w inv ha hd hS hB h;have e1:m+1+(ops.size-n)=(m+(ops.size-n))+1:=by omega
  rw[e1];cases l
  case nil=>simp[aP0]at hB
  case op i l=>
   simp only[aP0,ex5,ez3]at hB;obtain⟨⟨hin,hB1⟩,hB2⟩:=hB;simp only[ao8]at h;cases hoi:ops[i]? with
   | none=>simp[hoi]at h
   | some o=>
    simp only[hoi]at h hB1;have hod:=hmem hoi;by_cases hf:flt o.op=true
    ·simp only[hf,eB2,ex5]at h hB1;have hr:i∈Region.ready .any ops listed:=by simpa using hB1.1
     have step:∀v,YieldsIf P ops S o v a→ao8 P ops S l (Run P ops (ops.toList.drop n) (Q .normal)) (A5 (Z7 a) o.dst v) w →
       aM3 P ops (lft N Q) S n ((m+(ops.size-n))+1) listed a w:=fun v hy hK=>
      bD4 hoi (Region.noSelect_spec hs) (fun c a w hh=>absurd hh.2.2 (hQ _ _ _)) hin (htw i hin) _ listed a w inv (Region.free_spec hoi hB1.2) hr hy hS
       (ih l _ _ w (inv.set hr hin) (by rw[aP7];exact ha) (by rw[aw5];exact hd) hS hB2 (by rw[aN7 _ _ _ (by rw[ha];exact hod)];exact hK))
     by_cases hw:Region.wanted o (aH3 ops (Z7 a))=true
     ·rw[if_pos hw]at h;obtain⟨v,hv,hK⟩:=h;refine step v (.inl ⟨by rw[aj5];exact hw,fun w' hw'=>?_⟩) hK;rw[bz5];exact hv w' hw'
     ·rw[if_neg hw]at h;exact step undef (.inr ⟨by rw[aj5];simpa using hw,rfl⟩) h
    ·simp only[hf,eB6,eD2,ez3]at h hB1;have hr:i∈Region.ready .any ops listed:=by rw[hB1];simp
     refine⟨fun h1=>(by rw[hB1]at h1;cases h1),fun j hj=>?_⟩;rw[hB1]at hj;have hji:j=i:=by simpa using hj
     subst hji;refine ar1 hoi ha hd hod (K:=fun f' w'=>S w'∧ao8 P ops S l (Run P ops (ops.toList.drop n) (Q .normal)) f' w') (fun a' w' ha' hd' h'=>⟨fun _=>h'.1,?_⟩) ?_
     ·exact ih l _ a' w' (inv.set hr hin) ha' hd' h'.1 hB2 h'.2
     ·split
      ·rename_i hw;rw[if_pos hw]at h;exact h
      ·rename_i hw;rw[if_neg hw]at h;exact⟨hS,h⟩
  case fork rs k=>
   simp only[aP0,ex5,ez3,eE2]at hB;obtain⟨⟨hrs,hne⟩,hall⟩:=hB;simp only[ao8]at h;refine⟨fun h1=>(by rw[hrs]at h1;subst h1;simp at hne),fun i hi=>?_⟩;have hi':i∈rs:=by rw[hrs]at hi;exact hi
   have h2:=h i hi';obtain⟨hin,hB2⟩:=hall i hi';cases hoi:ops[i]? with
   | none=>simp[hoi]at h2
   | some o=>
    simp only[hoi]at h2;refine ar1 hoi ha hd (hmem hoi) (K:=fun f' w'=>S w'∧ao8 P ops S (k i) (Run P ops (ops.toList.drop n) (Q .normal)) f' w') (fun a' w' ha' hd' h'=>⟨fun _=>h'.1,?_⟩) ?_
    ·exact ih (k i) _ a' w' (inv.set hi hin) ha' hd' h'.1 hB2 h'.2
    ·split
     ·rename_i hw;rw[if_pos hw]at h2;exact h2
     ·rename_i hw;rw[if_neg hw]at h2;exact⟨hS,h2⟩
theorem bn7{id n N:Nat}{ord:aA0}{Q:Exit→Fr→World→Prop}{a:Act}{w:World}(hm:P.follows .mixedOrders=true)(hQ:∀c f w,¬Q (.panic c) f w)
  (hok:bL1 ops n ord=true) (hdst:ct5 N ops=true) (ha:a.tmps.size=N) (hd:a.defers=[]) (hS:S w.drew)
  (h:ao8 P ops S ord (Run P ops (ops.toList.drop n) (Q .normal)) (Z7 a) w.drew):(Code.region id ops true).wp P (lft N Q) a w:=by
 simp only[bL1,ex5]at hok;obtain⟨⟨hs,hsz⟩,hord⟩:=hok;have hn:n≤ops.size:=by
  simp only[eH1,ez3,ex5]at hsz;omega
 have inv0:HeadInv .any ops n (Array.replicate ops.size false):=
  ⟨by simp,fun j oj _ hl=>(by rw[getD_replicate_false]at hl;cases hl),fun t _ ht=>getD_in (by simpa using ht) (getD_replicate_false _ _)⟩
 have htw:∀i,i<n→∀listed,HeadInv .any ops n listed→listed.getD i true=false→∀t,n≤t→t∉Region.ready .any ops listed:=by
  intro i hi listed inv hun t ht hr;simp only[eH1,ez3,ex5]at hsz;rcases hsz with h1|⟨⟨h1,h2⟩,h3⟩
  ·obtain⟨_,ot,hot,_⟩:=mem_ready.1 hr;have:=(ev9.1 hot).1;omega
  ·exact tail_waits h2 h3 h1 inv _ i rfl hi hun t ht hr
 refine wp_region_any hm (bn6 (S:=S) (n:=n) _ _ _ _ ?_);have hd':∀o∈ops.toList,okd N o.dst=true:=by
  intro o ho;have:=Array.all_eq_true'.1 hdst o (by simpa using ho);exact this
 have:=bn5 (S:=S) hQ hs htw hd' n ord _ a w.drew inv0 ha hd hS hord h
 rwa [show n+(ops.size-n)=ops.size by omega]at this
end
theorem eC7:type_of% @List.getElem?_eq_none:=@List.getElem?_eq_none
theorem ez9:type_of% @List.map_cons:=@List.map_cons
theorem eB0:type_of% @Option.isSome_iff_exists:=@Option.isSome_iff_exists
theorem eB4:type_of% @Option.map_some:=@Option.map_some
theorem ex1:type_of% @Option.some.inj:=@Option.some.inj
theorem eG4:type_of% @Option.some.injEq:=@Option.some.injEq
theorem ew9:type_of% @Result.andThen_ok:=@Result.andThen_ok
theorem ex6:type_of% @Sem.run_bind:=@Sem.run_bind
theorem ey9:type_of% @Sem.run_pure:=@Sem.run_pure
def A6(P:Program)(t:TypeId):Option TypeId:=match P.underlying t with
 | some (.slice e)=>some e
 | _=>none
def bC5(P:Program)(t:TypeId):Bool:=match P.underlying t with
 | some .string=>true
 | _=>false
def C3(P:Program)(t:TypeId):Option (Nat×TypeId):=match P.underlying t with
 | some (.array n e)=>some (n,e)
 | _=>none
def E3(P:Program)(t:TypeId):Nat:=((P.info? t).map (·.size)).getD 0
def H6(P:Program)(t:TypeId):Option Value:=(P.info? t).bind (·.zero)
def cs5(P:Program)(t:TypeId):Nat:=((P.info? t).map (·.bytes)).getD 0
def B6(P:Program)(t:TypeId):Bool:=match P.underlying t with
 | some (.struct _)=>true
 | some (.array _ _)=>true
 | none=>true
 | _=>false
def y0(P:Program)(s:TypeId)(i:Nat):Option (Nat×TypeId):=match P.underlying s with
 | some (.struct fs)=>match fs[i]? with
   | some fl=>if E3 P fl.type=0 then none else some (fl.offset,fl.type)
   | none=>none
 | _=>none
def H7(P:Program)(t:TypeId):Nat:=match P.underlying t with
 | some .bool=>1
 | some (.pointer _)=>2
 | some (.slice _)=>3
 | some (.map _ _)=>4
 | some (.func _ _ _)=>5
 | some (.interface _)=>6
 | _=>0
def az3(P:Program)(t:TypeId):Option IntKind:=match P.underlying t with
 | some (.int k)=>some k
 | _=>none
def E5(P:Program)(t:TypeId):Option (Array Value×List (Nat×Nat)):=match(P.info? t).bind (·.zero),P.underlying t with
 | some z,some (.struct fs)=>if fs.toList.all (fun fl=>(P.info? fl.type).isSome)then some (z.cells,fs.toList.map fun fl=>(fl.offset,E3 P fl.type))else none
 | some z,some (.array n e)=>if(P.info? e).isSome then some (z.cells,(List.range n).map fun i=>(i*E3 P e,E3 P e))else none
 | _,_=>none
def isS:Value→Bool
 | .slice _ _ _=>true
 | _=>false
def vlen:Value→Nat
 | .slice _ n _=>n
 | _=>0
def bJ9:Value→Bool
 | .slice none _ _=>true
 | _=>false
def vcap:Value→Nat
 | .slice _ _ c=>c
 | _=>0
def inS:Value→Nat→Bool
 | .slice (some _) n _,k=>decide (k<n)
 | _,_=>false
def H4:Value→Nat→Addr
 | .slice (some a) _ _,k=>a.add k
 | _,_=>default
def reS(v:Value)(l h sz:Nat):Value:=match v with
 | .slice a _ cap=>.slice (if cap=l then a else a.map (·.add (l*sz))) (h-l) (cap-l)
 | _=>undef
def E7(op:BinOp)(k:IntKind)(a b:Int):Option Value:=match op with
 | .add=>some (.int k (k.wrap (a+b)))
 | .sub=>some (.int k (k.wrap (a-b)))
 | .mul=>some (.int k (k.wrap (a*b)))
 | .quo=>if b=0 then none else some (.int k (k.wrap (a.tdiv b)))
 | .rem=>if b=0 then none else some (.int k (a.tmod b))
 | .eql=>some (.bool (a==b))
 | .neq=>some (.bool (a != b))
 | .lss=>some (.bool (a<b))
 | .leq=>some (.bool (a≤b))
 | .gtr=>some (.bool (a>b))
 | .geq=>some (.bool (a≥b))
 | .and=>some (.int k (k.wrap (BitVec.ofInt k.bits a &&& BitVec.ofInt k.bits b).toNat))
 | .or=>some (.int k (k.wrap (BitVec.ofInt k.bits a ||| BitVec.ofInt k.bits b).toNat))
 | .xor=>some (.int k (k.wrap (BitVec.ofInt k.bits a ^^^ BitVec.ofInt k.bits b).toNat))
 | .andNot=>some (.int k (k.wrap (BitVec.ofInt k.bits a &&& ~~~BitVec.ofInt k.bits b).toNat))
 | _=>none
def B7(P:Program)(op:BinOp)(t:TypeId):Value→Value→Option Value
 | .int k a,.int k' b=>match op with
   | .shl=>if b<0 then none else some (.int k (k.wrap (a*2 ^ (min b.toNat k.bits))))
   | .shr=>if b<0 then none else some (.int k (a.fdiv (2 ^ (min b.toNat k.bits))))
   | _=>if k=k' then E7 op k a b else none
 | .string a,.string b=>match op with
   | .eql=>some (.bool (a.toList==b.toList))
   | .neq=>some (.bool !(a.toList==b.toList))
   | .lss=>some (.bool (Op.bytesLess a.toList b.toList))
   | .leq=>some (.bool (Op.bytesLess a.toList b.toList||a.toList==b.toList))
   | .gtr=>some (.bool !(Op.bytesLess a.toList b.toList||a.toList==b.toList))
   | .geq=>some (.bool !(Op.bytesLess a.toList b.toList))
   | .add=>if((a.size+b.size:Nat):Int)>IntKind.i64.max then none else some (.string (a++b))
   | _=>none
 | .bool a,.bool b=>match op with
   | .eql=>if H7 P t=1 then some (.bool (a==b))else none
   | .neq=>if H7 P t=1 then some (.bool !(a==b))else none
   | _=>none
 | .pointer a,.pointer none=>match op with
   | .eql=>if H7 P t=2 then some (.bool a.isNone)else none
   | .neq=>if H7 P t=2 then some (.bool !a.isNone)else none
   | _=>none
 | a,.slice none 0 0=>match op with
   | .eql=>if isS a&&H7 P t==3 then some (.bool (bJ9 a))else none
   | .neq=>if isS a&&H7 P t==3 then some (.bool !(bJ9 a))else none
   | _=>none
 | _,_=>none
def unV(op:UnOp):Value→Option Value
 | .bool b=>match op with
   | .not=>some (.bool !b)
   | _=>none
 | .int k n=>match op with
   | .neg=>some (.int k (k.wrap (0-n)))
   | _=>none
 | _=>none
def bz6(P:Program)(s:TypeId)(i:Nat):Value→Option Value
 | .pointer (some a)=>match y0 P s i with
   | some (o,_)=>some (.pointer (some (a.add o)))
   | none=>none
 | _=>none
def bK6(P:Program)(t:TypeId)(cs:Array Value)(o:Nat):Option Value:=
 if B6 P t then(if(P.info? t).isSome&&(P.underlying t).isSome then some (.agg (cs.extract o (o+E3 P t)))else none)else cs[o]?
def cu1(P:Program)(s:TypeId)(i:Nat):Value→Option Value
 | .agg cs=>match y0 P s i with
   | some (o,t)=>bK6 P t cs o
   | none=>none
 | _=>none
def p9(P:Program)(t:TypeId)(x:Value):Value→Option Value
 | .int _ n=>match A6 P t with
   | some e=>if(P.info? e).isSome&&decide (0≤n)&&inS x n.toNat then some (.pointer (some (H4 x (n.toNat*E3 P e))))else none
   | none=>match C3 P t,x with
     | some (len,e),.pointer (some a)=>if(P.info? e).isSome&&decide (0≤n)&&decide (n<len)then some (.pointer (some (a.add (n.toNat*E3 P e))))else none
     | _,_=>none
 | _=>none
def aK5(P:Program)(t:TypeId)(x:Value):Value→Option Value
 | .int _ n=>match C3 P t,x with
   | some (len,e),.agg cs=>if(P.info? e).isSome&&decide (0≤n)&&decide (n<len)then bK6 P e cs (n.toNat*E3 P e)else none
   | none,.string s=>if bC5 P t&&decide (0≤n)then(s[n.toNat]?).map fun b=>.int .u8 b.toNat else none
   | _,_=>none
 | _=>none
def F8(P:Program)(t:TypeId)(x:Value)(lo hi:Option Value):Option Value:=
 match(match lo with|none=>some 0|some (.int _ n)=>some n|_=>none:Option Int),
  (match hi with|none=>some ((if isS x then vlen x else match x with | .string s=>s.size|_=>0:Nat):Int)|some (.int _ n)=>some n|_=>none:Option Int)with
 | some l,some h=>match A6 P t with
   | some e=>if(P.info? e).isSome&&isS x&&decide (0≤l)&&decide (l≤h)&&decide (h≤vcap x)then some (reS x l.toNat h.toNat (E3 P e))else none
   | none=>match x with
     | .string s=>if bC5 P t&&decide (0≤l)&&decide (l≤h)&&decide (h≤s.size)then some (.string (s.extract l.toNat h.toNat))else none
     | _=>none
 | _,_=>none
def T6(P:Program)(t:TypeId)(x:Value):Option Value:=
 if(A6 P t).isSome then(if isS x then some (.int .i64 (vlen x))else none)
 else match x with
  | .string s=>if bC5 P t then some (.int .i64 s.size)else none
  | _=>match C3 P t with
    | some (n,_)=>some (.int .i64 n)
    | none=>none
def cL9(P:Program)(t:TypeId)(x:Value):Option Value:=
 if(A6 P t).isSome&&isS x then some (.int .i64 (vcap x))else none
def aX2(P:Program)(s d:TypeId):Value→Option Value
 | .int _ n=>match az3 P d with
   | some k=>if(P.underlying s).isSome then some (.int k (k.wrap n))else none
   | none=>none
 | _=>none
def J5(pl:List (Nat×Nat))(cs:Array Value)(parts:List (Nat×Value)):Option (Array Value):=Instr.fill (fun i=>pl[i]?) cs parts
def B9(P:Program)(t:TypeId)(parts:List (Nat×Value)):Option Value:=
 match E5 P t with
 | some (z,pl)=>(J5 pl z parts).map .agg
 | none=>none
def cz2:Value→Value→Option Value
 | .int k x,.int _ y=>some (.int k (if y<x then y else x))
 | _,_=>none
def cz1:Value→Value→Option Value
 | .int k x,.int _ y=>some (.int k (if y>x then y else x))
 | _,_=>none
def ap9(P:Program)(f:Fr):Op→Option Value
 | .move x=>some (ev f x)
 | .assign x=>some (ev f x)
 | .pick c a b=>match ev f c with
   | .bool t=>some (if t then ev f a else ev f b)
   | _=>none
 | .binOp op t x y _=>B7 P op t (ev f x) (ev f y)
 | .unOp op _ x=>unV op (ev f x)
 | .fieldAddr s x i=>bz6 P s i (ev f x)
 | .field s x i=>cu1 P s i (ev f x)
 | .indexAddr t x i=>p9 P t (ev f x) (ev f i)
 | .index t x i=>aK5 P t (ev f x) (ev f i)
 | .slice t x lo hi none=>F8 P t (ev f x) (lo.map (ev f)) (hi.map (ev f))
 | .extract x i=>match ev f x with
   | .tuple vs=>vs[i]?
   | _=>none
 | .convert s d x=>aX2 P s d (ev f x)
 | .nilCheck x=>match ev f x with
   | .pointer (some a)=>some (.pointer (some a))
   | _=>none
 | .makeFunc fn first cap=>some (.func fn (first.map (ev f)) (cap.map (ev f)))
 | .build t parts=>B9 P t (parts.toList.map fun p=>(p.1,ev f p.2))
 | .call c=>match c.callee with
   | .builtin .len=>match c.args.toList,c.argTypes.toList with
     | [x],[t]=>T6 P t (ev f x)
     | _,_=>none
   | .builtin .cap=>match c.args.toList,c.argTypes.toList with
     | [x],[t]=>cL9 P t (ev f x)
     | _,_=>none
   | .builtin .min=>match c.args.toList with
     | [x,y]=>cz2 (ev f x) (ev f y)
     | _=>none
   | .builtin .max=>match c.args.toList with
     | [x,y]=>cz1 (ev f x) (ev f y)
     | _=>none
   | _=>none
 | _=>none
section
variable {P:Program}
theorem F5(t:TypeId)(w:World):(underlying t).run P w=match P.underlying t with
  | some d=>.ok d w
  | none=>.halt (.stuck "no such type") w:=by
 simp only[underlying,program,ex6,Sem.run,ew9];cases P.underlying t<;>rfl
theorem N2(t:TypeId)(w:World):(typeInfo t).run P w=match P.info? t with
  | some d=>.ok d w
  | none=>.halt (.stuck "no such type") w:=by
 simp only[typeInfo,program,ex6,Sem.run,ew9];cases P.info? t<;>rfl
theorem N4{t:TypeId}(h:(P.info? t).isSome=true)(w:World):(sizeOf t).run P w = .ok (E3 P t) w:=by
 obtain⟨i,hi⟩:=eB0.1 h;simp[sizeOf,N2,hi,E3]
theorem W1(t:TypeId)(h:(P.underlying t).isSome=true)(w:World):(isAgg t).run P w = .ok (B6 P t) w:=by
 obtain⟨i,hi⟩:=eB0.1 h;unfold isAgg B6;rw[ex6,F5,hi];cases i<;>rfl
theorem aR6{t:TypeId}(h:B6 P t=false):(P.underlying t).isSome=true:=by
 unfold B6 at h;cases hu:P.underlying t with
 | none=>simp[hu]at h
 | some d=>rfl
theorem bk4{t:TypeId}{cs:Array Value}{o:Nat}{v:Value}(h:bK6 P t cs o=some v)(w:World):(part t cs o).run P w = .ok v w:=by
 unfold bK6 at h;unfold part;by_cases ha:B6 P t=true
 ·rw[if_pos ha]at h;by_cases hi:((P.info? t).isSome&&(P.underlying t).isSome)=true
  ·rw[if_pos hi]at h;simp only[ex5]at hi;obtain rfl:=ex1 h;simp only[ex6,W1 t hi.2,ew9,ha,Sem.run_ite,eB2,N4 hi.1,ey9]
  ·rw[if_neg hi]at h;cases h
 ·have ha':B6 P t=false:=by simpa using ha
  rw[if_neg ha]at h;simp only[ex6,W1 t (aR6 ha'),ew9,ha',eB6,eD2,h,ey9]
theorem aV0{op:BinOp}{t:TypeId}{x y:Operand}{a b:Value}(h1:a ≠ .nilIface)(h2:∀cs,a ≠ .agg cs)(w:World):
  (eqGuard op t x y a b).run P w = .ok () w:=by
 unfold eqGuard;cases op<;>first|rfl|(cases a<;>first|rfl|exact absurd rfl h1|exact absurd rfl (h2 _))
theorem bQ0{op:BinOp}{t:TypeId}{x y:Operand}{a b v:Value}(h:B7 P op t a b=some v)(w:World):
  (do eqGuard op t x y a b;binOp op t a b:Sem Value).run P w = .ok v w:=by
 have hg:(eqGuard op t x y a b).run P w = .ok () w:=by
  apply aV0
  ·rintro rfl;unfold B7 at h;split at h<;>first
    | (simp_all;done)
    | (split at h<;>simp_all [isS])
  ·rintro cs rfl;unfold B7 at h;split at h<;>first
    | (simp_all;done)
    | (split at h<;>simp_all [isS])
 rw[ex6,hg,ew9];unfold B7 at h;split at h
 ·split at h
  ·split at h
   ·cases h
   ·rename_i hb;obtain rfl:=ex1 h;simp[binOp,Op.shift,hb]
  ·split at h
   ·cases h
   ·rename_i hb;obtain rfl:=ex1 h;simp[binOp,Op.shift,hb]
  ·rename_i h1 h2;split at h
   ·rename_i hk;subst hk;unfold E7 at h;cases op<;>simp only[eG4]at h <;>
     first
     | (subst h;simp[binOp,Op.intArith,Op.intCmp,Op.intBits])
     | (split at h<;>first|(rename_i hb;obtain rfl:=ex1 h;simp[binOp,Op.intDiv,hb];done)|(cases h;done))
     | (exact absurd rfl (by assumption))
     | cases h
   ·cases h
 ·split at h<;>first
   | (obtain rfl:=ex1 h;simp[binOp,Op.stringOp])
   | (split at h<;>first|(rename_i hb;obtain rfl:=ex1 h;simp only[binOp,Op.stringOp];rw[if_neg hb];rfl)|(cases h;done))
   | cases h
 ·have key:∀{p q:Bool},H7 P t=1→(Op.equal t (.bool p) (.bool q)).run P w = .ok (p==q) w:=by
   intro p q ht;unfold H7 at ht;unfold Op.equal Op.maxDepth Op.equalIn;rw[ex6,F5];cases hu:P.underlying t with
   | none=>simp[hu]at ht
   | some d=>cases d<;>simp[hu]at ht ⊢
  split at h<;>first
   | (split at h
      ·rename_i ht;obtain rfl:=ex1 h;simp[binOp,key ht]
      ·cases h)
   | cases h
 ·have key:∀{p:Option Addr},H7 P t=2→(Op.equal t (.pointer p) (.pointer none)).run P w = .ok p.isNone w:=by
   intro p ht;unfold H7 at ht;unfold Op.equal Op.maxDepth Op.equalIn;rw[ex6,F5];cases hu:P.underlying t with
   | none=>simp[hu]at ht
   | some d=>cases d<;>simp[hu]at ht ⊢<;> (cases p<;>rfl)
  split at h<;>first
   | (split at h
      ·rename_i ht;obtain rfl:=ex1 h;simp[binOp,key ht]
      ·cases h)
   | cases h
 ·have key:isS a=true→H7 P t=3→(Op.equal t a (.slice none 0 0)).run P w = .ok (bJ9 a) w:=by
   intro hs ht;cases a
   case slice p n c=>
    unfold H7 at ht;unfold Op.equal Op.maxDepth Op.equalIn;rw[ex6,F5];cases hu:P.underlying t with
    | none=>simp[hu]at ht
    | some d=>cases d<;>simp[hu]at ht ⊢<;> (cases p<;>rfl)
   all_goals (simp[isS]at hs)
  have hop:isS a=true→binOp .eql t a (.slice none 0 0)=(do pure (.bool (←Op.equal t a (.slice none 0 0))))∧binOp .neq t a (.slice none 0 0)=(do pure (.bool (!(←Op.equal t a (.slice none 0 0))))):=by
   intro hs;cases a
   case slice p n c=>exact⟨rfl,rfl⟩
   all_goals (simp[isS]at hs)
  split at h<;>first
   | (split at h
      ·rename_i ht;simp only[ex5,beq_iff_eq]at ht;obtain rfl:=ex1 h
       first|rw[(hop ht.1).1]|rw[(hop ht.1).2]
       simp[key ht.1 ht.2]
      ·cases h)
   | cases h
 ·cases h
theorem K8{t e:TypeId}(h:A6 P t=some e):P.underlying t=some (.slice e):=by
 unfold A6 at h;cases hu:P.underlying t with
 | none=>simp[hu]at h
 | some d=>cases d<;>simp[hu]at h;subst h;rfl
theorem aS5{t e:TypeId}{n:Nat}(h:C3 P t=some (n,e)):P.underlying t=some (.array n e):=by
 unfold C3 at h;cases hu:P.underlying t with
 | none=>simp[hu]at h
 | some d=>cases d<;>simp[hu]at h;obtain⟨rfl,rfl⟩:=h;rfl
theorem aG5{t:TypeId}(h:bC5 P t=true):P.underlying t=some .string:=by
 unfold bC5 at h;cases hu:P.underlying t with
 | none=>simp[hu]at h
 | some d=>cases d<;>simp[hu]at h;rfl
theorem bW4{t:TypeId}(h:¬E3 P t=0):(P.info? t).isSome=true:=by
 unfold E3 at h;cases hi:P.info? t with
 | none=>simp[hi]at h
 | some i=>rfl
theorem aX8{s:TypeId}{i o t:Nat}(h:y0 P s i=some (o,t)):∃fs fl,P.underlying s=some (.struct fs)∧fs[i]?=some fl∧¬E3 P t=0∧fl.offset=o∧fl.type=t:=by
 unfold y0 at h;cases hu:P.underlying s with
 | none=>simp[hu]at h
 | some d=>
  cases d
  case struct fs=>
   simp only[hu]at h;cases hf:fs[i]? with
   | none=>simp[hf]at h
   | some fl=>
    simp only[hf]at h;split at h
    ·cases h
    ·rename_i hz;simp only[eG4,Prod.mk.injEq]at h;obtain⟨rfl,rfl⟩:=h;exact⟨fs,fl,rfl,hf,hz,rfl,rfl⟩
  all_goals simp[hu]at h
theorem bz7{s i:Nat}{x v:Value}(h:bz6 P s i x=some v)(w:World):(Instr.fieldAt s x i).run P w = .ok v w:=by
 unfold bz6 at h;split at h
 ·split at h
  ·rename_i a o t hf;obtain⟨fs,fl,h1,h2,h3,h4,h5⟩:=aX8 hf;obtain rfl:=ex1 h;subst h4 h5;unfold Instr.fieldAt;rw[ex6,F5,h1];simp only[ew9,h2,ex6,Instr.sureAddr,ey9,Go.fieldPlace,N4 (bW4 h3),Sem.run_ite];rw[if_neg h3];rfl
  ·cases h
 ·cases h
theorem bR6{s i:Nat}{x v:Value}(h:cu1 P s i x=some v)(w:World):(Instr.field s x i).run P w = .ok v w:=by
 unfold cu1 at h;split at h
 ·split at h
  ·rename_i cs o t hf;obtain⟨fs,fl,h1,h2,h3,h4,h5⟩:=aX8 hf;subst h4 h5;unfold Instr.field;rw[ex6,F5,h1];simp only[ew9,h2,ex6,asAgg,ey9,bk4 h]
  ·cases h
 ·cases h
theorem cx7{x:Value}{k:Nat}(h:inS x k=true):∃a n c,x = .slice (some a) n c∧k<n:=by
 unfold inS at h;split at h
 ·exact⟨_,_,_,rfl,by simpa using h⟩
 ·cases h
theorem bT3{t:Nat}{x i v:Value}(h:p9 P t x i=some v)(w:World):(Instr.indexAt t x i).run P w = .ok v w:=by
 unfold p9 at h;split at h
 ·rename_i k n;split at h
  ·rename_i e he;split at h
   ·rename_i hc;simp only[ex5,ez3]at hc;obtain⟨⟨hi,h0⟩,hin⟩:=hc;obtain⟨a,m,c,rfl,hlt⟩:=cx7 hin;obtain rfl:=ex1 h;unfold Instr.indexAt;simp only[asIntOf,ex6,ey9,ew9,F5,K8 he];have:0≤n∧n<(m:Int):=by omega
    simp only[this,and_self,eB2,ex6,N4 hi,ew9,ey9,H4]
   ·cases h
  ·split at h
   ·rename_i len e a he;split at h
    ·rename_i hc;simp only[ex5,ez3]at hc;obtain⟨⟨hi,h0⟩,hlt⟩:=hc;obtain rfl:=ex1 h;unfold Instr.indexAt;simp only[asIntOf,ex6,ey9,ew9,F5,aS5 he,Instr.sureAddr];have:0≤n∧n<(len:Int):=by omega
     simp only[this,and_self,eB2,ex6,N4 hi,ew9,ey9]
    ·cases h
   ·cases h
 ·cases h
theorem bA4{t:Nat}{x i v:Value}(h:aK5 P t x i=some v)(w:World):(Instr.index t x i).run P w = .ok v w:=by
 unfold aK5 at h;split at h
 ·rename_i k n;split at h
  ·rename_i len e cs he;split at h
   ·rename_i hc;simp only[ex5,ez3]at hc;obtain⟨⟨hi,h0⟩,hlt⟩:=hc;unfold Instr.index;simp only[asIntOf,ex6,ey9,ew9,F5,aS5 he];have:0≤n∧n<(len:Int):=by omega
    simp only[this,and_self,eB2,ex6,N4 hi,ew9,bk4 h]
   ·cases h
  ·rename_i s he;split at h
   ·rename_i hc;simp only[ex5,ez3]at hc;obtain⟨hs,h0⟩:=hc;unfold Instr.index;simp only[asIntOf,ex6,ey9,ew9,F5,aG5 hs,h0,eB2];cases hb:s[n.toNat]? with
    | none=>simp[hb]at h
    | some b=>
     simp only[hb,eB4,eG4]at h;subst h;rfl
   ·cases h
  ·cases h
 ·cases h
theorem bT7{t:TypeId}{x v:Value}{ty:TypeId}(h:T6 P t x=some v)(w:World):(Builtin.len_ #[t] ty #[x]).run P w = .ok v w:=by
 unfold T6 at h;split at h
 ·rename_i he;obtain⟨e,he⟩:=eB0.1 he;split at h
  ·rename_i hs;obtain rfl:=ex1 h;cases x
   case slice a n c=>simp[Builtin.len_,F5,K8 he,vlen,goInt]
   all_goals simp[isS]at hs
  ·cases h
 ·split at h
  ·rename_i s;split at h
   ·rename_i hs;obtain rfl:=ex1 h;simp[Builtin.len_,F5,aG5 hs,goInt]
   ·cases h
  ·rename_i hns;split at h
   ·rename_i n e he;obtain rfl:=ex1 h;cases x<;>simp[Builtin.len_,F5,aS5 he,goInt]
   ·cases h
theorem bQ4{t:TypeId}{x v:Value}{ty:TypeId}(h:cL9 P t x=some v)(w:World):(Builtin.cap_ #[t] ty #[x]).run P w = .ok v w:=by
 unfold cL9 at h;split at h
 ·rename_i hc;simp only[ex5]at hc;obtain⟨e,he⟩:=eB0.1 hc.1;obtain rfl:=ex1 h;cases x
  case slice a n c=>simp[Builtin.cap_,F5,K8 he,vcap,goInt]
  all_goals (simp[isS]at hc)
 ·cases h
theorem bF2{s d:TypeId}{x v:Value}(h:aX2 P s d x=some v)(w:World):(convert s d x).run P w = .ok v w:=by
 unfold aX2 at h;split at h
 ·split at h
  ·rename_i k hk;split at h
   ·rename_i hs;obtain rfl:=ex1 h;obtain⟨sd,hsd⟩:=eB0.1 hs;have hd:P.underlying d=some (.int k):=by
     unfold az3 at hk;cases hu:P.underlying d with
     | none=>simp[hu]at hk
     | some dd=>cases dd<;>simp[hu]at hk;subst hk;rfl
    unfold convert;simp only[ex6,F5,hsd,hd,ew9,Conv.intToInt,ey9]
   ·cases h
  ·cases h
 ·cases h
theorem by2{t:TypeId}{parts:List (Nat×Value)}{v:Value}(h:B9 P t parts=some v)(w:World):(Instr.build t parts.toArray).run P w = .ok v w:=by
 unfold B9 at h;cases hb:E5 P t with
 | none=>simp[hb]at h
 | some zp=>
  obtain⟨z,pl⟩:=zp;simp only[hb]at h;unfold E5 at hb;have hmap:∀(fs:List Field),(fs.all fun fl=>(P.info? fl.type).isSome)=true →
    (fs.mapM (m:=Sem) fun f=>do pure (f.offset,←sizeOf f.type)).run P w = .ok (fs.map fun fl=>(fl.offset,E3 P fl.type)) w:=by
   intro fs
   induction fs with
   | nil=>intro _;simp
   | cons f fs ih=>
    intro hall;simp only[List.all_cons,ex5]at hall;simp only[List.mapM_cons,ex6,N4 hall.1,ew9,ey9,ih hall.2,ez9]
  unfold Instr.build zeroValue;cases hi:P.info? t with
  | none=>simp[hi]at hb
  | some i=>
   cases hz:i.zero with
   | none=>simp[hi,hz]at hb
   | some zv=>
    simp only[hi,Option.bind_some,hz]at hb;simp only[ex6,N2,hi,ew9,hz,ey9,F5];cases hu:P.underlying t with
    | none=>simp[hu]at hb
    | some d=>
     cases d
     case struct fs=>
      simp only[hu]at hb;split at hb
      ·rename_i hall;simp only[eG4,Prod.mk.injEq]at hb;obtain⟨rfl,rfl⟩:=hb;simp only[ew9];rw[Array.mapM_eq_mapM_toList];simp only[ex6,Sem.run_map]
       erw [hmap _ hall]
       simp only[ew9];unfold J5 at h;simp only[List.getElem?_toArray];cases hf:Instr.fill (fun i=>(fs.toList.map fun fl=>(fl.offset,E3 P fl.type))[i]?) zv.cells parts with
       | none=>rw[hf]at h;cases h
       | some cells=>
        simp only[hf,eB4,eG4]at h;subst h;rfl
      ·cases hb
     case array n e=>
      simp only[hu]at hb;split at hb
      ·rename_i he;simp only[eG4,Prod.mk.injEq]at hb;obtain⟨rfl,rfl⟩:=hb;simp only[ew9,ex6,N4 he];unfold J5 at h;have B4:∀(ps:List (Nat×Value)) (cs cs':Array Value),Instr.fill (fun i=>((List.range n).map fun i=>(i*E3 P e,E3 P e))[i]?) cs ps=some cs' →
         Instr.fill (fun i=>some (i*E3 P e,E3 P e)) cs ps=some cs':=by
        intro ps
        induction ps with
        | nil=>intro cs cs' hh;exact hh
        | cons q ps ih=>
         intro cs cs' hh;obtain⟨qi,qv⟩:=q;unfold Instr.fill at hh ⊢;by_cases hq:qi<n
         ·have hq':((List.range n).map fun i=>(i*E3 P e,E3 P e))[qi]?=some (qi*E3 P e,E3 P e):=by simp[hq]
          rw[hq']at hh;simp only at hh ⊢;split at hh
          ·cases hh
          ·rename_i hc;rw[if_neg hc];exact ih _ _ hh
         ·rw[eC7 (by simpa using hq)]at hh;cases hh
       cases hf:Instr.fill (fun i=>((List.range n).map fun i=>(i*E3 P e,E3 P e))[i]?) zv.cells parts with
       | none=>rw[hf]at h;cases h
       | some cells=>
        simp only[hf,eB4,eG4]at h;subst h;simp only[B4 _ _ _ hf];rfl
      ·cases hb
     all_goals simp[hu]at hb
theorem bC4{t:TypeId}{x v:Value}{lo hi:Option Value}(h:F8 P t x lo hi=some v)(w:World):(Instr.sliceAt t x lo hi none).run P w = .ok v w:=by
 unfold F8 at h;split at h
 ·rename_i l hh hlo hhi;have hlo':(∃k,lo=some (.int k l))∨lo=none∧l=0:=by
   split at hlo
   ·exact .inr ⟨rfl,(ex1 hlo).symm⟩
   ·obtain rfl:=ex1 hlo;exact .inl ⟨_,rfl⟩
   ·cases hlo
  split at h
  ·rename_i e he;split at h
   ·rename_i hc;simp only[ex5,ez3]at hc;obtain⟨⟨⟨⟨hi1,hs⟩,h0⟩,h1⟩,h2⟩:=hc;obtain rfl:=ex1 h;have hhi':(∃k,hi=some (.int k hh))∨hi=none∧hh=vlen x:=by
     split at hhi
     ·rw[hs,if_pos rfl]at hhi;exact .inr ⟨rfl,(ex1 hhi).symm⟩
     ·obtain rfl:=ex1 hhi;exact .inl ⟨_,rfl⟩
     ·cases hhi
    cases x
    case slice a n c=>
     simp only[vcap]at h2;simp only[vlen]at hhi';have hb:(Instr.sliceBounds true n c lo hi none).run P w = .ok (l.toNat,hh.toNat,c) w:=by
      rcases hlo' with⟨k,rfl⟩|⟨rfl,rfl⟩<;>rcases hhi' with⟨k',rfl⟩|⟨rfl,rfl⟩ <;>
       simp only[Instr.sliceBounds,Instr.sliceBound,asIntOf,ex6,ey9,ew9]
      ·rw[if_pos (by omega)];simp only[ey9,ew9];rw[if_pos (by omega)];rfl
      ·rw[if_pos (by omega)];rfl
      ·rw[if_pos (by omega)];rfl
      ·rfl
     unfold Instr.sliceAt;simp only[ex6,F5,K8 he,ew9];unfold Instr.slice;simp only[ex6,F5,K8 he,ew9,hb,N4 hi1,ey9,reS]
    all_goals simp[isS]at hs
   ·cases h
  ·split at h
   ·rename_i s;split at h
    ·rename_i hc;simp only[ex5,ez3]at hc;obtain⟨⟨⟨hs,h0⟩,h1⟩,h2⟩:=hc;obtain rfl:=ex1 h;have hhi':(∃k,hi=some (.int k hh))∨hi=none∧hh=s.size:=by
      split at hhi
      ·simp only[isS,eB6,eD2]at hhi;exact .inr ⟨rfl,(ex1 hhi).symm⟩
      ·obtain rfl:=ex1 hhi;exact .inl ⟨_,rfl⟩
      ·cases hhi
     have hb:(Instr.sliceBounds false s.size s.size lo hi none).run P w = .ok (l.toNat,hh.toNat,s.size) w:=by
      rcases hlo' with⟨k,rfl⟩|⟨rfl,rfl⟩<;>rcases hhi' with⟨k',rfl⟩|⟨rfl,rfl⟩ <;>
       simp only[Instr.sliceBounds,Instr.sliceBound,asIntOf,ex6,ey9,ew9]
      ·rw[if_pos (by omega)];simp only[ey9,ew9];rw[if_pos (by omega)];rfl
      ·rw[if_pos (by omega)];rfl
      ·rw[if_pos (by omega)];rfl
      ·rfl
     unfold Instr.sliceAt;simp only[ex6,F5,aG5 hs,ew9];unfold Instr.slice;simp only[ex6,F5,aG5 hs,ew9,hb,ey9,Option.isSome_none,eB6,eD2]
    ·cases h
   ·cases h
 ·cases h
theorem aC8{f:Fr}{o:Oper}{v:Value}(h:ap9 P f o.op=some v)(w:World):(execOp (ev f) o).run P w = .ok (.value v) w:=by
 have lift:∀{s:Sem Value},s.run P w = .ok v w→(do pure (.value (←s)):Sem Next).run P w = .ok (.value v) w:=fun hs=>by
  rw[ex6,hs];rfl
 obtain⟨d,op,ty,pos,aft,gd⟩:=o;unfold ap9 at h;simp only at h;cases op<;>try simp only at h
 case move x=>obtain rfl:=ex1 h;rfl
 case assign x=>obtain rfl:=ex1 h;rfl
 case pick c a b=>
  split at h
  ·rename_i t ht;obtain rfl:=ex1 h;simp only[execOp,ht,asBool,ex6,ey9,ew9]
  ·cases h
 case binOp op t x y t2=>exact lift (bQ0 h w)
 case unOp op t x=>
  refine lift ?_;unfold unV at h;split at h
  ·rename_i b hb;split at h
   ·obtain rfl:=ex1 h;simp[hb,Op.unary]
   ·cases h
  ·rename_i k n hb;split at h
   ·obtain rfl:=ex1 h;simp[hb,Op.unary,Op.intArith]
   ·cases h
  ·cases h
 case fieldAddr s x i=>exact lift (bz7 h w)
 case field s x i=>exact lift (bR6 h w)
 case indexAddr t x i=>exact lift (bT3 h w)
 case index t x i=>exact lift (bA4 h w)
 case slice t x lo hi mx=>
  cases mx
  case none=>exact lift (bC4 h w)
  case some m=>cases h
 case extract x i=>
  refine lift ?_;split at h
  ·rename_i vs hv;unfold Instr.extract;simp only[hv,h];rfl
  ·cases h
 case nilCheck x=>
  split at h
  ·rename_i a ha;obtain rfl:=ex1 h;simp only[execOp,ha,ey9]
  ·cases h
 case convert s d' x=>exact lift (bF2 h w)
 case makeFunc fn first cap=>obtain rfl:=ex1 h;rfl
 case build t parts=>
  refine lift ?_;have:=by2 h w;have e:(parts.toList.map fun p=>(p.1,ev f p.2)).toArray=parts.map fun p=>(p.1,ev f p.2):=by
   apply Array.ext';simp
  rw[e]at this;exact this
 case call c=>
  obtain⟨cal,args,tys⟩:=c;simp only at h;cases cal
  case builtin b=>
   cases b<;>try simp only at h
   case len=>
    split at h
    ·rename_i x t hx ht;have hx':args=#[x]:=by apply Array.ext';simpa using hx
     have ht':tys=#[t]:=by apply Array.ext';simpa using ht
     subst hx' ht';have:=bT7 (ty:=ty) h w;simp only[execOp,resolve,invoke,builtin,ex6,ey9,ew9];simp only[List.map_toArray,ez9,List.map_nil,this,ew9]
    ·cases h
   case cap=>
    split at h
    ·rename_i x t hx ht;have hx':args=#[x]:=by apply Array.ext';simpa using hx
     have ht':tys=#[t]:=by apply Array.ext';simpa using ht
     subst hx' ht';have:=bQ4 (ty:=ty) h w;simp only[execOp,resolve,invoke,builtin,ex6,ey9,ew9];simp only[List.map_toArray,ez9,List.map_nil,this,ew9]
    ·cases h
   case min=>
    split at h
    ·rename_i x y hx;have hx':args=#[x,y]:=by apply Array.ext';simpa using hx
     subst hx';unfold cz2 at h;split at h
     ·rename_i k a k' b hx hy;obtain rfl:=ex1 h;simp[execOp,resolve,invoke,builtin,Builtin.min_,Builtin.min2,hx,hy]
     ·cases h
    ·cases h
   case max=>
    split at h
    ·rename_i x y hx;have hx':args=#[x,y]:=by apply Array.ext';simpa using hx
     subst hx';unfold cz1 at h;split at h
     ·rename_i k a k' b hx hy;obtain rfl:=ex1 h;simp[execOp,resolve,invoke,builtin,Builtin.max_,Builtin.max2,hx,hy]
     ·cases h
    ·cases h
   all_goals cases h
  all_goals cases h
 all_goals cases h
end
theorem ey7:type_of% @Nat.zero_add:=@Nat.zero_add
def bc0(f:Fr)(o:Oper):Option (Sem Value):=match o.op with
 | .load t a=>some (Instr.loadAt t (ev f a))
 | .buildSlice t n parts=>some (Instr.buildSlice t n (parts.map fun p=>(p.1,ev f p.2)))
 | .alloc e=>some (Instr.alloc e true (.tuple #[]))
 | .box e x=>some (Instr.box e (ev f x))
 | .makeSlice t l c=>some (Instr.makeSlice t (ev f l) (ev f c))
 | .binOp op t x y _=>some (do eqGuard op t x y (ev f x) (ev f y);binOp op t (ev f x) (ev f y))
 | .convert s d x=>some (convert s d (ev f x))
 | .makeMap t r=>some (Instr.makeMap t (r.map (ev f)))
 | .lookup t x i ok=>some (Instr.lookup t (ev f x) (ev f i) ok)
 | .makeInterface t x=>some (Instr.makeInterface t (ev f x))
 | .call c=>match c.callee with
   | .builtin .append=>some (Builtin.append_ c.argTypes o.type (c.args.map (ev f)))
   | .builtin .copy=>some (Builtin.copy_ c.argTypes o.type (c.args.map (ev f)))
   | .builtin .clear=>some (Builtin.clear_ c.argTypes o.type (c.args.map (ev f)))
   | .builtin .len=>some (Builtin.len_ c.argTypes o.type (c.args.map (ev f)))
   | .builtin .delete=>some (Builtin.delete_ c.argTypes o.type (c.args.map (ev f)))
   | _=>none
 | _=>none
def ac5(r:Result Value)(K:Fr→World→Prop)(f:Fr)(d:Option Nat):Prop:=match r with
 | .ok v w=>K (A5 f d v) w
 | _=>False
def aU6(r:Result Unit)(K:Fr→World→Prop)(f:Fr)(d:Option Nat):Prop:=match r with
 | .ok _ w=>K (A5 f d undef) w
 | _=>False
def B8(P:Program)(S:World→Prop)(s:Sem Value)(K:Fr→World→Prop)(f:Fr)(d:Option Nat)(w:World):Prop:=
 ∃v,(∀w',S w'→s.run P w' = .ok v w')∧K (A5 f d v) w
def F7(S:World→Prop)(K:Fr→World→Prop):Fr→World→Prop:=fun f w=>S w∧K f w
def be2(P:Program)(S:Option (World→Prop))(fl:Bool)(s:Sem Value)(K:Fr→World→Prop)(f:Fr)(d:Option Nat)(w:World):Prop:=
 match S with
 | none=>ac5 (s.run P w) K f d
 | some S=>if fl then B8 P S s K f d w else ac5 (s.run P w) (F7 S K) f d
def aI1(S:Option (World→Prop))(K:Fr→World→Prop):Fr→World→Prop:=
 match S with
 | none=>K
 | some S=>F7 S K
def af6(P:Program)(k:Nat):Bool:=match P.funcs[k]? with
 | some fn=>fn.name != "runtime.NumGoroutine" && fn.body.isSome
 | none=>false
def ar2(P:Program)(k:Nat)(args:List Value)(w:World)(K:Fr→World→Prop)(f:Fr)(d:Option Nat):Prop:=
 (af6 P k=true∧Calls P k args.toArray w fun e w'=>∃v,e = .returned v∧K (A5 f d v) w')∨∃v w',(callFunc k args.toArray).run P w = .ok (.value v) w'∧K (A5 f d v) w'
def X6(P:Program)(S:Option (World→Prop))(o:Oper)(K:Fr→World→Prop)(f:Fr)(w:World):Prop:=
 match bc0 f o with
 | some s=>be2 P S (flt o.op) s K f o.dst w
 | none=>match o.op with
   | .store t a x=>aU6 ((Instr.storeAt t (ev f a) (ev f x)).run P w) (aI1 S K) f o.dst
   | .mapUpdate t m k x=>aU6 ((Instr.mapUpdate t (ev f m) (ev f k) (ev f x)).run P w) (aI1 S K) f o.dst
   | .insert t m k x=>aU6 ((Instr.mapUpdate t (ev f m) (ev f k) (ev f x)).run P w) (aI1 S K) f o.dst
   | .call c=>match c.callee with
     | .value g=>match ev f g with
       | .func (.func k) first cap=>ar2 P k (first.toList++c.args.toList.map (ev f)++cap.toList) w (aI1 S K) f o.dst
       | _=>False
     | _=>False
   | _=>match S with
     | none=>N5 P o K f w
     | some S=>if flt o.op then ∃v,bl8 P S o f v∧K (A5 f o.dst v) w else N5 P o (fun f' w'=>S w'∧K f' w') f w
def B0(P:Program)(S:Option (World→Prop))(o:Oper)(K:Fr→World→Prop)(f:Fr)(w:World):Prop:=
 match ap9 P f o.op with
 | some v=>K (A5 f o.dst v) w
 | none=>X6 P S o K f w
def Rn(P:Program)(ops:Array Oper):List Oper→(Fr→World→Prop)→Fr→World→Prop
 | [],K,f,w=>K f w
 | o::l,K,f,w=>match o.guard with
   | none=>B0 P none o (Rn P ops l K) f w
   | some (j,b)=>if aH3 ops f j=some b then B0 P none o (Rn P ops l K) f w else Rn P ops l K (A5 f o.dst undef) w
def RnF(P:Program)(ops:Array Oper)(S:World→Prop):aA0→(Fr→World→Prop)→Fr→World→Prop
 | .nil,K,f,w=>K f w
 | .op i l,K,f,w=>
  match ops[i]? with
  | none=>False
  | some o=>match o.guard with
    | none=>B0 P (some S) o (RnF P ops S l K) f w
    | some (j,b)=>if aH3 ops f j=some b then B0 P (some S) o (RnF P ops S l K) f w else RnF P ops S l K (A5 f o.dst undef) w
 | .fork rs k,K,f,w=>∀i∈rs,
   match ops[i]? with
   | none=>False
   | some o=>match o.guard with
     | none=>B0 P (some S) o (RnF P ops S (k i) K) f w∧flt o.op=false
     | some (j,b)=>if aH3 ops f j=some b then B0 P (some S) o (RnF P ops S (k i) K) f w∧flt o.op=false else RnF P ops S (k i) K (A5 f o.dst undef) w
section
variable {P:Program}
theorem ci1{k:Nat}{args:List Value}{w:World}{K:Fr→World→Prop}{f:Fr}{d:Option Nat}(h:ar2 P k args w K f d):
  match(callFunc k args.toArray).run P w with
  | .ok (.value v) w'=>K (A5 f d v) w'
  | .ok (.enter g asz) w'=>Calls P g asz w' fun e w''=>∃v,e = .returned v∧K (A5 f d v) w''
  | _=>False:=by
 rcases h with⟨hb,h⟩|⟨v,w',hr,h⟩
 ·unfold af6 at hb;cases hf:P.funcs[k]? with
  | none=>simp[hf]at hb
  | some fn=>
   simp only[hf,ex5,bne_iff_ne,ne_eq]at hb;obtain⟨hn,hbd⟩:=hb;have hbn:fn.body.isNone=false:=by cases hx:fn.body<;>simp[hx]at hbd ⊢
   have hne:(fn.name == "runtime.NumGoroutine")=false:=by simpa using hn
   simp only[callFunc,program,ex6,Sem.run,ew9,hf,hne,hbn,eB6,eD2];exact h
 ·rw[hr];exact h
theorem br1{d:Option Nat}{g:Operand}{args:Array Operand}{tys:Array TypeId}{ty:TypeId}{pos:String}{aft:Array Edge}{gd:Option (Nat×Bool)}{K:Fr→World→Prop}{f:Fr}{w:World}
  (h:match ev f g with
    | .func (.func k) first cap=>ar2 P k (first.toList++args.toList.map (ev f)++cap.toList) w K f d
    | _=>False):N5 P ⟨d,.call ⟨.value g,args,tys⟩,ty,pos,aft,gd⟩ K f w:=by
 cases hg:ev f g
 case func fn first cap=>
  cases fn
  case func k=>
   simp only[hg]at h;have h2:=ci1 h;unfold N5;have e:(execOp (ev f) ⟨d,.call ⟨.value g,args,tys⟩,ty,pos,aft,gd⟩).run P w=(callFunc k (first.toList++args.toList.map (ev f)++cap.toList).toArray).run P w:=by
    simp only[execOp,resolve,hg,Deferred.ofValue,invoke,ex6,ey9,ew9]
    congr 2
    apply Array.ext';simp
   rw[e];generalize(callFunc k (first.toList++args.toList.map (ev f)++cap.toList).toArray).run P w=r at *;cases r with
   | halt x w'=>exact h2
   | ok n w'=>
    cases n
    case value v=>exact h2
    case enter g asz=>exact h2
    all_goals exact h2.elim
  all_goals (simp only[hg]at h)
 all_goals (simp only[hg]at h)
theorem al0{o:Oper}{s:Sem Unit}{K:Fr→World→Prop}{f:Fr}{w:World}(he:execOp (ev f) o=(do s;pure .skip:Sem Next))(h:aU6 (s.run P w) K f o.dst):N5 P o K f w:=by
 unfold N5;rw[he,ex6];unfold aU6 at h;cases hr:s.run P w with
 | ok u w'=>rw[hr]at h;exact h
 | halt x w'=>rw[hr]at h;exact h.elim
theorem aa3{o:Oper}{s:Sem Value}{K:Fr→World→Prop}{f:Fr}{w:World}(he:execOp (ev f) o=(do pure (.value (←s)):Sem Next))(h:ac5 (s.run P w) K f o.dst):N5 P o K f w:=by
 unfold N5;rw[he,ex6];unfold ac5 at h;cases hr:s.run P w with
 | ok u w'=>rw[hr]at h;exact h
 | halt x w'=>rw[hr]at h;exact h.elim
theorem aR0{o:Oper}{K:Fr→World→Prop}{f:Fr}{w:World}(h:B0 P none o K f w):N5 P o K f w:=by
 unfold B0 at h;cases hp:ap9 P f o.op with
 | some v=>
  simp only[hp]at h;unfold N5;rw[aC8 hp];exact h
 | none=>
  simp only[hp]at h;obtain⟨d,op,ty,pos,aft,gd⟩:=o;unfold X6 bc0 at h;cases op
  case call c=>
   obtain⟨cal,args,tys⟩:=c;cases cal
   case builtin b=>
    cases b
    case append=>exact aa3 rfl h
    case copy=>exact aa3 rfl h
    case clear=>exact aa3 rfl h
    case len=>exact aa3 rfl h
    case delete=>exact aa3 rfl h
    all_goals exact h.elim
   case value g=>exact br1 h
   case invoke r m=>exact h.elim
  case store t a x=>exact al0 rfl h
  case mapUpdate t m k x=>exact al0 rfl h
  case insert t m k x=>exact al0 rfl h
  all_goals first
   | exact aa3 rfl h
   | exact h
theorem aQ9{S:World→Prop}{o:Oper}{K:Fr→World→Prop}{f:Fr}{w:World}(h:B0 P (some S) o K f w)(hS:S w):
  if flt o.op then ∃v,bl8 P S o f v∧K (A5 f o.dst v) w else N5 P o (fun f' w'=>S w'∧K f' w') f w:=by
 unfold B0 at h;cases hp:ap9 P f o.op with
 | some v=>
  simp only[hp]at h;split
  ·exact⟨v,fun w' _=>aC8 hp w',h⟩
  ·unfold N5;rw[aC8 hp];exact⟨hS,h⟩
 | none=>
  simp only[hp]at h;obtain⟨d,op,ty,pos,aft,gd⟩:=o;have lift:∀{s:Sem Value},(execOp (ev f) ⟨d,op,ty,pos,aft,gd⟩)=(do pure (.value (←s)):Sem Next)→be2 P (some S) (flt op) s K f d w →
    if flt op then ∃v,bl8 P S ⟨d,op,ty,pos,aft,gd⟩ f v∧K (A5 f d v) w else N5 P ⟨d,op,ty,pos,aft,gd⟩ (fun f' w'=>S w'∧K f' w') f w:=by
   intro s he hs;unfold be2 at hs;cases hfl:flt op with
   | true=>
    simp only[hfl,eB2]at hs;obtain⟨v,hr,hk⟩:=hs;rw[if_pos rfl];refine⟨v,fun w' hw'=>?_,hk⟩;rw[he,ex6,hr w' hw'];rfl
   | false=>
    simp only[hfl,eB6,eD2]at hs;rw[if_neg (by simp)];exact aa3 he hs
  unfold X6 bc0 at h;cases op
  case call c=>
   obtain⟨cal,args,tys⟩:=c;cases cal
   case builtin b=>
    cases b
    case append=>exact lift rfl h
    case copy=>exact lift rfl h
    case clear=>exact lift rfl h
    case len=>exact lift rfl h
    case delete=>exact lift rfl h
    all_goals exact h.elim
   case value g=>exact br1 (K:=F7 S K) h
   case invoke r m=>exact h.elim
  case store t a x=>exact al0 (K:=F7 S K) rfl h
  case mapUpdate t m k x=>exact al0 (K:=F7 S K) rfl h
  case insert t m k x=>exact al0 (K:=F7 S K) rfl h
  all_goals first
   | exact lift rfl h
   | exact h
theorem ar4{ops:Array Oper}{K:Fr→World→Prop}:∀(l:List Oper) (f:Fr) (w:World),Rn P ops l K f w→Run P ops l K f w
 | [],f,w,h=>h
 | o::l,f,w,h=>by
  unfold Rn at h;unfold Run Region.wanted;cases hg:o.guard with
  | none=>
   simp only[hg]at h;simp only[eB2];exact ae7 (ar4 l) (aR0 h)
  | some jb=>
   obtain⟨j,b⟩:=jb;simp only[hg]at h;simp only[beq_iff_eq];split
   ·rename_i hc;rw[if_pos hc]at h;exact ae7 (ar4 l) (aR0 h)
   ·rename_i hc;rw[if_neg hc]at h;exact ar4 l _ _ h
theorem aj7{ops:Array Oper}{S:World→Prop}{K K':Fr→World→Prop}(hk:∀f w,K f w→K' f w):∀(l:aA0) (f:Fr) (w:World),ao8 P ops S l K f w→ao8 P ops S l K' f w
 | .nil,f,w,h=>hk _ _ h
 | .op i l,f,w,h=>by
  unfold ao8 at *;cases ho:ops[i]? with
  | none=>simp[ho]at h
  | some o=>
   simp only[ho]at h ⊢;split
   ·rename_i hw;rw[if_pos hw]at h;split
    ·rename_i hf;rw[if_pos hf]at h;obtain⟨v,h1,h2⟩:=h;exact⟨v,h1,aj7 hk l _ _ h2⟩
    ·rename_i hf;rw[if_neg hf]at h;exact ae7 (fun f w hh=>⟨hh.1,aj7 hk l _ _ hh.2⟩) h
   ·rename_i hw;rw[if_neg hw]at h;exact aj7 hk l _ _ h
 | .fork rs k,f,w,h=>by
  unfold ao8 at *;intro i hi;have h:=h i hi;cases ho:ops[i]? with
  | none=>simp[ho]at h
  | some o=>
   simp only[ho]at h ⊢;split
   ·rename_i hw;rw[if_pos hw]at h;exact ae7 (fun f w hh=>⟨hh.1,aj7 hk (k i) _ _ hh.2⟩) h
   ·rename_i hw;rw[if_neg hw]at h;exact aj7 hk (k i) _ _ h
theorem aa6{ops:Array Oper}{S:World→Prop}{K:Fr→World→Prop}:∀(l:aA0) (f:Fr) (w:World),S w→RnF P ops S l K f w→ao8 P ops S l K f w
 | .nil,f,w,_,h=>h
 | .op i l,f,w,hS,h=>by
  unfold RnF at h;unfold ao8 Region.wanted;cases ho:ops[i]? with
  | none=>simp[ho]at h
  | some o=>
   simp only[ho]at h ⊢;have main:B0 P (some S) o (RnF P ops S l K) f w→(if flt o.op then ∃v,bl8 P S o f v∧ao8 P ops S l K (A5 f o.dst v) w else N5 P o (fun f' w'=>S w'∧ao8 P ops S l K f' w') f w):=by
    intro h1;have h2:=aQ9 h1 hS;split
    ·rename_i hf;rw[if_pos hf]at h2;obtain⟨v,h3,h4⟩:=h2;exact⟨v,h3,aa6 l _ _ hS h4⟩
    ·rename_i hf;rw[if_neg hf]at h2;exact ae7 (fun f w hh=>⟨hh.1,aa6 l _ _ hh.1 hh.2⟩) h2
   cases hg:o.guard with
   | none=>
    simp only[hg]at h;simp only[eB2];exact main h
   | some jb=>
    obtain⟨j,b⟩:=jb;simp only[hg]at h;simp only[beq_iff_eq];split
    ·rename_i hc;rw[if_pos hc]at h;exact main h
    ·rename_i hc;rw[if_neg hc]at h;exact aa6 l _ _ hS h
 | .fork rs k,f,w,hS,h=>by
  unfold RnF at h;unfold ao8 Region.wanted;intro i hi;have h:=h i hi;cases ho:ops[i]? with
  | none=>simp[ho]at h
  | some o=>
   simp only[ho]at h ⊢;have main:B0 P (some S) o (RnF P ops S (k i) K) f w∧flt o.op=false→N5 P o (fun f' w'=>S w'∧ao8 P ops S (k i) K f' w') f w:=by
    rintro⟨h1,hf⟩;have h2:=aQ9 h1 hS;rw[if_neg (by simp[hf])]at h2;exact ae7 (fun f w hh=>⟨hh.1,aa6 (k i) _ _ hh.1 hh.2⟩) h2
   cases hg:o.guard with
   | none=>
    simp only[hg]at h;simp only[eB2];exact main h
   | some jb=>
    obtain⟨j,b⟩:=jb;simp only[hg]at h;simp only[beq_iff_eq];split
    ·rename_i hc;rw[if_pos hc]at h;exact main h
    ·rename_i hc;rw[if_neg hc]at h;exact aa6 (k i) _ _ hS h
end
def ab3(K:Fr→World→Prop)(Q:Exit→Fr→World→Prop):Exit→Fr→World→Prop
 | .normal,f,w=>K f w
 | e,f,w=>Q e f w
def X1(id:Nat)(Q:Exit→Fr→World→Prop):Exit→Fr→World→Prop
 | .exit id',f,w=>if id'=id then Q .normal f w else Q (.exit id') f w
 | e,f,w=>Q e f w
def aH7(v:Value)(A B:Fr→World→Prop)(f:Fr)(w:World):Prop:=
 match v with
 | .bool true=>A f w
 | .bool false=>B f w
 | _=>False
def bY8(B:(Exit→Fr→World→Prop)→Fr→World→Prop)(Q:Exit→Fr→World→Prop)(f:Fr)(w:World):Prop:=
 ∃(σ:Type) (I:σ→Fr→World→Prop) (m:σ→Nat) (s0:σ),I s0 f w ∧
  ∀s f' w',I s f' w'→B (ab3 (fun f'' w''=>∃s',m s'<m s∧I s' f'' w'') Q) f' w'
def cp3(P:Program)(ops:Array Oper)(K:Fr→World→Prop)(f:Fr)(w:World):Prop:=
 ∃(S:World→Prop) (n:Nat) (ord:aA0),bL1 ops n ord=true∧S w.drew∧RnF P ops S ord (Rn P ops (ops.toList.drop n) K) f w.drew
def CW(P:Program):Code→(Exit→Fr→World→Prop)→Fr→World→Prop
 | .skip,Q,f,w=>Q .normal f w
 | .seq a b,Q,f,w=>CW P a (ab3 (CW P b Q) Q) f w
 | .cond c a b,Q,f,w=>aH7 (ev f c) (CW P a Q) (CW P b Q) f w
 | .block id a,Q,f,w=>CW P a (X1 id Q) f w
 | .loop a,Q,f,w=>bY8 (CW P a) Q f w
 | .region _ ops d,Q,f,w=>if d then cp3 P ops (Q .normal) f w else Rn P ops ops.toList (Q .normal) f w
 | .exit id,Q,f,w=>Q (.exit id) f w
 | .label _,Q,f,w=>Q .normal f w
 | .ret,Q,f,w=>Q .ret f w
 | _,_,_,_=>False
def aq4(N:Nat):Code→Bool
 | .seq a b=>aq4 N a&&aq4 N b
 | .cond _ a b=>aq4 N a&&aq4 N b
 | .block _ a=>aq4 N a
 | .loop a=>aq4 N a
 | .region _ ops _=>ct5 N ops
 | _=>true
def cs9(Q:Exit→Fr→World→Prop):Prop:=∀c f w,¬Q (.panic c) f w
theorem br3{K:Fr→World→Prop}{Q:Exit→Fr→World→Prop}(h:cs9 Q):cs9 (ab3 K Q):=fun c f w=>h c f w
theorem bQ3{id:Nat}{Q:Exit→Fr→World→Prop}(h:cs9 Q):cs9 (X1 id Q):=fun c f w=>h c f w
theorem bY6{P:Program}{Q:Exit→Act→World→Prop}{a:Act}{w:World}{c:Code}{σ:Type}(I:σ→Act→World→Prop)(m:σ→Nat)(s0:σ)(h₀:I s0 a w)
  (round:∀s a w,I s a w→c.wp P (Exit.then (fun a' w'=>∃s',m s'<m s∧I s' a' w') Q) a w):(Code.loop c).wp P Q a w:=by
 intro b k cs;have key:∀n s a w,m s=n→I s a w →
   ∃e a' w',Q e a' w'∧Arrives P (lone (b.at a (.code c :: .inLoop c::k)) cs w) b k cs e a' w':=by
  intro n
  induction n using Nat.strongRecOn with
  | _ n ih=>
   intro s a w hn hI;obtain⟨e,a₁,w₁,hq,harr⟩:=round s a w hI b (.inLoop c::k) cs;cases e with
   | normal=>
    obtain⟨s',hlt,hI₁⟩:=hq;obtain⟨e₂,a₂,w₂,hq₂,harr₂⟩:=ih (m s') (hn ▸ hlt) s' a₁ w₁ rfl hI₁;exact⟨e₂,a₂,w₂,hq₂,.of_steps (Steps.trans harr (.one step_inLoop)) harr₂⟩
   | exit id=>exact⟨_,a₁,w₁,hq,.pass (x:=.inLoop c) rfl (fun _ _=>.inl (by simp)) harr⟩
   | goto l=>exact⟨_,a₁,w₁,hq,.pass (x:=.inLoop c) rfl (fun _ _=>.inl (by simp)) harr⟩
   | ret=>exact⟨_,a₁,w₁,hq,.pass (x:=.inLoop c) rfl (fun _ _=>.inl (by simp)) harr⟩
   | panic ch=>exact⟨_,a₁,w₁,hq,.pass (x:=.inLoop c) rfl (fun _ _=>.inl (by simp)) harr⟩
   | outgrown=>exact⟨_,a₁,w₁,hq,.pass (x:=.inLoop c) rfl (fun _ _=>.inl (by simp)) harr⟩
 obtain⟨e,a',w',hq,harr⟩:=key _ s0 a w rfl h₀;exact⟨e,a',w',hq,.of_steps (.one step_loop) harr⟩
theorem cp0{P:Program}{N:Nat}(hm:P.follows .mixedOrders=true):∀(c:Code) (Q:Exit→Fr→World→Prop) (a:Act) (w:World),cs9 Q→aq4 N c=true →
  a.tmps.size=N→a.defers=[]→CW P c Q (Z7 a) w→c.wp P (lft N Q) a w:=by
 intro c
 induction c with
 | skip=>intro Q a w _ _ hn hd h;exact wp_skip ⟨hn,hd,h⟩
 | seq x y ihx ihy=>
  intro Q a w hQ hok hn hd h;simp only[aq4,ex5]at hok;refine wp_seq (wp_mono (ihx _ a w (br3 hQ) hok.1 hn hd h) ?_);intro e a' w' hq;cases e
  case normal=>exact ihy _ a' w' hQ hok.2 hq.1 hq.2.1 hq.2.2
  all_goals exact hq
 | cond v x y ihx ihy=>
  intro Q a w hQ hok hn hd h;simp only[aq4,ex5]at hok;simp only[CW]at h;unfold aH7 at h;have he:a.eval v=ev (Z7 a) v:=by rw[bz5]
  generalize hv:ev (Z7 a) v=u at h;cases u
  case bool t=>
   cases t
   case true=>exact wp_cond_true (by rw[he,hv]) (ihx _ a w hQ hok.1 hn hd h)
   case false=>exact wp_cond_false (by rw[he,hv]) (ihy _ a w hQ hok.2 hn hd h)
  all_goals exact h.elim
 | block id x ih=>
  intro Q a w hQ hok hn hd h;refine wp_block (wp_mono (ih _ a w (bQ3 hQ) hok hn hd h) ?_);intro e a' w' hq;cases e
  case exit id'=>
   simp only[Exit.inBlock];simp only[lft,X1]at hq;split
   ·rename_i hid;rw[if_pos hid]at hq;exact hq
   ·rename_i hid;rw[if_neg hid]at hq;exact hq
  all_goals exact hq
 | loop x ih=>
  intro Q a w hQ hok hn hd h;obtain⟨σ,I,m,s0,h0,hr⟩:=h;refine bY6 (fun s a w=>a.tmps.size=N∧a.defers=[]∧I s (Z7 a) w) m s0 ⟨hn,hd,h0⟩ ?_;rintro s a' w' ⟨hn',hd',hI⟩;refine wp_mono (ih _ a' w' (br3 hQ) hok hn' hd' (hr s _ w' hI)) ?_;intro e a'' w'' hq;cases e
  case normal=>
   obtain⟨h1,h2,s',h3,h4⟩:=hq;exact⟨s',h3,h1,h2,h4⟩
  all_goals exact hq
 | region id ops d=>
  intro Q a w hQ hok hn hd h;cases d
  case false=>
   simp only[CW,eB6,eD2]at h;exact wp_region_list (ar0 _ a w (fun o ho=>Array.all_eq_true'.1 hok o (by simpa using ho)) hn hd (ar4 _ _ _ h))
  case true=>
   simp only[CW,eB2]at h;obtain⟨S,n,ord,h1,h3,h4⟩:=h;exact bn7 hm hQ h1 hok hn hd h3 (aj7 (fun f w hh=>ar4 _ f w hh) _ _ _ (aa6 _ _ _ h3 h4))
 | exit id=>intro Q a w _ _ hn hd h;exact wp_exit ⟨hn,hd,h⟩
 | label l=>intro Q a w _ _ hn hd h;exact wp_label ⟨hn,hd,h⟩
 | ret=>intro Q a w _ _ hn hd h;exact wp_ret ⟨hn,hd,h⟩
 | _=>intro Q a w _ _ _ _ h;exact h.elim
def da4(args:List Value):Fr:=fun i=>args.getD i undef
def bP8:Nat→List Value→Fr
 | _,[]=>fun _=>undef
 | k,v::vs=>p6 (bP8 (k+1) vs) k v
theorem bZ3:∀(vs:List Value) (k i:Nat),bP8 k vs (k+i)=vs.getD i undef
 | [],_,_=>by simp[bP8]
 | v::vs,k,0=>by simp[bP8,p6]
 | v::vs,k,i+1=>by
  have:=bZ3 vs (k+1) i;simp only[bP8,p6];rw[if_neg (by omega),show k+(i+1)=k+1+i by omega,this];simp
theorem da5(args:List Value):da4 args=bP8 0 args:=by
 funext i
 have:=bZ3 args 0 i;simp only[ey7]at this;rw[this];rfl
def bV0(P:Program)(w:World)(f:Fr):ResultVar→Value→Prop
 | .tmp t,v=>v=f t
 | .cell a ty,v=>(do loadVar ty (←asAddr (f a)):Sem Value).run P w = .ok v w
def bj7(P:Program)(w:World)(f:Fr):List ResultVar→List Value→Prop
 | [],[]=>True
 | r::rs,v::vs=>bV0 P w f r v∧bj7 P w f rs vs
 | _,_=>False
def aV8:List Value→Value
 | [v]=>v
 | vs=>.tuple vs.toArray
def bx8(P:Program)(fn:Func)(R:Value→World→Prop):Exit→Fr→World→Prop
 | .normal,f,w=>∃vs,bj7 P w f fn.results.toList vs∧R (aV8 vs) w
 | .ret,f,w=>∃vs,bj7 P w f fn.results.toList vs∧R (aV8 vs) w
 | _,_,_=>False
theorem bj8{P:Program}{w:World}{a:Act}:∀(rs:List ResultVar) (vs:List Value),bj7 P w (Z7 a) rs vs →
  (rs.mapM (m:=Sem) fun
   | .tmp t=>pure (a.tmps.getD t undef)
   | .cell x t=>do loadVar t (←asAddr (a.tmps.getD x undef))).run P w = .ok vs w
 | [],[],_=>by simp
 | [],_::_,h=>h.elim
 | _::_,[],h=>h.elim
 | r::rs,v::vs,h=>by
  have ih:=bj8 rs vs h.2;have h1:=h.1;cases r with
  | tmp t=>
   simp only[bV0,Z7]at h1;subst h1;simp only[List.mapM_cons,ex6,ey9,ew9,ih]
  | cell x t=>
   simp only[bV0,Z7]at h1;simp only[List.mapM_cons];rw[ex6,h1];simp only[ex6,ey9,ew9,ih]
theorem ba0{P:Program}{fn:Func}{w:World}{a:Act}{vs:List Value}(h:bj7 P w (Z7 a) fn.results.toList vs):
  (results fn a.tmps).run P w = .ok (aV8 vs) w:=by
 have h1:=bj8 _ _ h;unfold results;rw[Array.mapM_eq_mapM_toList];simp only[ex6,Sem.run_map]
 erw [h1]
 simp only[ew9,ey9]
 congr 1
 match vs with
 | []=>simp[aV8]
 | [v]=>simp[aV8]
 | v::u::vs=>simp[aV8]
theorem d9{P:Program}{k:FuncId}{fn:Func}{c:Code}{args:List Value}{w:World}{R:Value→World→Prop}(hm:P.follows .mixedOrders=true)
  (hf:P.funcs[k]?=some fn) (hb:fn.body=some c) (hok:aq4 fn.ntmps c=true) (hargs:args.length≤fn.ntmps)
  (h:CW P c (bx8 P fn R) (bP8 0 args) w):Calls P k args.toArray w (fun e w'=>∃v,e = .returned v∧R v w'):=by
 rw[←da5]at h;refine calls_of_wp hf hb ?_;have hfr:Z7 {tmps:=args.toArray++Array.replicate (fn.ntmps-args.toArray.size) undef,defers:=[]}=da4 args:=by
  funext i
  simp only[Z7,da4,Array.getD_eq_getD_getElem?,List.getD_eq_getElem?_getD];by_cases hi:i<args.length
  ·rw[Array.getElem?_append_left (by simpa using hi)];simp
  ·rw[Array.getElem?_append_right (by simp;omega)];rw[eC7 (by omega)];by_cases h2:i-args.length<fn.ntmps-args.length
   ·simp[h2]
   ·simp[h2]
 have:=cp0 (N:=fn.ntmps) hm c (bx8 P fn R) {tmps:=args.toArray++Array.replicate (fn.ntmps-args.toArray.size) undef,defers:=[]} w
  (fun c f w hh=>hh) hok (by simp;omega) rfl (by rw[hfr];exact h)
 refine wp_mono this ?_;intro e a' w' hq;cases e
 case normal=>
  obtain⟨_,hd,vs,hv,hR⟩:=hq;exact⟨hd,_,ba0 hv,_,rfl,hR⟩
 case ret=>
  obtain⟨_,hd,vs,hv,hR⟩:=hq;exact⟨hd,_,ba0 hv,_,rfl,hR⟩
 all_goals exact hq.2.2.elim
theorem n7{P:Program}{fn:Func}{R:Value→World→Prop}{f:Fr}{w:World}{t:Nat}(h:fn.results=#[.tmp t])(hR:R (f t) w):bx8 P fn R .ret f w:=
 ⟨[f t],by rw[h];exact⟨rfl,trivial⟩,hR⟩
theorem ad8{P:Program}{fn:Func}{R:Value→World→Prop}{f:Fr}{w:World}{t u:Nat}(h:fn.results=#[.tmp t,.tmp u])(hR:R (.tuple #[f t,f u]) w):bx8 P fn R .ret f w:=
 ⟨[f t,f u],by rw[h];exact⟨rfl,rfl,trivial⟩,hR⟩
theorem cB7{P:Program}{fn:Func}{R:Value→World→Prop}{f:Fr}{w:World}(h:fn.results=#[])(hR:R (.tuple #[]) w):bx8 P fn R .normal f w:=
 ⟨[],by rw[h];exact trivial,hR⟩
section
variable {P:Program} {Q:Exit→Fr→World→Prop} {f:Fr} {w:World} {K:Fr→World→Prop} {ops:Array Oper} {l:List Oper}
theorem dZ6:CW P .skip Q f w=Q .normal f w:=rfl
theorem bd8{a b:Code}:CW P (.seq a b) Q f w=CW P a (ab3 (CW P b Q) Q) f w:=rfl
theorem dY9{c:Operand}{a b:Code}:CW P (.cond c a b) Q f w=aH7 (ev f c) (CW P a Q) (CW P b Q) f w:=rfl
theorem dB4{id:Nat}{a:Code}:CW P (.block id a) Q f w=CW P a (X1 id Q) f w:=rfl
theorem dZ2{a:Code}:CW P (.loop a) Q f w=bY8 (CW P a) Q f w:=rfl
theorem ed0{id:Nat}:CW P (.region id ops false) Q f w=Rn P ops ops.toList (Q .normal) f w:=rfl
theorem dZ0{id:Nat}:CW P (.region id ops true) Q f w=cp3 P ops (Q .normal) f w:=rfl
theorem dZ1{id:Nat}:CW P (.exit id) Q f w=Q (.exit id) f w:=rfl
theorem ed1:CW P .ret Q f w=Q .ret f w:=rfl
theorem ec7:ab3 K Q .normal f w=K f w:=rfl
theorem dJ4:ab3 K Q .normal=K:=rfl
theorem ec8:ab3 K Q .ret f w=Q .ret f w:=rfl
theorem ec9{i:Nat}:ab3 K Q (.exit i) f w=Q (.exit i) f w:=rfl
theorem dC6{i:Nat}:X1 i Q .normal f w=Q .normal f w:=rfl
theorem dA1{i:Nat}:X1 i Q .normal=Q .normal:=rfl
theorem dC7{i:Nat}:X1 i Q .ret f w=Q .ret f w:=rfl
theorem dC8{i j:Nat}:X1 i Q (.exit j) f w=if j=i then Q .normal f w else Q (.exit j) f w:=rfl
theorem eb5{A B:Fr→World→Prop}:aH7 (.bool true) A B f w=A f w:=rfl
theorem eb4{A B:Fr→World→Prop}:aH7 (.bool false) A B f w=B f w:=rfl
theorem i5{A B:Fr→World→Prop}{b:Bool}(h1:b=true→A f w)(h2:b=false→B f w):aH7 (.bool b) A B f w:=by
 cases b
 ·exact h2 rfl
 ·exact h1 rfl
theorem ed4:Rn P ops [] K f w=K f w:=rfl
theorem eq1{d:Option Nat}{op:Op}{ty:TypeId}{pos:String}{aft:Array Edge}:
  Rn P ops (⟨d,op,ty,pos,aft,none⟩::l) K f w=B0 P none ⟨d,op,ty,pos,aft,none⟩ (Rn P ops l K) f w:=rfl
theorem et5{d:Option Nat}{op:Op}{ty:TypeId}{pos:String}{aft:Array Edge}{j:Nat}{b:Bool}:
  Rn P ops (⟨d,op,ty,pos,aft,some (j,b)⟩::l) K f w =
   if aH3 ops f j=some b then B0 P none ⟨d,op,ty,pos,aft,none⟩ (Rn P ops l K) f w else Rn P ops l K (A5 f d undef) w:=rfl
theorem dB2{S:Option (World→Prop)}{d:Option Nat}{op:Op}{ty:TypeId}{pos:String}{aft:Array Edge}{g:Nat×Bool}:
  B0 P S ⟨d,op,ty,pos,aft,some g⟩ K f w=B0 P S ⟨d,op,ty,pos,aft,none⟩ K f w:=rfl
def cv4(ops:Array Oper)(j:Nat):Option Nat:=(ops[j]?).bind (·.dst)
theorem dA7{j:Nat}:aH3 ops f j=match cv4 ops j with|some d=>(match f d with | .bool b=>some b|_=>none)|none=>none:=rfl
section
variable {S:World→Prop} {n i:Nat} {r:aA0}
theorem dZ8:RnF P ops S .nil K f w=K f w:=rfl
theorem ed2:RnF P ops S (.op i r) K f w =
  match ops[i]? with
  | none=>False
  | some o=>match o.guard with
    | none=>B0 P (some S) o (RnF P ops S r K) f w
    | some (j,b)=>if aH3 ops f j=some b then B0 P (some S) o (RnF P ops S r K) f w else RnF P ops S r K (A5 f o.dst undef) w:=rfl
end
section
variable {S:Option (World→Prop)} {d:Option Nat} {ty:TypeId} {pos:String} {aft:Array Edge}
theorem ec3{x:Operand}:B0 P S ⟨d,.move x,ty,pos,aft,none⟩ K f w=K (A5 f d (ev f x)) w:=rfl
theorem dB3{x:Operand}:B0 P S ⟨d,.assign x,ty,pos,aft,none⟩ K f w=K (A5 f d (ev f x)) w:=rfl
def aw3(v:Option Value)(K:Fr→World→Prop)(f:Fr)(d:Option Nat)(w:World)(D:Prop):Prop:=match v with
 | some v=>K (A5 f d v) w
 | none=>D
theorem el1{v:Value}{D:Prop}:aw3 (some v) K f d w D=K (A5 f d v) w:=rfl
theorem ec5{v:Value}:ac5 (.ok v w) K f d=K (A5 f d v) w:=rfl
theorem ec6{v:Unit}:aU6 (.ok v w) K f d=K (A5 f d undef) w:=rfl
theorem ec4{c a b:Operand}:B0 P S ⟨d,.pick c a b,ty,pos,aft,none⟩ K f w =
  aw3 (match ev f c with | .bool t=>some (if t then ev f a else ev f b)|_=>none) K f d w (X6 P S ⟨d,.pick c a b,ty,pos,aft,none⟩ K f w):=rfl
theorem el3{op:BinOp}{t t2:TypeId}{x y:Operand}:B0 P S ⟨d,.binOp op t x y t2,ty,pos,aft,none⟩ K f w =
  aw3 (B7 P op t (ev f x) (ev f y)) K f d w (X6 P S ⟨d,.binOp op t x y t2,ty,pos,aft,none⟩ K f w):=rfl
theorem et4{op:UnOp}{t:TypeId}{x:Operand}:B0 P S ⟨d,.unOp op t x,ty,pos,aft,none⟩ K f w =
  aw3 (unV op (ev f x)) K f d w (X6 P S ⟨d,.unOp op t x,ty,pos,aft,none⟩ K f w):=rfl
theorem cP3{s:TypeId}{x:Operand}{i:Nat}:B0 P S ⟨d,.fieldAddr s x i,ty,pos,aft,none⟩ K f w =
  aw3 (bz6 P s i (ev f x)) K f d w (X6 P S ⟨d,.fieldAddr s x i,ty,pos,aft,none⟩ K f w):=rfl
theorem dH4{s:TypeId}{x:Operand}{i:Nat}:B0 P S ⟨d,.field s x i,ty,pos,aft,none⟩ K f w =
  aw3 (cu1 P s i (ev f x)) K f d w (X6 P S ⟨d,.field s x i,ty,pos,aft,none⟩ K f w):=rfl
theorem cP4{t:TypeId}{x i:Operand}:B0 P S ⟨d,.indexAddr t x i,ty,pos,aft,none⟩ K f w =
  aw3 (p9 P t (ev f x) (ev f i)) K f d w (X6 P S ⟨d,.indexAddr t x i,ty,pos,aft,none⟩ K f w):=rfl
theorem dH5{t:TypeId}{x i:Operand}:B0 P S ⟨d,.index t x i,ty,pos,aft,none⟩ K f w =
  aw3 (aK5 P t (ev f x) (ev f i)) K f d w (X6 P S ⟨d,.index t x i,ty,pos,aft,none⟩ K f w):=rfl
theorem dH6{t:TypeId}{x:Operand}{lo hi:Option Operand}:B0 P S ⟨d,.slice t x lo hi none,ty,pos,aft,none⟩ K f w =
  aw3 (F8 P t (ev f x) (lo.map (ev f)) (hi.map (ev f))) K f d w (X6 P S ⟨d,.slice t x lo hi none,ty,pos,aft,none⟩ K f w):=rfl
theorem df2{x:Operand}{i:Nat}:B0 P S ⟨d,.extract x i,ty,pos,aft,none⟩ K f w =
  aw3 (match ev f x with | .tuple vs=>vs[i]?|_=>none) K f d w (X6 P S ⟨d,.extract x i,ty,pos,aft,none⟩ K f w):=rfl
theorem cY2{x:Operand}:B0 P S ⟨d,.nilCheck x,ty,pos,aft,none⟩ K f w =
  aw3 (match ev f x with | .pointer (some a)=>some (.pointer (some a))|_=>none) K f d w (X6 P S ⟨d,.nilCheck x,ty,pos,aft,none⟩ K f w):=rfl
theorem cY1{fn:Fn}{first cap:Array Operand}:B0 P S ⟨d,.makeFunc fn first cap,ty,pos,aft,none⟩ K f w=K (A5 f d (.func fn (first.map (ev f)) (cap.map (ev f)))) w:=rfl
theorem dH3{t:TypeId}{parts:Array (Nat×Operand)}:B0 P S ⟨d,.build t parts,ty,pos,aft,none⟩ K f w =
  aw3 (B9 P t (parts.toList.map fun p=>(p.1,ev f p.2))) K f d w (X6 P S ⟨d,.build t parts,ty,pos,aft,none⟩ K f w):=rfl
theorem el5{x:Operand}{t:TypeId}:B0 P S ⟨d,.call {callee:=.builtin .len,args:=#[x],argTypes:=#[t]},ty,pos,aft,none⟩ K f w =
  aw3 (T6 P t (ev f x)) K f d w (X6 P S ⟨d,.call {callee:=.builtin .len,args:=#[x],argTypes:=#[t]},ty,pos,aft,none⟩ K f w):=rfl
theorem el4{x:Operand}{t:TypeId}:B0 P S ⟨d,.call {callee:=.builtin .cap,args:=#[x],argTypes:=#[t]},ty,pos,aft,none⟩ K f w =
  aw3 (cL9 P t (ev f x)) K f d w (X6 P S ⟨d,.call {callee:=.builtin .cap,args:=#[x],argTypes:=#[t]},ty,pos,aft,none⟩ K f w):=rfl
theorem df1{s t:Nat}{x:Operand}:B0 P S ⟨d,.convert s t x,ty,pos,aft,none⟩ K f w =
  aw3 (aX2 P s t (ev f x)) K f d w (X6 P S ⟨d,.convert s t x,ty,pos,aft,none⟩ K f w):=rfl
theorem ek9{D:Prop}:aw3 none K f d w D=D:=rfl
theorem el7{x y:Operand}{ts:Array TypeId}:B0 P S ⟨d,.call {callee:=.builtin .min,args:=#[x,y],argTypes:=ts},ty,pos,aft,none⟩ K f w =
  aw3 (cz2 (ev f x) (ev f y)) K f d w (X6 P S ⟨d,.call {callee:=.builtin .min,args:=#[x,y],argTypes:=ts},ty,pos,aft,none⟩ K f w):=rfl
theorem el6{x y:Operand}{ts:Array TypeId}:B0 P S ⟨d,.call {callee:=.builtin .max,args:=#[x,y],argTypes:=ts},ty,pos,aft,none⟩ K f w =
  aw3 (cz1 (ev f x) (ev f y)) K f d w (X6 P S ⟨d,.call {callee:=.builtin .max,args:=#[x,y],argTypes:=ts},ty,pos,aft,none⟩ K f w):=rfl
end
section
variable {d:Option Nat} {ty:TypeId} {pos:String} {aft:Array Edge} {S:World→Prop}
theorem ec2{t:TypeId}{a:Operand}:B0 P none ⟨d,.load t a,ty,pos,aft,none⟩ K f w=ac5 ((Instr.loadAt t (ev f a)).run P w) K f d:=rfl
theorem cK2{t n:Nat}{ps:Array (Nat×Operand)}:B0 P none ⟨d,.buildSlice t n ps,ty,pos,aft,none⟩ K f w=ac5 ((Instr.buildSlice t n (ps.map fun p=>(p.1,ev f p.2))).run P w) K f d:=rfl
theorem dG4{t:Nat}:B0 P none ⟨d,.alloc t,ty,pos,aft,none⟩ K f w=ac5 ((Instr.alloc t true (.tuple #[])).run P w) K f d:=rfl
theorem ek8{t:Nat}{x:Operand}:B0 P none ⟨d,.box t x,ty,pos,aft,none⟩ K f w=ac5 ((Instr.box t (ev f x)).run P w) K f d:=rfl
theorem cP1{t:Nat}{x y:Operand}:B0 P none ⟨d,.makeSlice t x y,ty,pos,aft,none⟩ K f w=ac5 ((Instr.makeSlice t (ev f x) (ev f y)).run P w) K f d:=rfl
theorem bj3{t:Nat}{r:Option Operand}:B0 P none ⟨d,.makeMap t r,ty,pos,aft,none⟩ K f w=ac5 ((Instr.makeMap t (r.map (ev f))).run P w) K f d:=rfl
theorem dB1{t:Nat}{x i:Operand}{ok:Bool}:B0 P none ⟨d,.lookup t x i ok,ty,pos,aft,none⟩ K f w=ac5 ((Instr.lookup t (ev f x) (ev f i) ok).run P w) K f d:=rfl
theorem de8{s t:Nat}{x:Operand}:X6 P none ⟨d,.convert s t x,ty,pos,aft,none⟩ K f w=ac5 ((convert s t (ev f x)).run P w) K f d:=rfl
theorem ek3{op:BinOp}{t t2:TypeId}{x y:Operand}:X6 P none ⟨d,.binOp op t x y t2,ty,pos,aft,none⟩ K f w=ac5 ((do eqGuard op t x y (ev f x) (ev f y);binOp op t (ev f x) (ev f y):Sem Value).run P w) K f d:=rfl
theorem dB0{x y:Operand}{ts:Array TypeId}:B0 P none ⟨d,.call {callee:=.builtin .append,args:=#[x,y],argTypes:=ts},ty,pos,aft,none⟩ K f w=ac5 ((Builtin.append_ ts ty #[ev f x,ev f y]).run P w) K f d:=by
 simp[B0,ap9,X6,bc0,be2]
theorem ec1{x y:Operand}{ts:Array TypeId}:B0 P none ⟨d,.call {callee:=.builtin .copy,args:=#[x,y],argTypes:=ts},ty,pos,aft,none⟩ K f w=ac5 ((Builtin.copy_ ts ty #[ev f x,ev f y]).run P w) K f d:=by
 simp[B0,ap9,X6,bc0,be2]
theorem dG6{t:Nat}{a x:Operand}:B0 P none ⟨d,.store t a x,ty,pos,aft,none⟩ K f w=aU6 ((Instr.storeAt t (ev f a) (ev f x)).run P w) K f d:=rfl
theorem bB2{t:Nat}{m k x:Operand}:B0 P none ⟨d,.mapUpdate t m k x,ty,pos,aft,none⟩ K f w=aU6 ((Instr.mapUpdate t (ev f m) (ev f k) (ev f x)).run P w) K f d:=rfl
theorem ec0{k:Nat}{asz:Array Operand}{ts:Array TypeId}:B0 P none ⟨d,.call {callee:=.value (.func k),args:=asz,argTypes:=ts},ty,pos,aft,none⟩ K f w=ar2 P k (asz.toList.map (ev f)) w K f d:=by
 simp[B0,ap9,X6,bc0,ev,aI1]
theorem eb9{t:TypeId}{a:Operand}:B0 P (some S) ⟨d,.load t a,ty,pos,aft,none⟩ K f w=B8 P S (Instr.loadAt t (ev f a)) K f d w:=rfl
theorem dA9{t:Nat}{x i:Operand}{ok:Bool}:B0 P (some S) ⟨d,.lookup t x i ok,ty,pos,aft,none⟩ K f w=B8 P S (Instr.lookup t (ev f x) (ev f i) ok) K f d w:=rfl
theorem de7{s t:Nat}{x:Operand}:X6 P (some S) ⟨d,.convert s t x,ty,pos,aft,none⟩ K f w=B8 P S (convert s t (ev f x)) K f d w:=rfl
theorem ek2{op:BinOp}{t t2:TypeId}{x y:Operand}:X6 P (some S) ⟨d,.binOp op t x y t2,ty,pos,aft,none⟩ K f w=B8 P S (do eqGuard op t x y (ev f x) (ev f y);binOp op t (ev f x) (ev f y)) K f d w:=rfl
theorem cK0{t n:Nat}{ps:Array (Nat×Operand)}:B0 P (some S) ⟨d,.buildSlice t n ps,ty,pos,aft,none⟩ K f w=ac5 ((Instr.buildSlice t n (ps.map fun p=>(p.1,ev f p.2))).run P w) (F7 S K) f d:=rfl
theorem dG1{t:Nat}:B0 P (some S) ⟨d,.alloc t,ty,pos,aft,none⟩ K f w=ac5 ((Instr.alloc t true (.tuple #[])).run P w) (F7 S K) f d:=rfl
theorem ek7{t:Nat}{x:Operand}:B0 P (some S) ⟨d,.box t x,ty,pos,aft,none⟩ K f w=ac5 ((Instr.box t (ev f x)).run P w) (F7 S K) f d:=rfl
theorem cO9{t:Nat}{x y:Operand}:B0 P (some S) ⟨d,.makeSlice t x y,ty,pos,aft,none⟩ K f w=ac5 ((Instr.makeSlice t (ev f x) (ev f y)).run P w) (F7 S K) f d:=rfl
theorem dA8{x y:Operand}{ts:Array TypeId}:B0 P (some S) ⟨d,.call {callee:=.builtin .append,args:=#[x,y],argTypes:=ts},ty,pos,aft,none⟩ K f w=ac5 ((Builtin.append_ ts ty #[ev f x,ev f y]).run P w) (F7 S K) f d:=by
 simp[B0,ap9,X6,bc0,be2,flt]
theorem eb8{x y:Operand}{ts:Array TypeId}:B0 P (some S) ⟨d,.call {callee:=.builtin .copy,args:=#[x,y],argTypes:=ts},ty,pos,aft,none⟩ K f w=ac5 ((Builtin.copy_ ts ty #[ev f x,ev f y]).run P w) (F7 S K) f d:=by
 simp[B0,ap9,X6,bc0,be2,flt]
theorem dG3{t:Nat}{a x:Operand}:B0 P (some S) ⟨d,.store t a x,ty,pos,aft,none⟩ K f w=aU6 ((Instr.storeAt t (ev f a) (ev f x)).run P w) (F7 S K) f d:=rfl
theorem eb7{k:Nat}{asz:Array Operand}{ts:Array TypeId}:B0 P (some S) ⟨d,.call {callee:=.value (.func k),args:=asz,argTypes:=ts},ty,pos,aft,none⟩ K f w=ar2 P k (asz.toList.map (ev f)) w (F7 S K) f d:=by
 simp[B0,ap9,X6,bc0,ev,aI1]
end
end
theorem ex9:type_of% @List.append_assoc:=@List.append_assoc
theorem ez4:type_of% @List.drop_eq_getElem_cons:=@List.drop_eq_getElem_cons
theorem eA0:type_of% @List.getElem?_append_left:=@List.getElem?_append_left
theorem ez6:type_of% @List.getElem?_append_right:=@List.getElem?_append_right
theorem ev2:type_of% @List.getElem?_eq_getElem:=@List.getElem?_eq_getElem
theorem ev8:type_of% @List.getElem?_eq_some_iff:=@List.getElem?_eq_some_iff
theorem ev5:type_of% @List.length_append:=@List.length_append
theorem ew6:type_of% @List.length_take:=@List.length_take
theorem ew7:type_of% @List.mem_append:=@List.mem_append
theorem eA3:type_of% @List.take_append_drop:=@List.take_append_drop
theorem eE4:type_of% @List.take_left:=@List.take_left
theorem eG3:type_of% @Nat.add_mul:=@Nat.add_mul
theorem ew0:type_of% @Nat.le_trans:=@Nat.le_trans
theorem eC1:type_of% @Nat.lt_of_lt_of_le:=@Nat.lt_of_lt_of_le
theorem eB8:type_of% @Nat.min_eq_left:=@Nat.min_eq_left
theorem eE8:type_of% @Nat.mul_one:=@Nat.mul_one
abbrev Hp:=Nat→Option Obj
def d7(w:World):Hp:=fun b=>w.heap[b]?
def B4(h k:Hp):Prop:=∀b o,h b=some o→k b=some o
theorem i4(h:Hp):B4 h h:=fun _ _ e=>e
theorem p8{a b c:Hp}(h:B4 a b)(k:B4 b c):B4 a c:=fun x o e=>k x o (h x o e)
def I8(h:Hp)(a:Addr):Option Value:=match h a.block with
 | some (.cells c _ _)=>if a.spot.isSome then none else c[a.off]?
 | _=>none
theorem ai8(w:World)(a:Addr):w.cell? a=I8 (d7 w) a:=rfl
theorem F9{h k:Hp}(hk:B4 h k){a:Addr}{v:Value}(e:I8 h a=some v):I8 k a=some v:=by
 unfold I8 at *;cases hb:h a.block with
 | none=>simp[hb]at e
 | some o=>rw[hk _ _ hb];rw[hb]at e;exact e
structure o9 (M:Nat→Prop) (w w':World):Prop where
 os:w'.os=w.os
 tape:w'.tape=w.tape
 output:w'.output=w.output
 size:w.heap.size≤w'.heap.size
 block:∀k,k<w.heap.size→¬M k→w'.heap[k]?=w.heap[k]?
abbrev o6(w w':World):Prop:=o9 (fun _=>False) w w'
theorem o9.refl{M:Nat→Prop}(w:World):o9 M w w:=⟨rfl,rfl,rfl,ew8 _,fun _ _ _=>rfl⟩
theorem o9.trans{M:Nat→Prop}{a b c:World}(h:o9 M a b)(k:o9 M b c):o9 M a c:=
 ⟨k.os.trans h.os,k.tape.trans h.tape,k.output.trans h.output,ew0 h.size k.size,fun i hi hm=>(k.block i (eC1 hi h.size) hm).trans (h.block i hi hm)⟩
theorem o9.weaken{M N:Nat→Prop}{w w':World}(h:o9 M w w')(hmn:∀k,k<w.heap.size→M k→N k):o9 N w w':=⟨h.os,h.tape,h.output,h.size,fun k hk hn=>h.block k hk fun hm=>hn (hmn k hk hm)⟩
theorem o6.drew(w:World):o6 w w.drew:=⟨rfl,rfl,rfl,ew8 _,fun _ _ _=>rfl⟩
theorem o6.alloc(w:World)(o:Obj):o6 w (w.alloc o):=⟨rfl,rfl,rfl,by simp,fun k hk _=>by
 show(w.heap.push o)[k]?=_;rw[Array.getElem?_push,if_neg (by omega)]⟩
theorem o9.ext_of{M:Nat→Prop}{w w1 w2:World}(h:o6 w w1)(k:o9 M w1 w2)(hM:∀b,M b→w.heap.size≤b):o6 w w2:=
 ⟨k.os.trans h.os,k.tape.trans h.tape,k.output.trans h.output,ew0 h.size k.size,fun i hi _=>(k.block i (eC1 hi h.size) (fun hm=>by have:=hM i hm;omega)).trans (h.block i hi id)⟩
theorem o9.setCell{M:Nat→Prop}(w:World)(a:Addr)(v:Value)(h:M a.block):o9 M w (w.setCell a v):=
 ⟨rfl,rfl,rfl,by simp[World.setCell],fun k _ hm=>by
  simp only[World.setCell,Array.getElem?_modify];rw[if_neg (fun e:a.block=k=>hm (e ▸ h))]⟩
theorem o9.setRow{M:Nat→Prop}(w:World)(g:Nat)(cs:Array Value)(h:M g):o9 M w (w.setRow g cs):=
 ⟨rfl,rfl,rfl,by simp,fun k _ hm=>setRow_other w g k cs (fun e=>hm (e ▸ h))⟩
theorem b7{w w':World}(h:o6 w w'):B4 (d7 w) (d7 w'):=fun b o e=>by
 have hb:b<w.heap.size:=(ev9.1 (show w.heap[b]?=some o from e)).1;exact(h.block b hb id).trans e
theorem K6{h:Hp}{M:Nat→Prop}{w w':World}(hw:B4 h (d7 w))(hm:o9 M w w')(hM:∀b,M b→h b=none):B4 h (d7 w'):=fun b o e=>by
 have e1:=hw b o e;have hb:b<w.heap.size:=(ev9.1 (show w.heap[b]?=some o from e1)).1;exact(hm.block b hb (fun hh=>by rw[hM b hh]at e;cases e)).trans e1
theorem av4{h:Hp}{w:World}(hw:B4 h (d7 w)){b:Nat}(hb:w.heap.size≤b):h b=none:=by
 cases e:h b with
 | none=>rfl
 | some o=>
  have:=(ev9.1 (show w.heap[b]?=some o from hw b o e)).1;omega
class z7 (α:Type) where
 sz:Nat
 pos:0<sz
 enc:Hp→List Value→α→Prop
 len:∀{h cs x},enc h cs x→cs.length=sz
 mono:∀{h k cs x},B4 h k→enc h cs x→enc k cs x
 one:∀{h cs x},enc h cs x→∀v∈cs,v.oneCell'=true
class G7 (α:Type) where
 val:α→Value
 one:∀x,(val x).oneCell'=true
instance {α:Type} [G7 α]:z7 α where
 sz:=1
 pos:=by omega
 enc _ cs x:=cs=[G7.val x]
 len h:=by simp[h]
 mono _ h:=h
 one h:=by
  intro v hv;rw[h]at hv;simp at hv;subst hv;exact G7.one _
instance:G7 Int:=⟨fun n=>.int .i64 n,fun _=>rfl⟩
instance:G7 Bool:=⟨fun b=>.bool b,fun _=>rfl⟩
instance:G7 ByteArray:=⟨fun s=>.string s,fun _=>rfl⟩
instance:G7 Nat:=⟨fun n=>.int .u64 n,fun _=>rfl⟩
instance {α β:Type} [z7 α] [z7 β]:z7 (α×β) where
 sz:=z7.sz α+z7.sz β
 pos:=by have:=z7.pos (α:=α);omega
 enc h cs x:=∃c1 c2,cs=c1++c2∧z7.enc h c1 x.1∧z7.enc h c2 x.2
 len:=by rintro h cs x ⟨c1,c2,rfl,h1,h2⟩;simp[z7.len h1,z7.len h2]
 mono:=by rintro h k cs x hk ⟨c1,c2,rfl,h1,h2⟩;exact⟨c1,c2,rfl,z7.mono hk h1,z7.mono hk h2⟩
 one:=by
  rintro h cs x ⟨c1,c2,rfl,h1,h2⟩ v hv;rcases ew7.1 hv with hv|hv
  ·exact z7.one h1 v hv
  ·exact z7.one h2 v hv
section
variable {α:Type} [z7 α]
def N0(h:Hp):List Value→List α→Prop
 | cs,[]=>cs=[]
 | cs,x::xs=>∃c1 c2,cs=c1++c2∧z7.enc h c1 x∧N0 h c2 xs
theorem J7{h:Hp}:∀{xs:List α} {cs:List Value},N0 h cs xs→cs.length=xs.length*z7.sz α
 | [],cs,e=>by simp[N0]at e;simp[e]
 | x::xs,cs,e=>by
  obtain⟨c1,c2,rfl,h1,h2⟩:=e;simp only[ev5,ex7,z7.len h1,J7 h2,eG3];omega
theorem aE6{h k:Hp}(hk:B4 h k):∀{xs:List α} {cs:List Value},N0 h cs xs→N0 k cs xs
 | [],_,e=>e
 | _::_,_,⟨c1,c2,e,h1,h2⟩=>⟨c1,c2,e,z7.mono hk h1,aE6 hk h2⟩
theorem bF9{h:Hp}:∀{xs:List α} {cs:List Value},N0 h cs xs→∀v∈cs,v.oneCell'=true
 | [],cs,e,v,hv=>by simp[N0]at e;subst e;cases hv
 | x::xs,cs,⟨c1,c2,e,h1,h2⟩,v,hv=>by
  subst e;rcases ew7.1 hv with hv|hv
  ·exact z7.one h1 v hv
  ·exact bF9 h2 v hv
theorem ag3{h:Hp}:∀{xs:List α} {cs ds:List Value} {ys:List α},N0 h cs xs→N0 h ds ys→N0 h (cs++ds) (xs++ys)
 | [],cs,ds,ys,e1,e2=>by simp[N0]at e1;subst e1;exact e2
 | x::xs,cs,ds,ys,⟨c1,c2,e,h1,h2⟩,e2=>⟨c1,c2++ds,by rw[e,ex9],h1,ag3 h2 e2⟩
theorem aX5{h:Hp}{es:List Value}{x:α}(he:z7.enc h es x):N0 h es [x]:=⟨es,[],by simp,he,rfl⟩
theorem Z5{h:Hp}:∀(xs ys:List α) {cs:List Value},N0 h cs (xs++ys)→∃c1 c2,cs=c1++c2∧N0 h c1 xs∧N0 h c2 ys
 | [],ys,cs,e=>⟨[],cs,rfl,rfl,e⟩
 | x::xs,ys,cs,⟨c1,c2,e,h1,h2⟩=>by
  obtain⟨d1,d2,e2,h3,h4⟩:=Z5 xs ys h2;exact⟨c1++d1,d2,by rw[e,e2,ex9],⟨c1,d1,rfl,h1,h3⟩,h4⟩
theorem bF8{h:Hp}{xs:List α}{cs:List Value}(e:N0 h cs xs){k:Nat}{x:α}(hk:xs[k]?=some x):
  ∃es,z7.enc h es x∧∀j,j<z7.sz α→cs[k*z7.sz α+j]?=es[j]?:=by
 have hlt:k<xs.length:=(ev8.1 hk).1;have hx:xs=xs.take k++x::xs.drop (k+1):=by
  have h2:xs[k]=x:=(ev8.1 hk).2;have:=eA3 k xs;rw[ez4 hlt,h2]at this;exact this.symm
 rw[hx]at e;obtain⟨c1,c2,rfl,h1,⟨es,c3,rfl,h2,h3⟩⟩:=Z5 _ _ e;refine⟨es,h2,fun j hj=>?_⟩;have hl:c1.length=k*z7.sz α:=by rw[J7 h1,ew6,eB8 (Nat.le_of_lt hlt)]
 rw[ez6 (by omega),hl,Nat.add_sub_cancel_left,eA0 (by rw[z7.len h2];exact hj)]
theorem ct8{h:Hp}{xs:List α}{cs:List Value}(e:N0 h cs xs){k:Nat}(hk:k<xs.length){y:α}{ds:List Value}(hd:z7.enc h ds y):
  N0 h (cs.take (k*z7.sz α)++ds++cs.drop (k*z7.sz α+z7.sz α)) (xs.set k y):=by
 have hx:xs=xs.take k++xs[k]::xs.drop (k+1):=by
  have:=eA3 k xs;rw[ez4 hk]at this;exact this.symm
 rw[hx]at e;obtain⟨c1,c2,rfl,h1,⟨es,c3,rfl,h2,h3⟩⟩:=Z5 _ _ e;have hl:c1.length=k*z7.sz α:=by rw[J7 h1,ew6,eB8 (Nat.le_of_lt hk)]
 have hl2:es.length=z7.sz α:=z7.len h2;have e1:(c1++(es++c3)).take (k*z7.sz α)=c1:=by rw[←hl];exact eE4
 have e2:(c1++(es++c3)).drop (k*z7.sz α+z7.sz α)=c3:=by
  rw[←hl,←hl2,←ex9,←ev5];exact List.drop_left
 rw[e1,e2];have hset:xs.set k y=xs.take k++y::xs.drop (k+1):=List.set_eq_take_append_cons_drop.trans (by rw[if_pos hk]);rw[hset,ex9];exact ag3 h1 ⟨ds,c3,rfl,hd,h3⟩
instance:z7 (List α) where
 sz:=1
 pos:=by omega
 enc h cs xs:=∃a n c,cs=[.slice a n c]∧n=xs.length∧n≤c∧∃es,N0 h es xs∧∀j v,es[j]?=some v→∃ad,a=some ad∧I8 h (ad.add j)=some v
 len:=by rintro h cs x ⟨a,n,c,rfl,_⟩;rfl
 mono:=by
  rintro h k cs x hk ⟨a,n,c,e,h1,h2,es,h3,h4⟩;refine⟨a,n,c,e,h1,h2,es,aE6 hk h3,fun j v hv=>?_⟩;obtain⟨ad,e1,e2⟩:=h4 j v hv;exact⟨ad,e1,F9 hk e2⟩
 one:=by
  rintro h cs x ⟨a,n,c,rfl,_⟩ v hv;simp at hv;subst hv;rfl
end
abbrev R{α:Type}[z7 α](h:Hp)(v:Value)(x:α):Prop:=z7.enc h [v] x
theorem Addr.add_add'(a:Addr)(x y:Nat):(a.add x).add y=a.add (x+y):=by
 unfold Addr.add;by_cases hx:x=0
 ·subst hx;simp
 ·by_cases hy:y=0
  ·subst hy;simp[hx]
  ·simp[hx,hy,eE5]
section
variable {α:Type} [z7 α] {h:Hp} {v:Value} {xs:List α}
theorem R.isS(hr:R h v xs):isS v=true:=by
 obtain⟨a,n,c,e,_⟩:=hr;simp at e;subst e;rfl
theorem R.vlen(hr:R h v xs):vlen v=xs.length:=by
 obtain⟨a,n,c,e,h1,_⟩:=hr;simp at e;subst e;exact h1
theorem R.vcap(hr:R h v xs):xs.length≤vcap v:=by
 obtain⟨a,n,c,e,h1,h2,_⟩:=hr;simp at e;subst e;rw[←h1];exact h2
theorem R.get(hr:R h v xs){k:Nat}{x:α}(hk:xs[k]?=some x):
  inS v k=true∧∃es,z7.enc h es x∧∀j u,es[j]?=some u→I8 h ((H4 v (k*z7.sz α)).add j)=some u:=by
 obtain⟨a,n,c,e,h1,h2,es,h3,h4⟩:=hr;simp at e;subst e;obtain⟨ds,hd1,hd2⟩:=bF8 h3 hk;have hlt:k<xs.length:=(ev8.1 hk).1;have hl:=z7.len hd1;have hpos:=z7.pos (α:=α);have h0:∃u,ds[0]?=some u:=by
  rw[ev2 (by omega)];exact⟨_,rfl⟩
 obtain⟨u0,hu0⟩:=h0;obtain⟨ad,rfl,_⟩:=h4 (k*z7.sz α+0) u0 (by rw[hd2 0 hpos];exact hu0);refine⟨by simp[inS];omega,ds,hd1,fun j u hj=>?_⟩;have hjl:j<ds.length:=(ev8.1 hj).1;obtain⟨ad',e',hc⟩:=h4 (k*z7.sz α+j) u (by rw[hd2 j (by omega)];exact hj);obtain rfl:=ex1 e';simp only[H4];rw[Addr.add_add'];exact hc
theorem R.inS(hr:R h v xs){k:Nat}(hk:k<xs.length):inS v k=true:=(hr.get (ev2 hk)).1
end
theorem J8(a:Addr):a.add 0=a:=by simp[Addr.add]
section
variable {P:Program} {t:TypeId} {w:World} {h:Hp}
theorem Q6{a:Addr}{u:Value}(ht:B6 P t=false)(hc:w.cell? a=some u):(Instr.loadAt t (.pointer (some a))).run P w = .ok u w:=by
 unfold Instr.loadAt loadVar;simp only[Instr.sureAddr,ex6,ey9,ew9,W1 t (aR6 ht),ht,eB6,eD2,run_load,hc]
theorem bi4{a:Addr}{cs:List Value}(ht:B6 P t=true)(hu:(P.underlying t).isSome=true)(hi:(P.info? t).isSome=true)(hs:E3 P t=cs.length)
  (hc:∀j u,cs[j]?=some u→w.cell? (a.add j)=some u):(Instr.loadAt t (.pointer (some a))).run P w = .ok (.agg cs.toArray) w:=by
 unfold Instr.loadAt loadVar;simp only[Instr.sureAddr,ex6,ey9,ew9,W1 t hu,ht,eB2,N4 hi,hs,run_loadCells_list w a cs hc]
theorem M8{α:Type}[G7 α]{v:Value}{xs:List α}(hr:R h v xs)(hw:B4 h (d7 w)){k:Nat}{x:α}(hk:xs[k]?=some x)(ht:B6 P t=false):
  (Instr.loadAt t (.pointer (some (H4 v k)))).run P w = .ok (G7.val x) w:=by
 obtain⟨_,es,he,hc⟩:=hr.get hk;have he':es=[G7.val x]:=he;have:=hc 0 (G7.val x) (by rw[he'];rfl);rw[J8]at this;have h1:(k*z7.sz α)=k:=eE8 k;rw[h1]at this;exact Q6 ht (F9 hw this)
end
theorem eE1:type_of% @Array.getElem?_eq_getElem:=@Array.getElem?_eq_getElem
theorem eI4:type_of% @Array.length_toList:=@Array.length_toList
theorem ey6:type_of% @List.append_nil:=@List.append_nil
theorem eF1:type_of% @List.getElem?_take:=@List.getElem?_take
theorem eD7:type_of% @List.length_drop:=@List.length_drop
theorem eB7:type_of% @List.length_nil:=@List.length_nil
theorem eC2:type_of% @List.length_set:=@List.length_set
theorem eG1:type_of% @List.nil_append:=@List.nil_append
theorem eE7:type_of% @List.size_toArray:=@List.size_toArray
theorem ez7:type_of% @List.take_of_length_le:=@List.take_of_length_le
theorem ew1:type_of% @List.take_succ_eq_append_getElem:=@List.take_succ_eq_append_getElem
theorem eG6:type_of% @List.take_zero:=@List.take_zero
theorem eD6:type_of% @Nat.mul_le_mul_right:=@Nat.mul_le_mul_right
theorem eG7:type_of% @World.cell?_alloc_new:=@World.cell?_alloc_new
theorem eC4:type_of% @cell_of_row:=@cell_of_row
theorem ez5:type_of% @heap_alloc_new:=@heap_alloc_new
def A9{α:Type}[z7 α](h:Hp)(w:World)(T:TypeId)(v:Value)(xs:List α):Prop:=
 (v = .slice none 0 0∧xs=[]) ∨
 ∃b c cur,v = .slice (some ⟨b,0,none⟩) xs.length c∧h b=none∧w.heap[b]?=some (.cells cur T (0,0))∧xs.length≤c∧c≤maxLen∧cur.size=c*z7.sz α ∧
  N0 h (cur.toList.take (xs.length*z7.sz α)) xs
def A3(v:Value)(b:Nat):Prop:=v.ownBlock=some b
theorem D0{b:Nat}{n c:Nat}:¬A3 (.slice none n c) b:=by simp[A3,Value.ownBlock]
def F1(w:World)(v v':Value):Prop:=∀b,A3 v' b→A3 v b∨w.heap.size≤b
section
variable {α:Type} [z7 α] {h:Hp} {w:World} {T:TypeId} {v:Value} {xs:List α}
theorem A9.nil(h:Hp)(w:World)(T:TypeId):A9 h w T (.slice none 0 0) ([]:List α):=.inl ⟨rfl,rfl⟩
theorem A9.free(ho:A9 h w T v xs){b:Nat}(hb:A3 v b):h b=none:=by
 rcases ho with⟨rfl,_⟩|⟨b',c,cur,rfl,h1,_⟩
 ·exact absurd hb D0
 ·simp[A3,Value.ownBlock]at hb;subst hb;exact h1
theorem A9.lt(ho:A9 h w T v xs){b:Nat}(hb:A3 v b):b<w.heap.size:=by
 rcases ho with⟨rfl,_⟩|⟨b',c,cur,rfl,h1,h2,_⟩
 ·exact absurd hb D0
 ·simp[A3,Value.ownBlock]at hb;subst hb;exact(ev9.1 h2).1
theorem A9.isS(ho:A9 h w T v xs):isS v=true:=by
 rcases ho with⟨rfl,_⟩|⟨b',c,cur,rfl,_⟩<;>rfl
theorem A9.vlen(ho:A9 h w T v xs):vlen v=xs.length:=by
 rcases ho with⟨rfl,rfl⟩|⟨b',c,cur,rfl,_⟩<;>rfl
theorem A9.vcap(ho:A9 h w T v xs):xs.length≤vcap v:=by
 rcases ho with⟨rfl,rfl⟩|⟨b',c,cur,rfl,_,_,h3,_⟩
 ·simp
 ·exact h3
theorem A9.inS(ho:A9 h w T v xs){k:Nat}(hk:k<xs.length):inS v k=true:=by
 rcases ho with⟨rfl,rfl⟩|⟨b',c,cur,rfl,_⟩
 ·simp at hk
 ·simp[Go.Proofs.YtdgicngfmfldmaaGreat.inS,hk]
theorem A9.mod{M:Nat→Prop}{w':World}(ho:A9 h w T v xs)(hm:o9 M w w')(hM:∀b,A3 v b→¬M b):A9 h w' T v xs:=by
 rcases ho with hn|⟨b,c,cur,rfl,h1,h2,rest⟩
 ·exact .inl hn
 ·exact .inr ⟨b,c,cur,rfl,h1,(hm.block b (ev9.1 h2).1 (hM b rfl)).trans h2,rest⟩
theorem A9.ext{w':World}(ho:A9 h w T v xs)(hm:o6 w w'):A9 h w' T v xs:=ho.mod hm fun _ _=>id
theorem A9.up{k:Hp}(ho:A9 h w T v xs)(hk:B4 h k)(hb:∀b,A3 v b→k b=none):A9 k w T v xs:=by
 rcases ho with hn|⟨b,c,cur,rfl,h1,h2,h3,h4,h5,h6⟩
 ·exact .inl hn
 ·exact .inr ⟨b,c,cur,rfl,hb b rfl,h2,h3,h4,h5,aE6 hk h6⟩
theorem A9.ro(ho:A9 h w T v xs){k:Hp}(hk:B4 h k)(hb:∀b,A3 v b→k b=w.heap[b]?):R k v xs:=by
 rcases ho with⟨rfl,rfl⟩|⟨b,c,cur,rfl,h1,h2,h3,h4,h5,h6⟩
 ·exact⟨_,_,_,rfl,rfl,ew8 _,[],rfl,fun j v hv=>by simp at hv⟩
 ·refine⟨_,_,_,rfl,rfl,h3,_,aE6 hk h6,fun j u hj=>⟨_,rfl,?_⟩⟩;have hlt:j<cur.size:=by
   have:=(ev8.1 hj).1;simp at this;omega
  have hc:cur[j]?=some u:=by
   rw[eF1]at hj;split at hj
   ·simpa using hj
   ·cases hj
  have ha:(⟨b,0,.none⟩:Addr).add j=⟨b,j,.none⟩:=by unfold Addr.add;split<;>simp_all
  rw[ha];simp only[I8,hb b rfl,h2,Option.isSome_none,eB6,eD2,hc]
theorem A9.rw_(ho:A9 h w T v xs)(hw:B4 h (d7 w)):R (d7 w) v xs:=ho.ro hw fun _ _=>rfl
theorem A9.get(ho:A9 h w T v xs){k:Nat}{x:α}(hk:xs[k]?=some x):
  ∃es,z7.enc h es x∧∀j u,es[j]?=some u→w.cell? ((H4 v (k*z7.sz α)).add j)=some u:=by
 rcases ho with⟨rfl,rfl⟩|⟨b,c,cur,rfl,h1,h2,h3,h4,h5,h6⟩
 ·simp at hk
 ·obtain⟨es,he,hc⟩:=bF8 h6 hk;refine⟨es,he,fun j u hj=>?_⟩;have hjl:j<z7.sz α:=by have:=(ev8.1 hj).1;rw[z7.len he]at this;exact this
  have:=hc j hjl;rw[hj,eF1]at this;split at this
  ·simp only[H4];rw[Addr.add_add'];have ha:(⟨b,0,.none⟩:Addr).add (k*z7.sz α+j)=⟨b,k*z7.sz α+j,.none⟩:=by unfold Addr.add;split<;>simp_all
   rw[ha,eC4 w b _ cur T (0,0) h2];simpa using this
  ·cases this
end
section
variable {α:Type} [z7 α] {h:Hp} {P:Program} {w:World} {t T:TypeId} {v:Value}
theorem D4{α:Type}[G7 α]{xs:List α}(ho:A9 h w T v xs){k:Nat}{x:α}(hk:xs[k]?=some x)(ht:B6 P t=false):
  (Instr.loadAt t (.pointer (some (H4 v k)))).run P w = .ok (G7.val x) w:=by
 obtain⟨es,he,hc⟩:=ho.get hk;have he':es=[G7.val x]:=he;have:=hc 0 (G7.val x) (by rw[he'];rfl);rw[J8]at this;have h1:(k*z7.sz α)=k:=eE8 k;rw[h1]at this;exact Q6 ht this
theorem aZ4{xs:List (List α)}(ho:A9 h w T v xs){k:Nat}{x:List α}(hk:xs[k]?=some x)(ht:B6 P t=false):
  ∃u,R h u x∧(Instr.loadAt t (.pointer (some (H4 v k)))).run P w = .ok u w:=by
 obtain⟨es,he,hc⟩:=ho.get hk;have hl:es.length=1:=z7.len he
 match es,hl with
 | [u],_=>
  have:=hc 0 u rfl;rw[J8]at this;have h1:(k*z7.sz (List α))=k:=eE8 k;rw[h1]at this;exact⟨u,he,Q6 ht this⟩
theorem aI5{a:Addr}{u x:Value}{i:TypeInfo}(hi:P.info? t=some i)(hs:i.size=1)(hx:x.cells=#[x])(h1:x.oneCell'=true)(hc:w.cell? a=some u)(hf:w.frozen? a=false):
  (Instr.storeAt t (.pointer (some a)) x).run P w = .ok () (w.setCell a x):=by
 have hst:(store (a.add 0) x).run P w = .ok () (w.setCell a x):=by
  rw[J8];cases x<;>simp[Value.oneCell']at h1<;>simp[store,Sem.run,hc,hf]
 unfold Instr.storeAt storeVar;simp only[Instr.sureAddr,ex6,ey9,ew9,sizeOf,N2,hi,hs,hx,Sem.run_ite];simp only[eE7,ex7,eB7,storeCells,ex6,hst,ew9,ey9];rfl
theorem D9{xs:List α}(ho:A9 h w T v xs)(hz:z7.sz α=1){k:Nat}(hk:k<xs.length){x:Value}{y:α}(hy:z7.enc h [x] y)(hx:x.cells=#[x])
  {i:TypeInfo} (hi:P.info? t=some i) (hs:i.size=1) :
  ∃w',(Instr.storeAt t (.pointer (some (H4 v k))) x).run P w = .ok () w'∧A9 h w' T v (xs.set k y)∧o9 (A3 v) w w'∧w'.heap.size=w.heap.size:=by
 obtain⟨es,he,hc⟩:=ho.get (ev2 hk);have hone:x.oneCell'=true:=z7.one hy x (by simp);rcases ho with⟨rfl,rfl⟩|⟨b,c,cur,rfl,h1,h2,h3,h4,h5,h6⟩
 ·simp at hk
 ·have ha:(⟨b,0,.none⟩:Addr).add k=⟨b,k,.none⟩:=by unfold Addr.add;split<;>simp_all
  have hksz:k<cur.size:=by rw[h5,hz];omega
  have hcell:w.cell? ⟨b,k,.none⟩=some cur[k]:=by rw[eC4 w b k cur T (0,0) h2,eE1 hksz]
  have hfr:w.frozen? ⟨b,k,.none⟩=false:=frozen_of_row w b k cur T h2;have hrun:=aI5 (P:=P) (t:=t) hi hs hx hone hcell hfr;simp only[H4,ha];refine⟨_,hrun,?_,o9.setCell _ _ _ (by simp[A3,Value.ownBlock]),by simp⟩;right;refine⟨b,c,cur.setIfInBounds k x,by simp,h1,heap_setCell_same w b k cur T x h2,by simpa using h3,h4,by simpa using h5,?_⟩;have hs':=ct8 h6 hk hy;have hl:(cur.toList.take xs.length).length=xs.length:=by
   rw[hz]at h5;have h7:cur.toList.length=cur.size:=by simp
   rw[ew6,h7];omega
  have e1:(cur.setIfInBounds k x).toList.take ((xs.set k y).length*z7.sz α) =
    (cur.toList.take (xs.length*z7.sz α)).take (k*z7.sz α)++[x]++(cur.toList.take (xs.length*z7.sz α)).drop (k*z7.sz α+z7.sz α):=by
   rw[hz];simp only[Array.toList_setIfInBounds,eC2,eE8];rw[List.take_set];rw[List.set_eq_take_append_cons_drop,if_pos (by rw[hl];exact hk)];simp
  rw[e1];exact hs'
theorem aK9{e:TypeId}{i:TypeInfo}{z:Value}(ht:P.underlying t=some (.slice T))(hi:P.info? T=some i)(hz:i.zero=some z)(hsize:i.size=z7.sz α)(hzs:z.cells.size=i.size)
  {xs ys:List α} (ho:A9 h w T v xs) {ad:Addr} {m c:Nat} {news:List Value} (hm:m=ys.length) (hn:N0 h news ys) (hnews:∀j u,news[j]?=some u→w.cell? (ad.add j)=some u)
  (hy:ys≠[]) (h63:xs.length+ys.length≤maxLen) (hbytes:(xs.length+ys.length)*i.bytes≤140737488355328) (hw:B4 h (d7 w)) :
  ∃v' w',(Builtin.append_ #[t,t] e #[v,.slice (some ad) m c]).run P w = .ok v' w'∧A9 h w' T v' (xs++ys)∧o9 (A3 v) w w'∧F1 w v v':=by
 have hl:=J7 hn;have hone:=bF9 hn;have hy0:0<ys.length:=List.length_pos_iff.2 hy;have fresh:∀(old:Nat) (cells:List Value),N0 h cells (xs++ys)→old<xs.length+ys.length →
   A9 h (w.drew.alloc (.cells (cells.toArray++Builtin.zeroCells z.cells (grownCap w (xs.length+ys.length) old T-(xs.length+ys.length))) T)) T
    (.slice (some ⟨w.heap.size,0,.none⟩) (xs.length+ys.length) (grownCap w (xs.length+ys.length) old T)) (xs++ys):=by
  intro old cells hc ho';have hge:=grownCap_ge w (xs.length+ys.length) old T;have hcm:=grownCap_le_maxLen w (xs.length+ys.length) old T h63;have hcl:=J7 hc;right;refine⟨w.heap.size,_,_,by rw[ev5],av4 hw (ew8 _),ez5 w.drew _,by rw[ev5];exact hge,hcm,?_,?_⟩
  ·simp only[Array.size_append,eE7,size_zeroCells,hzs,hsize,hcl,ev5,←eG3]
   congr 1
   omega
  ·simp only[Array.toList_append];rw[←hcl,eE4];exact hc
 have exta:∀(o:Obj),o9 (A3 v) w (w.drew.alloc o):=fun o=>
  o9.trans ((o6.drew w).weaken (fun _ _ h=>h.elim)) ((o6.alloc w.drew o).weaken (fun _ _ h=>h.elim))
 have hmv:∀n c,F1 w v (.slice (some ⟨w.heap.size,0,.none⟩) n c):=fun n c b hb=>by
  simp[A3,Value.ownBlock]at hb;subst hb;exact .inr (ew8 _)
 subst hm;rcases ho with⟨rfl,rfl⟩|⟨b,cc,cur,rfl,h1,h2,h3,h4,h5,h6⟩
 ·have hr:=run_append_nil (P:=P) w t e T i z ht hi hz ad ys.length c news (by rw[hl,hsize]) hnews hy0 (by simp only[maxLen,eB7,ey7]at h63;omega) (by simp only[eB7,ey7]at hbytes;omega);have hf:=fresh 0 news (by simpa using hn) (by simp;exact hy0);simp only[eB7,ey7,eG1]at hf ⊢;exact⟨_,_,hr,hf,exta _,hmv _ _⟩
 ·by_cases hroom:xs.length+ys.length≤cc
  ·have hfit:xs.length*i.size+news.length≤cur.size:=by rw[hl,hsize,h5,←eG3];exact eD6 _ hroom
   have hr:=run_append_room (P:=P) w t e T i ht hi b xs.length cc cur h2 ad ys.length c news (by rw[hl,hsize]) hnews hone hroom hfit;refine⟨_,_,hr,?_,o9.setRow _ _ _ (by simp[A3,Value.ownBlock]),fun b' hb'=>.inl hb'⟩;right;refine⟨b,cc,_,by rw[ev5],h1,setRow_heap w b cur _ T _ h2,by rw[ev5];exact hroom,h4,?_,?_⟩
   ·simp only[eE7,ev5,ew6,eD7,eI4];rw[hsize]at hfit ⊢;have:xs.length*z7.sz α≤cur.size:=by omega
    omega
   ·rw[hsize];have hlen:(cur.toList.take (xs.length*z7.sz α)++news).length=(xs++ys).length*z7.sz α:=by
     rw[ev5,hl,J7 h6,ev5,eG3]
    rw[←hlen,eE4];exact ag3 h6 hn
  ·have hcs:(cur.toList.take (xs.length*z7.sz α)).length=xs.length*i.size:=by rw[J7 h6,hsize]
   have holds:∀j u,(cur.toList.take (xs.length*z7.sz α))[j]?=some u→w.cell? ((⟨b,0,.none⟩:Addr).add j)=some u:=by
    intro j u hj;have ha:(⟨b,0,.none⟩:Addr).add j=⟨b,j,.none⟩:=by unfold Addr.add;split<;>simp_all
    rw[ha,eC4 w b j cur T (0,0) h2];rw[eF1]at hj;split at hj
    ·simpa using hj
    ·cases hj
   have hr:=run_append_grow (P:=P) w t e T i z ht hi hz ⟨b,0,.none⟩ xs.length cc (cur.toList.take (xs.length*z7.sz α)) hcs holds ad ys.length c news (by rw[hl,hsize]) hnews (by omega)
    (by simp only[maxLen]at h63;omega) (growslice_fits (by omega) hbytes)
   have hf:=fresh cc (cur.toList.take (xs.length*z7.sz α)++news) (ag3 h6 hn) (by omega);have e1:((cur.toList.take (xs.length*z7.sz α)++news).toArray:Array Value)=(cur.toList.take (xs.length*z7.sz α)).toArray++news.toArray:=by simp
   rw[e1]at hf;exact⟨_,_,hr,hf,exta _,hmv _ _⟩
theorem bs7(off:Nat):∀(l:List Value) (k:Nat) (cs:Array Value),off+k+l.length≤cs.size →
  ((l.zipIdx k).foldl (fun cs (p:Value×Nat)=>cs.setIfInBounds (off+p.2) p.1) cs).toList=cs.toList.take (off+k)++l++cs.toList.drop (off+k+l.length)
 | [],k,cs,_=>by simp
 | v::l,k,cs,hl=>by
  simp only[ex7]at hl;rw[List.zipIdx_cons,List.foldl_cons,bs7 off l (k+1) _ (by simp;omega)];have hlen:cs.toList.length=cs.size:=by simp
  simp only[Array.toList_setIfInBounds,ex7];rw[show off+(k+1)=off+k+1 by omega,List.take_set,ew1 (by omega),List.set_append_right (h:=by simp;omega)];have e1:off+k-(cs.toList.take (off+k)).length=0:=by simp;omega
  rw[e1,List.drop_set_of_lt (by omega)];simp[ex9,eE5,Nat.add_comm 1]
theorem cu2{place:Nat→Option (Nat×Nat)}{off sz i:Nat}{x:Value}{cs:Array Value}{rest:List (Nat×Value)}(hp:place i=some (off,sz))(hx:x.cells.size=sz)(hs:off+sz≤cs.size):
  Instr.fill place cs ((i,x)::rest)=Instr.fill place (cs.toList.take off++x.cells.toList++cs.toList.drop (off+sz)).toArray rest:=by
 conv=>lhs;unfold Instr.fill
 simp only[hp];rw[if_neg (by simp[hx];omega)]
 congr 1
 apply Array.ext';have:=bs7 off x.cells.toList 0 cs (by simp;omega);simp only[Nat.add_zero,eI4,hx]at this;rw[←this,←Array.foldl_toList];simp[Array.toList_zipIdx]
theorem bG0(sz:Nat):∀(xs:List Value) (k:Nat) (cs:Array Value),(∀x∈xs,x.cells.size=sz)→cs.size=(k+xs.length)*sz →
  Instr.fill (fun i=>some (i*sz,sz)) cs ((xs.zipIdx k).map fun p=>(p.2,p.1))=some (cs.toList.take (k*sz)++xs.flatMap (·.cells.toList)).toArray
 | [],k,cs,_,hc=>by
  simp only[eB7,Nat.add_zero]at hc;simp only[List.zipIdx_nil,List.map_nil,Instr.fill,List.flatMap_nil,ey6]
  congr 1
  apply Array.ext';rw[←hc,ez7 (by simp)]
 | x::xs,k,cs,hx,hc=>by
  simp only[ex7]at hc;have hc':cs.size=k*sz+sz+xs.length*sz:=by rw[hc,eG3,eG3];omega
  have hxs:=hx x (by simp);have hlen:cs.toList.length=cs.size:=by simp
  rw[List.zipIdx_cons,ez9];show Instr.fill _ cs ((k,x)::_)=_;rw[cu2 rfl hxs (by omega)];have hl:(List.take (k*sz) cs.toList++x.cells.toList++List.drop (k*sz+sz) cs.toList).toArray.size=(k+1+xs.length)*sz:=by
   simp[hxs];rw[eG3,eG3];omega
  rw[bG0 sz xs (k+1) _ (fun y hy=>hx y (by simp[hy])) hl]
  congr 2
  have e:(k+1)*sz=(List.take (k*sz) cs.toList++x.cells.toList).length:=by
   simp[hxs,eG3];omega
  rw[e,eE4];simp
theorem an4{e:TypeId}{z:Value}(ht:A6 P t=some e)(hi:(P.info? e).isSome=true)(hz:H6 P e=some z)(xs:List Value)(hx:∀x∈xs,x.cells.size=E3 P e)(hn:xs≠[])
  (hpos:0<E3 P e) (hsm:xs.length*E3 P e≤16777216) {parts:Array (Nat×Value)} (hp:parts.toList=(xs.zipIdx 0).map fun p=>(p.2,p.1)) {n:Nat} (hnl:n=xs.length) :
  (Instr.buildSlice t n parts).run P w = .ok (.slice (some ⟨w.heap.size,0,none⟩) n n) (w.alloc (.cells (xs.flatMap (·.cells.toList)).toArray e)):=by
 subst hnl;obtain⟨i,hi'⟩:=eB0.1 hi;have hz':i.zero=some z:=by simpa[H6,hi']using hz
 have h0:¬(xs.length*E3 P e=0):=by
  have:0<xs.length:=List.length_pos_iff.2 hn;exact Nat.ne_of_gt (Nat.mul_pos this hpos)
 unfold Instr.buildSlice zeroValue;simp only[ex6,F5,K8 ht,ew9,N4 hi,Sem.run_ite,N2,hi',hz',ey9];rw[if_neg (by omega)];simp only[h0,eD2];rw[hp,bG0 (E3 P e) xs 0 _ hx (by simp)];simp only[Nat.zero_mul,eG6,eG1];rfl
theorem C7{i:TypeInfo}(hi:P.info? t=some i):E3 P t=i.size:=by simp[E3,hi]
theorem ar9{i:TypeInfo}(hi:P.info? t=some i):cs5 P t=i.bytes:=by simp[cs5,hi]
theorem t8{z:Value}(hz:H6 P t=some z):∃i,P.info? t=some i∧i.zero=some z:=by
 unfold H6 at hz;cases hi:P.info? t with
 | none=>simp[hi]at hz
 | some i=>exact⟨i,rfl,by simpa[hi]using hz⟩
theorem cA8{e:TypeId}{z:Value}(ht:A6 P t=some T)(hz:H6 P T=some z)(hsize:E3 P T=z7.sz α)(hzs:z.cells.size=z7.sz α)
  {xs:List α} (ho:A9 h w T v xs) {x:Value} {y:α} (hy:z7.enc h x.cells.toList y) (h63:xs.length+1≤1000000000000) (hbytes:(xs.length+1)*cs5 P T≤140737488355328) (hw:B4 h (d7 w)) :
  ∃v' w',(Builtin.append_ #[t,t] e #[v,.slice (some ⟨w.heap.size,0,none⟩) 1 1]).run P (w.alloc (.cells x.cells T)) = .ok v' w'∧A9 h w' T v' (xs++[y])∧o9 (A3 v) w w'∧F1 w v v':=by
 obtain⟨i,hi,hiz⟩:=t8 hz;rw[C7 hi]at hsize;rw[ar9 hi]at hbytes;have hw1:B4 h (d7 (w.alloc (.cells x.cells T))):=p8 hw (b7 (o6.alloc w _));have hnews:∀j u,x.cells.toList[j]?=some u→(w.alloc (.cells x.cells T)).cell? ((⟨w.heap.size,0,none⟩:Addr).add j)=some u:=by
  intro j u hj;have ha:(⟨w.heap.size,0,none⟩:Addr).add j=⟨w.heap.size,j,none⟩:=by unfold Addr.add;split<;>simp_all
  rw[ha,eG7];simpa using hj
 obtain⟨v',w',h1,h2,h3,h4⟩:=aK9 (P:=P) (e:=e) (K8 ht) hi hiz hsize (by rw[hzs,hsize]) (ho.ext (o6.alloc w (.cells x.cells T))) (c:=1) (m:=1) (ad:=⟨w.heap.size,0,none⟩) rfl (aX5 hy) hnews (by simp)
  (by simp[maxLen];omega) (by simpa using hbytes) hw1
 refine⟨v',w',h1,h2,?_,fun b hb=>?_⟩
 ·exact o9.trans ((o6.alloc w (.cells x.cells T)).weaken (fun _ _ h=>h.elim)) h3
 ·rcases h4 b hb with h|h
  ·exact .inl h
  ·simp at h;exact .inr (by omega)
theorem ah4{e:TypeId}{z:Value}(ht:A6 P t=some e)(hz:H6 P e=some z)(hpos:0<E3 P e)(hsm:E3 P e≤16777216){x:Value}(hx:x.cells.size=E3 P e):
  (Instr.buildSlice t 1 #[(0,x)]).run P w = .ok (.slice (some ⟨w.heap.size,0,none⟩) 1 1) (w.alloc (.cells x.cells e)):=by
 obtain⟨i,hi,hiz⟩:=t8 hz;have:=an4 (w:=w) ht (by rw[hi];rfl) hz [x] (by simpa using hx) (by simp) hpos (by simpa using hsm) (parts:=#[(0,x)]) rfl (n:=1) rfl;simpa using this
end
theorem eB5:type_of% @List.mem_cons_of_mem:=@List.mem_cons_of_mem
def cM5(ops:Array Oper):List Nat:=ops.toList.filterMap (·.dst)
def wrC:Code→List Nat
 | .seq a b=>wrC a++wrC b
 | .cond _ a b=>wrC a++wrC b
 | .block _ a=>wrC a
 | .loop a=>wrC a
 | .region _ ops _=>cM5 ops
 | _=>[]
section
variable {P:Program}
theorem bv1{r:Result Value}{K K':Fr→World→Prop}{f:Fr}{d:Option Nat}(h:∀v w,K (A5 f d v) w→K' (A5 f d v) w)(hr:ac5 r K f d):ac5 r K' f d:=by
 cases r with
 | ok v w=>exact h _ _ hr
 | halt x w=>exact hr.elim
theorem aU7{r:Result Unit}{K K':Fr→World→Prop}{f:Fr}{d:Option Nat}(h:∀v w,K (A5 f d v) w→K' (A5 f d v) w)(hr:aU6 r K f d):aU6 r K' f d:=by
 cases r with
 | ok v w=>exact h _ _ hr
 | halt x w=>exact hr.elim
theorem bP2{k:Nat}{args:List Value}{w:World}{K K':Fr→World→Prop}{f:Fr}{d:Option Nat}(h:∀v w,K (A5 f d v) w→K' (A5 f d v) w)(hr:ar2 P k args w K f d):ar2 P k args w K' f d:=by
 rcases hr with⟨hb,hc⟩|⟨v,w',h1,h2⟩
 ·exact .inl ⟨hb,hc.mono fun e w' ⟨v,he,hk⟩=>⟨v,he,h _ _ hk⟩⟩
 ·exact .inr ⟨v,w',h1,h _ _ h2⟩
theorem ba7{o:Oper}{K K':Fr→World→Prop}{f:Fr}{w:World}(h:∀v w,K (A5 f o.dst v) w→K' (A5 f o.dst v) w)(hs:N5 P o K f w):N5 P o K' f w:=by
 unfold N5 at *;generalize(execOp (ev f) o).run P w=r at *;cases r with
 | halt x w'=>exact hs
 | ok n w'=>
  cases n
  case value v=>exact h _ _ hs
  case skip=>exact h _ _ hs
  case enter g args=>exact Calls.mono hs fun e w'' ⟨v,he,hk⟩=>⟨v,he,h _ _ hk⟩
  all_goals exact hs
theorem av5{S:Option (World→Prop)}{K K':Fr→World→Prop}{f:Fr}{d:Option Nat}(h:∀v w,K (A5 f d v) w→K' (A5 f d v) w):∀v w,aI1 S K (A5 f d v) w→aI1 S K' (A5 f d v) w:=by
 intro v w hk;cases S with
 | none=>exact h _ _ hk
 | some S=>exact⟨hk.1,h _ _ hk.2⟩
theorem ch0{S:Option (World→Prop)}{fl:Bool}{s:Sem Value}{K K':Fr→World→Prop}{f:Fr}{d:Option Nat}{w:World}(h:∀v w,K (A5 f d v) w→K' (A5 f d v) w)(hr:be2 P S fl s K f d w):be2 P S fl s K' f d w:=by
 unfold be2 at *;cases S with
 | none=>exact bv1 h hr
 | some S=>
  cases fl with
  | true=>
   simp only[eB2]at hr ⊢;obtain⟨v,h1,h2⟩:=hr;exact⟨v,h1,h _ _ h2⟩
  | false=>
   simp only[eB6,eD2]at hr ⊢;exact bv1 (fun v w hk=>⟨hk.1,h _ _ hk.2⟩) hr
theorem W0{S:Option (World→Prop)}{o:Oper}{K K':Fr→World→Prop}{f:Fr}{w:World}(h:∀v w,K (A5 f o.dst v) w→K' (A5 f o.dst v) w)(hs:B0 P S o K f w):B0 P S o K' f w:=by
 unfold B0 at *;split
 ·rename_i v hv;simp only[hv]at hs;exact h _ _ hs
 ·rename_i hv;simp only[hv]at hs;unfold X6 at *;split
  ·rename_i s hs';simp only[hs']at hs;exact ch0 h hs
  ·rename_i hs';simp only[hs']at hs;obtain⟨d,op,ty,pos,aft,gd⟩:=o;cases op
   case store=>exact aU7 (av5 h) hs
   case mapUpdate=>exact aU7 (av5 h) hs
   case insert=>exact aU7 (av5 h) hs
   case call c=>
    obtain⟨cal,args,tys⟩:=c;cases cal
    case value g=>
     simp only at hs ⊢;cases hg:ev f g
     case func fn first cap=>
      cases fn
      case func k=>simp only[hg]at hs ⊢;exact bP2 (av5 h) hs
      all_goals (simp only[hg]at hs)
     all_goals (simp only[hg]at hs)
    all_goals exact hs
   all_goals
    cases S with
    | none=>exact ba7 h hs
    | some S=>
     simp only at hs ⊢;split
     ·rename_i hf;rw[if_pos hf]at hs;obtain⟨v,h1,h2⟩:=hs;exact⟨v,h1,h _ _ h2⟩
     ·rename_i hf;rw[if_neg hf]at hs;exact ba7 (fun v w hk=>⟨hk.1,h _ _ hk.2⟩) hs
theorem aM2{f:Fr}{d:Option Nat}{v:Value}{i:Nat}(h:∀k,d=some k→i≠k):A5 f d v i=f i:=by
 cases d with
 | none=>rfl
 | some k=>simp[A5,p6,h k rfl]
theorem cp8{ops:Array Oper}{K K':Fr→World→Prop}:∀(l:List Oper) (f:Fr) (w:World),(∀f' w',(∀i,i∉l.filterMap (·.dst)→f' i=f i)→K f' w'→K' f' w')→Rn P ops l K f w→Rn P ops l K' f w
 | [],f,w,h,hr=>h _ _ (fun _ _=>rfl) hr
 | o::l,f,w,h,hr=>by
  have key:∀v w',Rn P ops l K (A5 f o.dst v) w'→Rn P ops l K' (A5 f o.dst v) w':=fun v w' hk=>
   cp8 l _ _ (fun f' w'' hf hk'=>h _ _ (fun i hi=>by
    have h1:i∉l.filterMap (·.dst):=fun hm=>hi (List.mem_filterMap.2 (let⟨a,ha,hd⟩:=List.mem_filterMap.1 hm;⟨a,eB5 _ ha,hd⟩));rw[hf i h1];exact aM2 fun k hk e=>hi (by subst e;exact List.mem_filterMap.2 ⟨o,by simp,hk⟩)) hk') hk
  unfold Rn at hr ⊢;split
  ·rename_i hg;simp only[hg]at hr;exact W0 key hr
  ·rename_i j b hg;simp only[hg]at hr;split
   ·rename_i hc;rw[if_pos hc]at hr;exact W0 key hr
   ·rename_i hc;rw[if_neg hc]at hr;exact key _ _ hr
theorem bJ3{ops:Array Oper}{i:Nat}{o:Oper}{k:Nat}(ho:ops[i]?=some o)(hd:o.dst=some k):k∈cM5 ops:=
 List.mem_filterMap.2 ⟨o,by have:=Array.mem_of_getElem? ho;simpa using this,hd⟩
theorem bx9{ops:Array Oper}{S:World→Prop}{K K':Fr→World→Prop}:∀(l:aA0) (f:Fr) (w:World),(∀f' w',(∀i,i∉cM5 ops→f' i=f i)→K f' w'→K' f' w')→RnF P ops S l K f w→RnF P ops S l K' f w
 | .nil,f,w,h,hr=>h _ _ (fun _ _=>rfl) hr
 | .op i l,f,w,h,hr=>by
  unfold RnF at hr ⊢;cases ho:ops[i]? with
  | none=>simp[ho]at hr
  | some o=>
   simp only[ho]at hr ⊢;have key:∀v w',RnF P ops S l K (A5 f o.dst v) w'→RnF P ops S l K' (A5 f o.dst v) w':=fun v w' hk=>
    bx9 l _ _ (fun f' w'' hf hk'=>h _ _ (fun j hj=>by
     rw[hf j hj];exact aM2 fun k hk e=>hj (by subst e;exact bJ3 ho hk)) hk') hk
   split
   ·rename_i hg;simp only[hg]at hr;exact W0 key hr
   ·rename_i j b hg;simp only[hg]at hr;split
    ·rename_i hc;rw[if_pos hc]at hr;exact W0 key hr
    ·rename_i hc;rw[if_neg hc]at hr;exact key _ _ hr
 | .fork rs k,f,w,h,hr=>by
  unfold RnF at hr ⊢;intro i hi;have hr:=hr i hi;cases ho:ops[i]? with
  | none=>simp[ho]at hr
  | some o=>
   simp only[ho]at hr ⊢;have key:∀v w',RnF P ops S (k i) K (A5 f o.dst v) w'→RnF P ops S (k i) K' (A5 f o.dst v) w':=fun v w' hk=>
    bx9 (k i) _ _ (fun f' w'' hf hk'=>h _ _ (fun j hj=>by
     rw[hf j hj];exact aM2 fun k hk e=>hj (by subst e;exact bJ3 ho hk)) hk') hk
   split
   ·rename_i hg;simp only[hg]at hr;exact⟨W0 key hr.1,hr.2⟩
   ·rename_i j b hg;simp only[hg]at hr;split
    ·rename_i hc;rw[if_pos hc]at hr;exact⟨W0 key hr.1,hr.2⟩
    ·rename_i hc;rw[if_neg hc]at hr;exact key _ _ hr
theorem co9:∀(c:Code) (Q Q':Exit→Fr→World→Prop) (f:Fr) (w:World),(∀e f' w',(∀i,i∉wrC c→f' i=f i)→Q e f' w'→Q' e f' w')→CW P c Q f w→CW P c Q' f w:=by
 intro c
 induction c with
 | skip=>intro Q Q' f w h hc;exact h _ _ _ (fun _ _=>rfl) hc
 | seq a b iha ihb=>
  intro Q Q' f w h hc;refine iha _ _ _ _ ?_ hc;intro e f' w' hf hq;cases e
  case normal=>
   refine ihb _ _ _ _ ?_ hq;intro e2 f2 w2 hf2 hq2;exact h _ _ _ (fun i hi=>by
    simp only[wrC,ew7,not_or]at hi;rw[hf2 i hi.2,hf i hi.1]) hq2
  all_goals exact h _ _ _ (fun i hi=>by
    simp only[wrC,ew7,not_or]at hi;exact hf i hi.1) hq
 | cond v a b iha ihb=>
  intro Q Q' f w h hc;simp only[CW]at hc ⊢;unfold aH7 at *;split
  ·rename_i hv;simp only[hv]at hc;exact iha _ _ _ _ (fun e f' w' hf hq=>h _ _ _ (fun i hi=>by simp only[wrC,ew7,not_or]at hi;exact hf i hi.1) hq) hc
  ·rename_i hv;simp only[hv]at hc;exact ihb _ _ _ _ (fun e f' w' hf hq=>h _ _ _ (fun i hi=>by simp only[wrC,ew7,not_or]at hi;exact hf i hi.2) hq) hc
  ·rename_i h1 h2;split at hc
   ·rename_i hv;exact absurd hv h1
   ·rename_i hv;exact absurd hv h2
   ·exact hc
 | block id a ih=>
  intro Q Q' f w h hc;refine ih _ _ _ _ ?_ hc;intro e f' w' hf hq;cases e
  case exit id'=>
   simp only[X1]at hq ⊢;split
   ·rename_i hid;rw[if_pos hid]at hq;exact h _ _ _ hf hq
   ·rename_i hid;rw[if_neg hid]at hq;exact h _ _ _ hf hq
  all_goals exact h _ _ _ hf hq
 | loop a ih=>
  intro Q Q' f w h hc;obtain⟨σ,I,m,s0,h0,hr⟩:=hc;refine⟨σ,fun s f' w'=>I s f' w'∧∀i,i∉wrC a→f' i=f i,m,s0,⟨h0,fun _ _=>rfl⟩,?_⟩;rintro s f' w' ⟨hI,hfr⟩;refine ih _ _ _ _ ?_ (hr s f' w' hI);intro e f2 w2 hf2 hq;cases e
  case normal=>
   obtain⟨s',h1,h2⟩:=hq;exact⟨s',h1,h2,fun i hi=>by rw[hf2 i hi,hfr i hi]⟩
  all_goals exact h _ _ _ (fun i hi=>by rw[hf2 i hi,hfr i hi]) hq
 | region id ops d=>
  intro Q Q' f w h hc;cases d
  case false=>exact cp8 _ _ _ (fun f' w' hf hq=>h _ _ _ hf hq) hc
  case true=>
   obtain⟨S,n,ord,h1,h3,h4⟩:=hc;refine⟨S,n,ord,h1,h3,?_⟩;refine bx9 ord _ _ ?_ h4;intro f' w' hf hq;refine cp8 _ _ _ ?_ hq;intro f2 w2 hf2 hq2;exact h _ _ _ (fun i hi=>by
    rw[hf2 i,hf i hi];intro hm;obtain⟨o,ho,hd⟩:=List.mem_filterMap.1 hm;exact hi (List.mem_filterMap.2 ⟨o,eF9 ho,hd⟩)) hq2
 | exit id=>intro Q Q' f w h hc;exact h _ _ _ (fun _ _=>rfl) hc
 | label l=>intro Q Q' f w h hc;exact h _ _ _ (fun _ _=>rfl) hc
 | ret=>intro Q Q' f w h hc;exact h _ _ _ (fun _ _=>rfl) hc
 | _=>intro Q Q' f w _ hc;exact hc
theorem n8{c:Code}{Q:Exit→Fr→World→Prop}{f:Fr}{w:World}{σ:Type}(keep:List Nat)(I:σ→Fr→World→Prop)(m:σ→Nat)(s0:σ)
  (hk:keep.all (fun i=>!(wrC c).contains i)=true) (h0:I s0 f w)
  (hr:∀s f' w',(∀i∈keep,f' i=f i)→I s f' w'→CW P c (ab3 (fun f'' w''=>∃s',m s'<m s∧I s' f'' w'') Q) f' w'):bY8 (CW P c) Q f w:=by
 have hk':∀i∈keep,i∉wrC c:=by
  intro i hi hm;have:=eE2.1 hk i hi;simp[hm]at this
 refine⟨σ,fun s f' w'=>I s f' w'∧∀i∈keep,f' i=f i,m,s0,⟨h0,fun _ _=>rfl⟩,?_⟩;rintro s f' w' ⟨hI,hfr⟩;refine co9 c _ _ _ _ ?_ (hr s f' w' hfr hI);intro e f2 w2 hf2 hq;cases e
 case normal=>
  obtain⟨s',h1,h2⟩:=hq;exact⟨s',h1,h2,fun i hi=>by rw[hf2 i (hk' i hi),hfr i hi]⟩
 all_goals exact hq
theorem y5{k:Nat}{args:List Value}{w:World}{K:Fr→World→Prop}{f:Fr}{d:Option Nat}{R:Value→World→Prop}(hb:af6 P k=true)
  (h:Calls P k args.toArray w fun e w'=>∃v,e = .returned v∧R v w') (hk:∀v w',R v w'→K (A5 f d v) w'):ar2 P k args w K f d:=
 .inl ⟨hb,h.mono fun _ _ ⟨v,he,hr⟩=>⟨v,he,hk _ _ hr⟩⟩
theorem C2{ops:Array Oper}{K:Fr→World→Prop}{f:Fr}{w:World}(S:World→Prop)(n:Nat)(ord:aA0)(hok:bL1 ops n ord=true)(hS:S w.drew)
  (h:RnF P ops S ord (Rn P ops (ops.toList.drop n) K) f w.drew):cp3 P ops K f w:=⟨S,n,ord,hok,hS,h⟩
theorem ct4{ops:Array Oper}{K:Fr→World→Prop}{f:Fr}{w:World}(keep:List Nat)(S:World→Prop)(n:Nat)(ord:aA0)(I:Fr→World→Prop)(hok:bL1 ops n ord=true)(hkp:keep.all (fun i=>!(cM5 ops).contains i)=true)(hS:S w.drew)
  (h:RnF P ops S ord I f w.drew) (hk:∀f' w',(∀i∈keep,f' i=f i)→I f' w'→Rn P ops (ops.toList.drop n) K f' w'):cp3 P ops K f w:=by
 refine⟨S,n,ord,hok,hS,bx9 ord _ _ (fun f' w' hf hi=>hk f' w' (fun i hi'=>hf i ?_) hi) h⟩;have:=eE2.1 hkp i hi';intro hm;simp[hm]at this
theorem at4{ops:Array Oper}{S:World→Prop}{K:Fr→World→Prop}{f:Fr}{w:World}{rs:List Nat}{k:Nat→aA0}(hf:rs.all (fun i=>match ops[i]? with|some o=>!flt o.op|none=>false)=true)
  (h:∀i∈rs,RnF P ops S (.op i (k i)) K f w):RnF P ops S (.fork rs k) K f w:=by
 unfold RnF;intro i hi;have h1:=h i hi;have h2:=eE2.1 hf i hi;unfold RnF at h1;cases ho:ops[i]? with
 | none=>simp[ho]at h2
 | some o=>
  simp only[ho]at h1 h2 ⊢;have h3:flt o.op=false:=by simpa using h2
  cases hg:o.guard with
  | none=>simp only[hg]at h1 ⊢;exact⟨h1,h3⟩
  | some jb=>
   obtain⟨j,b⟩:=jb;simp only[hg]at h1 ⊢;split
   ·rename_i hc;rw[if_pos hc]at h1;exact⟨h1,h3⟩
   ·rename_i hc;rw[if_neg hc]at h1;exact h1
def A8:List Nat→aA0
 | []=>.nil
 | i::l=>.op i (A8 l)
end
theorem ex8:type_of% @Int.toNat_natCast:=@Int.toNat_natCast
theorem eC3:type_of% @List.ext_getElem:=@List.ext_getElem
theorem ew3:type_of% @List.length_map:=@List.length_map
theorem eA7:type_of% @List.length_range:=@List.length_range
theorem eA1:type_of% @List.length_replicate:=@List.length_replicate
theorem ey5:type_of% @List.map_append:=@List.map_append
theorem eC9:type_of% @List.mem_iff_getElem?:=@List.mem_iff_getElem?
theorem ex2:type_of% @List.mem_of_getElem?:=@List.mem_of_getElem?
theorem ew5:type_of% @List.take_length:=@List.take_length
theorem eI1:type_of% @decide_eq_false:=@decide_eq_false
theorem K1(n:Int)(h : -9223372036854775808≤n∧n≤9223372036854775807):IntKind.i64.wrap n=n:=IntWalk.i64_in n h
theorem B1(k:Nat)(h:k<4000000000000000000):IntKind.i64.wrap ((k:Int)+1)=((k+1:Nat):Int):=by
 rw[K1 _ (by omega)];rfl
theorem ej7(k:Nat)(h:k<4000000000000000000):IntKind.i64.wrap (k:Int)=(k:Int):=K1 _ (by omega)
theorem ek0(k:Nat):decide ((0:Int)≤(k:Int))=true:=by simp
def F2(P:Program)(t T sz by_:Nat):Bool:=
 (A6 P t==some T)&&(match H6 P T with|some z=>z.cells.size==sz|none=>false)&&(E3 P T==sz)&&(cs5 P T==by_)&&decide (0<sz)&&decide (sz≤1000000)
theorem P5{P:Program}{t T sz by_:Nat}(h:F2 P t T sz by_=true):
  A6 P t=some T∧(∃z,H6 P T=some z∧z.cells.size=sz)∧E3 P T=sz∧cs5 P T=by_∧0<sz∧sz≤1000000:=by
 simp only[F2,ex5,beq_iff_eq,ez3]at h;obtain⟨⟨⟨⟨⟨h1,h2⟩,h3⟩,h4⟩,h5⟩,h6⟩:=h;refine⟨h1,?_,h3,h4,h5,h6⟩;cases hz:H6 P T with
 | none=>simp[hz]at h2
 | some z=>exact⟨z,rfl,by simpa[hz]using h2⟩
section
variable {P:Program} {w:World} {h:Hp} {t T sz by_:Nat} {v:Value}
theorem push{α:Type}[z7 α]{e:TypeId}(hs:F2 P t T sz by_=true)(hsz:z7.sz α=sz){xs:List α}(ho:A9 h w T v xs){x:Value}{y:α}(hy:z7.enc h x.cells.toList y)
  (hl:xs.length+1≤1000000000000) (hb:(xs.length+1)*by_≤140737488355328) (hw:B4 h (d7 w)) :
  (Instr.buildSlice t 1 #[(0,x)]).run P w = .ok (.slice (some ⟨w.heap.size,0,none⟩) 1 1) (w.alloc (.cells x.cells T)) ∧
  ∃v' w',(Builtin.append_ #[t,t] e #[v,.slice (some ⟨w.heap.size,0,none⟩) 1 1]).run P (w.alloc (.cells x.cells T)) = .ok v' w'∧A9 h w' T v' (xs++[y])∧o9 (A3 v) w w'∧F1 w v v':=by
 obtain⟨h1,⟨z,hz,hzs⟩,h3,h4,h5,h6⟩:=P5 hs;have hx:x.cells.size=sz:=by have:=z7.len hy;simpa[hsz]using this
 exact⟨ah4 h1 hz (by omega) (by omega) (by rw[hx,h3]),cA8 h1 hz (by rw[h3,hsz]) (by rw[hzs,hsz]) ho hy hl (by rw[h4];exact hb) hw⟩
theorem lit{α:Type}[z7 α](hs:F2 P t T sz by_=true){xs:List Value}{ys:List α}{parts:Array (Nat×Value)}{n:Nat}(hp:parts.toList=(xs.zipIdx 0).map fun p=>(p.2,p.1))
  (he:N0 h (xs.flatMap (·.cells.toList)) ys) (hx:∀x∈xs,x.cells.size=sz) (hn:n=xs.length) (hyl:ys.length=xs.length) (hne:xs≠[]) (hlt:xs.length≤16) (hw:B4 h (d7 w)) :
  ∃v w',(Instr.buildSlice t n parts).run P w = .ok v w'∧A9 h w' T v ys∧o6 w w'∧(∀b,A3 v b→w.heap.size≤b):=by
 obtain⟨h1,⟨z,hz,hzs⟩,h3,h4,h5,h6⟩:=P5 hs;obtain⟨i,hi,hiz⟩:=t8 hz;have hr:=an4 (w:=w) h1 (by rw[hi];rfl) hz xs (by rw[h3];exact hx) hne (by omega) (ew0 (Nat.mul_le_mul hlt (show E3 P T≤1000000 by omega)) (by omega)) hp hn;refine⟨_,_,hr,.inr ⟨w.heap.size,n,_,by rw[hn,hyl],av4 hw (ew8 _),ez5 w _,by omega,by rw[hn];simp only[maxLen];omega,?_,?_⟩,o6.alloc _ _,fun b hb=>by simp[A3,Value.ownBlock]at hb;omega⟩
 ·have:=J7 he;simp only[eE7,this,hyl,hn]
 ·rw[←J7 he];simp only[ew5];exact he
theorem cb3{α:Type}[z7 α]{c:List Value}{y:α}(he:z7.enc h c y):∀n:Nat,N0 h (List.replicate n c).flatten (List.replicate n y)
 | 0=>rfl
 | n+1=>⟨c,(List.replicate n c).flatten,by simp[List.replicate_succ],he,cb3 he n⟩
theorem bG4(z:Array Value)(hz:0<z.size):∀n:Nat,((Array.range (n*z.size)).map fun i=>z[i % z.size]!).toList=(List.replicate n z.toList).flatten
 | 0=>by simp
 | n+1=>by
  have ih:=bG4 z hz n;simp only[Array.toList_map,Array.toList_range]at ih ⊢;rw[eG3,Nat.one_mul,List.range_add,ey5,ih,List.replicate_succ',List.flatten_append]
  congr 1
  simp only[List.map_map,List.flatten_cons,List.flatten_nil,ey6];apply eC3
  ·simp
  ·intro i h1 h2;simp only[ew3,eA7]at h1;have:(n*z.size+i) % z.size=i:=by rw[Nat.add_comm,Nat.add_mul_mod_self_right];exact Nat.mod_eq_of_lt h1
   simp[this,h1]
theorem mk{α:Type}[z7 α](hs:F2 P t T sz by_=true){z:Value}(hz:H6 P T=some z){y:α}(he:z7.enc h z.cells.toList y){n:Nat}(hb:by_*n≤281474976710656)(hn:n≤1000000000000)(hw:B4 h (d7 w)):
  ∃v w',(Instr.makeSlice t (.int .i64 n) (.int .i64 n)).run P w = .ok v w'∧A9 h w' T v (List.replicate n y)∧o6 w w'∧(∀b,A3 v b→w.heap.size≤b)∧w'.heap.size=w.heap.size+1:=by
 obtain⟨h1,⟨z',hz',hzs⟩,h3,h4,h5,h6⟩:=P5 hs;obtain rfl:z=z':=ex1 (hz.symm.trans hz');obtain⟨i,hi,hiz⟩:=t8 hz;have hby:i.bytes=by_:=by rw[←h4,ar9 hi]
 have hsi:i.size=sz:=by rw[←h3,C7 hi]
 have hl:=z7.len he;have hszα:z7.sz α=sz:=by rw[←hl];simpa using hzs
 have hnw:IntKind.i64.wrap (n:Int)=n:=ej7 n (by omega);have hnb:¬((by_:Int)*(n:Int)>281474976710656):=by
  have:=Int.ofNat_le.2 hb;rw[Int.natCast_mul]at this;omega
 have hpow:(2:Int) ^ 48=281474976710656:=by decide +kernel
 have hroom:∀b w,(askRoom b).run P w = .ok () w:=by
  intro b w;unfold askRoom;split
  ·rfl
  ·rfl
 refine⟨.slice (some ⟨w.heap.size,0,none⟩) n n,w.alloc (.cells ((Array.range (n*sz)).map fun i=>z.cells[i % z.cells.size]!) T),?_,?_,o6.alloc _ _,fun b hb'=>by simp[A3,Value.ownBlock]at hb';omega,by simp⟩
 ·unfold Instr.makeSlice;simp only[ex6,F5,K8 h1,ew9,asInt,asIntOf,ey9,N2,hi,hby,hnw,hpow];have hc:((decide ((n:Int)<0)||decide ((by_:Int)*(n:Int)>281474976710656))||decide ((n:Int)<0)||decide ((n:Int)>(n:Int)))=false:=by
   rw[eI1 (show ¬((n:Int)<0) by omega),eI1 hnb,eI1 (show ¬((n:Int)>(n:Int)) by omega)];rfl
  simp only[hc,eB6,eD2,ex6,hroom,ew9,ex8,N4 (show(P.info? T).isSome=true by rw[hi];rfl),h3];by_cases h0:n*sz=0
  ·have e0:∀(g:Nat→Value),(Array.range 0).map g=#[]:=fun g=>by simp
   simp only[h0,eB2,e0];simp only[ex6,ey9,ew9];rfl
  ·simp only[h0,eD2,ex6,zeroValue,N2,hi,ew9,hiz,ey9];rfl
 ·right;refine⟨w.heap.size,n,_,by simp,av4 hw (ew8 _),ez5 w _,by simp,by simp only[maxLen];omega,by simp[hszα],?_⟩;have:=bG4 z.cells (by omega) n;rw[hzs]at this ⊢;rw[this,eA1,hszα];have hlen:(List.replicate n z.cells.toList).flatten.length=n*sz:=by simp[hzs]
  rw[←hlen,ew5];exact cb3 he n
end
structure Ptr (α:Type) where
 to:α
instance {α:Type} [z7 α]:z7 (Ptr α) where
 sz:=1
 pos:=by omega
 enc h cs x:=∃a es,cs=[.pointer (some a)]∧z7.enc h es x.to∧∀j v,es[j]?=some v→I8 h (a.add j)=some v
 len:=by rintro h cs x ⟨a,es,rfl,_⟩;rfl
 mono:=by
  rintro h k cs x hk ⟨a,es,e,h1,h2⟩;exact⟨a,es,e,z7.mono hk h1,fun j v hv=>F9 hk (h2 j v hv)⟩
 one:=by
  rintro h cs x ⟨a,es,rfl,_⟩ v hv;simp at hv;subst hv;rfl
structure Y4 where
 v:Value
instance:z7 Y4 where
 sz:=1
 pos:=by omega
 enc _ cs x:=cs=[x.v]∧x.v.oneCell'=true
 len h:=by simp[h.1]
 mono _ h:=h
 one h:=by
  intro v hv;rw[h.1]at hv;simp at hv;subst hv;exact h.2
structure J9 {α:Type} [z7 α] (h:Hp) (w:World) (T T':TypeId) (v:Value) (us:List Y4) (xss:List (List α)):Prop where
 outer:A9 h w T v us
 len:us.length=xss.length
 row:∀(i:Nat) (u:Y4) (xs:List α),us[i]?=some u→xss[i]?=some xs→A9 h w T' u.v xs
 apart:∀(i j:Nat) (u u':Y4),i≠j→us[i]?=some u→us[j]?=some u'→∀b,A3 u.v b→¬A3 u'.v b
 off:∀(i:Nat) (u:Y4),us[i]?=some u→∀b,A3 u.v b→¬A3 v b
def K5(v:Value)(us:List Y4)(b:Nat):Prop:=A3 v b∨∃u∈us,A3 u.v b
section
variable {α:Type} [z7 α] {h:Hp} {w:World} {T T':TypeId} {v:Value} {us:List Y4} {xss:List (List α)}
theorem J9.free(hr:J9 h w T T' v us xss){b:Nat}(hb:K5 v us b):h b=none:=by
 rcases hb with hb|⟨u,hu,hb⟩
 ·exact hr.outer.free hb
 ·obtain⟨i,hi⟩:=eC9.1 hu;have hlt:i<xss.length:=by rw[←hr.len];exact(ev8.1 hi).1
  exact(hr.row i u _ hi (ev2 hlt)).free hb
theorem J9.lt(hr:J9 h w T T' v us xss){b:Nat}(hb:K5 v us b):b<w.heap.size:=by
 rcases hb with hb|⟨u,hu,hb⟩
 ·exact hr.outer.lt hb
 ·obtain⟨i,hi⟩:=eC9.1 hu;have hlt:i<xss.length:=by rw[←hr.len];exact(ev8.1 hi).1
  exact(hr.row i u _ hi (ev2 hlt)).lt hb
theorem J9.mod{M:Nat→Prop}{w':World}(hr:J9 h w T T' v us xss)(hm:o9 M w w')(hM:∀b,K5 v us b→¬M b):J9 h w' T T' v us xss:=
 ⟨hr.outer.mod hm fun b hb=>hM b (.inl hb),hr.len,fun i u xs hi hx=>(hr.row i u xs hi hx).mod hm fun b hb=>hM b (.inr ⟨u,ex2 hi,hb⟩),hr.apart,hr.off⟩
theorem J9.ext{w':World}(hr:J9 h w T T' v us xss)(hm:o6 w w'):J9 h w' T T' v us xss:=hr.mod hm fun _ _=>id
theorem J9.set{w' w'':World}(hr:J9 h w T T' v us xss){i:Nat}{u:Y4}(hi:us[i]?=some u){u':Value}{xs:List α}
  (hm:o9 (A3 u.v) w w') (ho:A9 h w' T' u' xs) (hv:F1 w u.v u')
  (hm2:o9 (A3 v) w' w'') (ho2:A9 h w'' T v (us.set i ⟨u'⟩)):J9 h w'' T T' v (us.set i ⟨u'⟩) (xss.set i xs):=by
 have hil:i<us.length:=(ev8.1 hi).1;have hnew:∀b,A3 u' b→¬A3 v b:=fun b hb hb2=>by
  rcases hv b hb with hb3|hb3
  ·exact hr.off i u hi b hb3 hb2
  ·have:=hr.outer.lt hb2;omega
 have hget:∀(j:Nat) (x:Y4),(us.set i ⟨u'⟩)[j]?=some x→(j=i∧x=⟨u'⟩)∨(j≠i∧us[j]?=some x):=by
  intro j x hj;rw[List.getElem?_set]at hj;by_cases hji:i=j
  ·subst hji;simp only[eB2,if_pos hil]at hj;exact .inl ⟨rfl,(ex1 hj).symm⟩
  ·rw[if_neg hji]at hj;exact .inr ⟨fun e=>hji e.symm,hj⟩
 have hother:∀(j:Nat) (x:Y4),j≠i→us[j]?=some x→∀b,A3 x.v b→¬A3 u' b:=by
  intro j x hji hj b hb hb2;rcases hv b hb2 with hb3|hb3
  ·exact hr.apart j i x u hji hj hi b hb hb3
  ·have hlt:j<xss.length:=by rw[←hr.len];exact(ev8.1 hj).1
   have:=(hr.row j x _ hj (ev2 hlt)).lt hb;omega
 refine⟨ho2,by simp[hr.len],?_,?_,?_⟩
 ·intro j x ys hj hy;rcases hget j x hj with⟨rfl,rfl⟩|⟨hji,hj'⟩
  ·rw[List.getElem?_set,if_pos rfl,if_pos (by rw[←hr.len];exact hil)]at hy;obtain rfl:=ex1 hy;exact ho.mod hm2 hnew
  ·rw[List.getElem?_set,if_neg (fun e=>hji e.symm)]at hy;refine((hr.row j x ys hj' hy).mod hm fun b hb hb2=>hr.apart j i x u hji hj' hi b hb hb2).mod hm2 fun b hb=>hr.off j x hj' b hb
 ·intro j k x y hjk hj hk b hb hb2;rcases hget j x hj with⟨rfl,rfl⟩|⟨hji,hj'⟩<;>rcases hget k y hk with⟨rfl,rfl⟩|⟨hki,hk'⟩
  ·exact hjk rfl
  ·exact hother k y hki hk' b hb2 hb
  ·exact hother j x hji hj' b hb hb2
  ·exact hr.apart j k x y hjk hj' hk' b hb hb2
 ·intro j x hj b hb;rcases hget j x hj with⟨rfl,rfl⟩|⟨hji,hj'⟩
  ·exact hnew b hb
  ·exact hr.off j x hj' b hb
theorem J9.ro(hr:J9 h w T T' v us xss)(hw:B4 h (d7 w)):R (d7 w) v xss:=by
 have ho:=hr.outer.rw_ hw;obtain⟨a,n,c,e,h1,h2,es,h3,h4⟩:=ho;refine⟨a,n,c,e,by rw[h1,hr.len],h2,es,?_,h4⟩;have key:∀(us:List Y4) (xss:List (List α)) (es:List Value),us.length=xss.length→N0 (d7 w) es us →
   (∀(i:Nat) (u:Y4) (xs:List α),us[i]?=some u→xss[i]?=some xs→R (d7 w) u.v xs)→N0 (d7 w) es xss:=by
  intro us
  induction us with
  | nil=>
   intro xss es hl he _;have:xss=[]:=List.eq_nil_of_length_eq_zero hl.symm;subst this;exact he
  | cons u us ih=>
   intro xss es hl he hx;cases xss with
   | nil=>simp at hl
   | cons xs xss=>
    obtain⟨c1,c2,rfl,⟨hc1,_⟩,hc2⟩:=he;subst hc1;exact⟨[u.v],c2,rfl,hx 0 u xs rfl rfl,ih xss c2 (by simpa using hl) hc2 fun i u' xs' h5 h6=>hx (i+1) u' xs' (by simpa using h5) (by simpa using h6)⟩
 exact key us xss es hr.len h3 fun i u xs hi hx=>(hr.row i u xs hi hx).rw_ hw
end
section
variable {P:Program} {w:World} {h:Hp} {t T:TypeId} {v:Value}
theorem bC2(w:World)(z cs:Array Value)(T:TypeId):(w.alloc (.cells z T)).setRow w.heap.size cs=w.alloc (.cells cs T):=by
 unfold World.setRow World.alloc
 congr 1
 apply Array.ext
 ·simp
 ·intro i h1 h2;simp only[Array.getElem_modify];by_cases hi:w.heap.size=i
  ·subst hi;simp
  ·rw[if_neg hi];have:i<w.heap.size:=by simp at h2;omega
   simp[Array.getElem_push,this]
theorem aT9{z:Value}(hz:H6 P T=some z)(hs:z.cells.size=E3 P T){cs:Array Value}(hc:cs.size=E3 P T)(h1:∀u∈cs.toList,u.oneCell'=true):
  (Instr.alloc T true (.tuple #[])).run P w = .ok (.pointer (some ⟨w.heap.size,0,none⟩)) (w.alloc (.cells z.cells T)) ∧
  (Instr.storeAt T (.pointer (some ⟨w.heap.size,0,none⟩)) (.agg cs)).run P (w.alloc (.cells z.cells T)) = .ok () (w.alloc (.cells cs T)):=by
 obtain⟨i,hi,hiz⟩:=t8 hz;constructor
 ·unfold Instr.alloc zeroValue;simp only[ex6,N2,hi,hiz,ey9,ew9];rfl
 ·have hst:=run_storeCells_from (P:=P) w.heap.size T cs.toList 0 z.cells (w.alloc (.cells z.cells T)) (ez5 w _) (by simp[hc,hs]) h1;simp only[eG6,eG1,Array.toArray_toList]at hst;unfold Instr.storeAt storeVar;simp only[Instr.sureAddr,ex6,ey9,ew9,sizeOf,N2,hi,Value.cells];rw[C7 hi]at hc;simp only[hc,ne_eq,not_true_eq_false,eD2];rw[←bC2 w z.cells cs T];exact hst
theorem ct0{cs:Array Value}{i:Nat}{u:Value}(hu:cs[i]?=some u):(w.alloc (.cells cs T)).cell? ⟨w.heap.size,i,none⟩=some u:=by
 rw[eG7];exact hu
theorem cy7{cs:Array Value}{i:Nat}{u:Value}(hu:cs[i]?=some u)(ht:B6 P t=false):(Instr.loadAt t (.pointer (some ⟨w.heap.size,i,none⟩))).run P (w.alloc (.cells cs T)) = .ok u (w.alloc (.cells cs T)):=
 Q6 ht (ct0 hu)
theorem cc4{xs:List (Int×Int)}(hr:R h v xs)(hw:B4 h (d7 w)){k:Nat}{x:Int×Int}(hk:xs[k]?=some x)(ht:B6 P t=true)(hu:(P.underlying t).isSome=true)(hi:(P.info? t).isSome=true)(hs:E3 P t=2):
  (Instr.loadAt t (.pointer (some (H4 v (k*2))))).run P w = .ok (.agg #[.int .i64 x.1,.int .i64 x.2]) w:=by
 obtain⟨_,es,he,hc⟩:=hr.get hk;obtain⟨c1,c2,rfl,h1,h2⟩:=he;have h1':c1=[.int .i64 x.1]:=h1;have h2':c2=[.int .i64 x.2]:=h2;subst h1' h2';exact bi4 (cs:=[.int .i64 x.1,.int .i64 x.2]) ht hu hi hs fun j u hj=>F9 hw (hc j u hj)
theorem add_lit(b o k:Nat):(⟨b,o,none⟩:Addr).add k=⟨b,o+k,none⟩:=by unfold Addr.add;split<;>simp_all
theorem R.row{α:Type}[z7 α]{xss:List (List α)}(hr:R h v xss){k:Nat}{x:List α}(hk:xss[k]?=some x):∃u,R h u x∧I8 h (H4 v k)=some u:=by
 obtain⟨_,es,he,hc⟩:=hr.get hk;have hl:es.length=1:=z7.len he
 match es,hl with
 | [u],_=>
  have:=hc 0 u rfl;rw[J8]at this;have h1:(k*z7.sz (List α))=k:=eE8 k;rw[h1]at this;exact⟨u,he,this⟩
theorem G4{a:Addr}{u:Value}(hc:I8 h a=some u)(hw:B4 h (d7 w))(ht:B6 P t=false):(Instr.loadAt t (.pointer (some a))).run P w = .ok u w:=
 Q6 ht (F9 hw hc)
theorem A9.ext2{α:Type}[z7 α]{w0 w2:World}{xs:List α}(ho:A9 (d7 w0) w T v xs)(hx:o6 w0 w)(hm:o9 (A3 v) w w2):o6 w0 w2:=
 o9.ext_of hx hm fun b hb=>by
  rcases ez0 b w0.heap.size with hlt|hge
  ·have:=ho.free hb;simp[d7,hlt]at this
  ·exact hge
theorem aT2{α:Type}[G7 α]{k:Hp}:∀{xs:List α} {cs:List Value},N0 k cs xs→N0 h cs xs
 | [],_,e=>e
 | _::_,_,⟨c1,c2,e,h1,h2⟩=>⟨c1,c2,e,h1,aT2 h2⟩
theorem A9.down{α:Type}[G7 α]{k:Hp}{xs:List α}(ho:A9 k w T v xs)(hk:B4 h k):A9 h w T v xs:=by
 rcases ho with hn|⟨b,c,cur,rfl,h1,h2,h3,h4,h5,h6⟩
 ·exact .inl hn
 ·refine .inr ⟨b,c,cur,rfl,?_,h2,h3,h4,h5,aT2 h6⟩;cases e:h b with
  | none=>rfl
  | some o=>rw[hk b o e]at h1;cases h1
theorem A9.back{α:Type}[G7 α]{w0 w1:World}{xs:List α}(ho:A9 (d7 w1) w T v xs)(hx:o6 w0 w1):A9 (d7 w0) w T v xs:=ho.down (b7 hx)
end
open Classical in
noncomputable def aH9 (w:World) (v:Value):Hp:=fun b=>if A3 v b then none else w.heap[b]?
theorem bt0{w:World}{v:Value}{b:Nat}(h:A3 v b):aH9 w v b=none:=by unfold aH9;rw[if_pos h]
theorem aE9{w:World}{v:Value}{b:Nat}(h:¬A3 v b):aH9 w v b=w.heap[b]?:=by unfold aH9;rw[if_neg h]
theorem cv8(w:World)(v:Value):B4 (aH9 w v) (d7 w):=fun b o e=>by
 by_cases h:A3 v b
 ·rw[bt0 h]at e;cases e
 ·rw[aE9 h]at e;exact e
section
variable {α:Type} [z7 α] {h:Hp} {w:World} {T:TypeId} {v:Value} {xs:List α}
theorem A9.rebase(ho:A9 h w T v xs)(hw:B4 h (d7 w)):A9 (aH9 w v) w T v xs:=by
 refine ho.up (fun b o e=>?_) fun b hb=>bt0 hb;have hn:¬A3 v b:=fun hb=>by rw[ho.free hb]at e;cases e
 rw[aE9 hn];exact hw b o e
theorem A9.beside{β:Type}[z7 β]{k:Hp}{T':TypeId}{u:Value}{ys:List β}(hu:A9 k w T' u ys)(hk:B4 k (aH9 w v))(hd:∀b,A3 u b→¬A3 v b):R (aH9 w v) u ys:=
 hu.ro hk fun b hb=>aE9 (hd b hb)
end
theorem J9.write{α:Type}[z7 α]{h:Hp}{w w':World}{T T':TypeId}{v:Value}{us:List Y4}{xss:List (List α)}(hr:J9 h w T T' v us xss){i:Nat}{u:Y4}(hi:us[i]?=some u){xs:List α}
  (hm:o9 (A3 u.v) w w') (ho:A9 h w' T' u.v xs):J9 h w' T T' v us (xss.set i xs):=by
 have hset:us.set i ⟨u.v⟩=us:=by
  obtain⟨hl,e⟩:=ev8.1 hi;apply eC3 (by simp);intro j h1 h2;rw[List.getElem_set];split
  ·rename_i e2;subst e2;exact e.symm
  ·rfl
 have:=hr.set (u':=u.v) (xs:=xs) hi hm ho (fun b hb=>.inl hb) (o9.refl _) (by
  rw[hset];exact hr.outer.mod hm fun b hb hb2=>hr.off i u hi b hb2 hb)
 rw[hset]at this;exact this
open Classical in
noncomputable def B5 (w:World) (N:Nat→Prop):Hp:=fun b=>if N b then none else w.heap[b]?
theorem H8{w:World}{N:Nat→Prop}{b:Nat}(h:N b):B5 w N b=none:=by unfold B5;rw[if_pos h]
theorem D3{w:World}{N:Nat→Prop}{b:Nat}(h:¬N b):B5 w N b=w.heap[b]?:=by unfold B5;rw[if_neg h]
theorem C0(w:World)(N:Nat→Prop):B4 (B5 w N) (d7 w):=fun b o e=>by
 by_cases h:N b
 ·rw[H8 h]at e;cases e
 ·rw[D3 h]at e;exact e
theorem H1{w w':World}{N N' M:Nat→Prop}(hm:o9 M w w')(hM:∀b,M b→N b)(hN:∀b,N' b→N b∨w.heap.size≤b):B4 (B5 w N) (B5 w' N'):=fun b o e=>by
 by_cases h:N b
 ·rw[H8 h]at e;cases e
 ·rw[D3 h]at e;have hb:b<w.heap.size:=(ev9.1 e).1;have h':¬N' b:=fun hb'=>by
   rcases hN b hb' with k|k
   ·exact h k
   ·omega
  rw[D3 h',hm.block b hb fun hh=>h (hM b hh)];exact e
theorem aF0{w0 w:World}{N:Nat→Prop}(hx:o6 w0 w)(hN:∀b,N b→w0.heap.size≤b):B4 (d7 w0) (B5 w N):=fun b o e=>by
 have hb:b<w0.heap.size:=(ev9.1 (show w0.heap[b]?=some o from e)).1;have hn:¬N b:=fun h=>by have:=hN b h;omega
 rw[D3 hn];exact b7 hx b o e
section
variable {α:Type} [z7 α] {h:Hp} {w:World} {T:TypeId} {v:Value} {xs:List α} {N:Nat→Prop}
theorem A9.noMod{w':World}{N' M:Nat→Prop}(ho:A9 (B5 w N) w T v xs)(hm:o9 M w w')(hM:∀b,M b→N b)(hd:∀b,A3 v b→¬M b)(hN:∀b,N' b→N b∨w.heap.size≤b)(hv:∀b,A3 v b→N' b):A9 (B5 w' N') w' T v xs:=
 (ho.mod hm hd).up (H1 hm hM hN) fun b hb=>H8 (hv b hb)
theorem A9.roNo{k:Hp}(hu:A9 k w T v xs)(hk:B4 k (B5 w N))(hd:∀b,A3 v b→¬N b):R (B5 w N) v xs:=hu.ro hk fun b hb=>D3 (hd b hb)
theorem A9.reNo(ho:A9 h w T v xs)(hh:B4 h (B5 w N))(hv:∀b,A3 v b→N b):A9 (B5 w N) w T v xs:=ho.up hh fun b hb=>H8 (hv b hb)
end
theorem eI0:type_of% @Bool.eq_iff_iff:=@Bool.eq_iff_iff
theorem eC0:type_of% @Iff.rfl:=@Iff.rfl
theorem eI2:type_of% @List.cons.injEq:=@List.cons.injEq
theorem eG2:type_of% @List.cons_append:=@List.cons_append
theorem ex3:type_of% @List.mem_cons:=@List.mem_cons
theorem eA6:type_of% @List.not_mem_nil:=@List.not_mem_nil
theorem eG5:type_of% @or_false:=@or_false
structure A4 where
 b:List UInt8
 deriving DecidableEq
instance:Inhabited A4:=⟨⟨[]⟩⟩
def ofA(b:Array UInt8):A4:=⟨b.toList⟩
abbrev e0:A4:=ofA #[]
def o7(s:A4):Value:=.string ⟨s.b.toArray⟩
instance:G7 A4:=⟨o7,fun _=>rfl⟩
theorem ak9(l:List UInt8):(⟨l.toArray⟩:ByteArray).toList=l:=by
 rw[ByteArray.toList_eq]
def Z0(a b:A4):Bool:=Op.bytesLess a.b b.b
theorem bd7(a b:A4):(a.b==b.b)=decide (a=b):=by
 refine eI0.2 ?_;rw[beq_iff_eq,decide_eq_true_iff];cases a;cases b;simp
section
variable {P:Program} {t:TypeId}
theorem bZ6{a b:A4}:B7 P .eql t (o7 a) (o7 b)=some (.bool (decide (a=b))):=by
 simp only[o7,B7,ak9,bd7]
theorem cL2{a b:A4}:B7 P .neq t (o7 a) (o7 b)=some (.bool (!decide (a=b))):=by
 simp only[o7,B7,ak9,bd7]
theorem ea7{a b:A4}:B7 P .lss t (o7 a) (o7 b)=some (.bool (Z0 a b)):=by
 simp only[o7,B7,ak9,Z0]
theorem cL1{a b:A4}:B7 P .gtr t (o7 a) (o7 b)=some (.bool !(Z0 a b||decide (a=b))):=by
 simp only[o7,B7,ak9,Z0,bd7]
theorem dF4{s:A4}(h:bC5 P t=true)(he:A6 P t=none):T6 P t (o7 s)=some (.int .i64 (s.b.length:Nat)):=by
 simp only[T6,he,Option.isSome_none,eB6,eD2,o7,h,eB2];rfl
end
def bl2(h:Hp)(v:Value)(n:Nat)(E:List Value→Prop):Prop:=∃a m c es,v = .slice a m c∧m=n∧m≤c∧E es∧∀j u,es[j]?=some u→∃ad,a=some ad∧I8 h (ad.add j)=some u
theorem aL4{h k:Hp}(hk:B4 h k){v:Value}{n:Nat}{E F:List Value→Prop}(hE:∀es,E es→F es):bl2 h v n E→bl2 k v n F:=by
 rintro⟨a,m,c,es,e1,e2,e3,e4,e5⟩;refine⟨a,m,c,es,e1,e2,e3,hE _ e4,fun j u hj=>?_⟩;obtain⟨ad,h1,h2⟩:=e5 j u hj;exact⟨ad,h1,F9 hk h2⟩
theorem aV3{h:Hp}{v:Value}{n:Nat}{E:List Value→Prop}:bl2 h v n E→v.oneCell'=true:=by
 rintro⟨a,m,c,es,rfl,_⟩;rfl
theorem bZ1{α:Type}[z7 α]{h:Hp}{v:Value}{xs:List α}:R h v xs↔bl2 h v xs.length (fun es=>N0 h es xs):=by
 constructor
 ·rintro⟨a,n,c,e,h1,h2,es,h3,h4⟩;simp only[eI2,and_true]at e;exact⟨a,n,c,es,e,h1,h2,h3,h4⟩
 ·rintro⟨a,n,c,es,rfl,h1,h2,h3,h4⟩;exact⟨a,n,c,rfl,h1,h2,es,h3,h4⟩
structure bd9 (α:Type) where
 n:Nat
 pos:0<n
 cells:α→List Value
 len:∀x,(cells x).length=n
 one:∀x,∀v∈cells x,v.oneCell'=true
abbrev bd9.rep{α:Type}(F:bd9 α):z7 α where
 sz:=F.n
 pos:=F.pos
 enc _ cs x:=cs=F.cells x
 len h:=by rw[h];exact F.len _
 mono _ h:=h
 one h:=by intro v hv;rw[h]at hv;exact F.one _ v hv
structure Pa where
 name:A4
 ref:Bool
 deriving DecidableEq
def Pa.cells(p:Pa):List Value:=[o7 p.name,.bool p.ref]
instance:z7 Pa:=bd9.rep ⟨2,by omega,Pa.cells,fun _=>rfl,fun x v hv=>by simp[Pa.cells]at hv;rcases hv with rfl|rfl<;>rfl⟩
structure Sp where
 src:Int
 dst:Int
 kind:Int
 deriving DecidableEq
def Sp.cells(p:Sp):List Value:=[.int .i64 p.src,.int .i64 p.dst,.int .i64 p.kind]
instance:z7 Sp:=bd9.rep ⟨3,by omega,Sp.cells,fun _=>rfl,fun x v hv=>by simp[Sp.cells]at hv;rcases hv with rfl|rfl|rfl<;>rfl⟩
structure Fw where
 src:Int
 dst:Int
 var:A4
 deriving DecidableEq
def Fw.cells(p:Fw):List Value:=[.int .i64 p.src,.int .i64 p.dst,o7 p.var]
instance:z7 Fw:=bd9.rep ⟨3,by omega,Fw.cells,fun _=>rfl,fun x v hv=>by simp[Fw.cells]at hv;rcases hv with rfl|rfl|rfl<;>rfl⟩
structure Vx where
 proc:A4
 kind:Int
 id:Int
 slot:A4
 deriving DecidableEq
def Vx.cells(p:Vx):List Value:=[o7 p.proc,.int .i64 p.kind,.int .i64 p.id,o7 p.slot]
instance:z7 Vx:=bd9.rep ⟨4,by omega,Vx.cells,fun _=>rfl,fun x v hv=>by simp[Vx.cells]at hv;rcases hv with rfl|rfl|rfl|rfl<;>rfl⟩
structure Eg where
 src:Vx
 dst:Vx
 kind:Int
 deriving DecidableEq
def Eg.cells(p:Eg):List Value:=p.src.cells++p.dst.cells++[.int .i64 p.kind]
instance:z7 Eg:=bd9.rep ⟨9,by omega,Eg.cells,fun _=>rfl,fun x v hv=>by simp[Eg.cells,Vx.cells]at hv;rcases hv with rfl|rfl|rfl|rfl|rfl|rfl|rfl|rfl|rfl<;>rfl⟩
inductive Ex where
 | mk (op n:Int) (name:A4) (kids:List Ex)
namespace Ex
def op:Ex→Int | .mk a _ _ _=>a
def n:Ex→Int | .mk _ a _ _=>a
def name:Ex→A4 | .mk _ _ a _=>a
def kids:Ex→List Ex | .mk _ _ _ a=>a
end Ex
mutual
def aN1(h:Hp):Ex→List Value→Prop
 | .mk op n name kids,cs=>∃vk,cs=[.int .i64 op,.int .i64 n,o7 name,vk]∧bl2 h vk kids.length (aq5 h kids)
def aq5(h:Hp):List Ex→List Value→Prop
 | [],cs=>cs=[]
 | x::xs,cs=>∃c1 c2,cs=c1++c2∧aN1 h x c1∧aq5 h xs c2
end
mutual
theorem bf7{h k:Hp}(hk:B4 h k):∀(x:Ex) (cs:List Value),aN1 h x cs→aN1 k x cs
 | .mk op n name kids,cs,e=>by
  simp only[aN1]at *;obtain⟨vk,e1,e2⟩:=e;exact⟨vk,e1,aL4 hk (fun es=>aX4 hk kids es) e2⟩
theorem aX4{h k:Hp}(hk:B4 h k):∀(x:List Ex) (cs:List Value),aq5 h x cs→aq5 k x cs
 | [],cs,e=>by simpa only[aq5]using e
 | x::xs,cs,e=>by
  simp only[aq5]at *;obtain⟨c1,c2,e1,e2,e3⟩:=e;exact⟨c1,c2,e1,bf7 hk x c1 e2,aX4 hk xs c2 e3⟩
end
instance:z7 Ex where
 sz:=4
 pos:=by omega
 enc h cs x:=aN1 h x cs
 len:=by
  rintro h cs ⟨op,n,name,kids⟩ e;simp only[aN1]at e;obtain⟨vk,rfl,_⟩:=e;rfl
 mono hk:=bf7 hk _ _
 one:=by
  rintro h cs ⟨op,n,name,kids⟩ e v hv;simp only[aN1]at e;obtain⟨vk,rfl,h2⟩:=e;simp only[ex3,eA6,eG5]at hv;rcases hv with rfl|rfl|rfl|rfl
  ·rfl
  ·rfl
  ·rfl
  ·exact aV3 h2
theorem bf8{h:Hp}:∀(xs:List Ex) (es:List Value),aq5 h xs es↔N0 h es xs
 | [],es=>by simp only[aq5,N0]
 | x::xs,es=>by
  simp only[aq5,N0,bf8 xs];exact eC0
theorem bz2{h:Hp}{cs:List Value}{x:Ex}:z7.enc h cs x↔∃vk,cs=[.int .i64 x.op,.int .i64 x.n,o7 x.name,vk]∧R h vk x.kids:=by
 obtain⟨op,n,name,kids⟩:=x;show aN1 h _ cs↔_;simp only[aN1,bZ1,Ex.op,Ex.n,Ex.name,Ex.kids];have:aq5 h kids=fun es=>N0 h es kids:=by funext es;exact propext (bf8 kids es)
 rw[this]
structure Ar where
 ref:Bool
 name:A4
 x:Ex
instance:z7 Ar where
 sz:=6
 pos:=by omega
 enc h cs a:=∃c,cs = .bool a.ref::o7 a.name::c∧z7.enc h c a.x
 len:=by rintro h cs a ⟨c,rfl,h2⟩;have:=z7.len h2;simp[this];rfl
 mono:=by rintro h k cs a hk ⟨c,rfl,h2⟩;exact⟨c,rfl,z7.mono hk h2⟩
 one:=by
  rintro h cs a ⟨c,rfl,h2⟩ v hv;simp only[ex3]at hv;rcases hv with rfl|rfl|hv
  ·rfl
  ·rfl
  ·exact z7.one h2 v hv
inductive St where
 | mk (id kind:Int) (labels:List A4) (name proc:A4) (x:Ex) (has:Bool) (args:List Ar) (thn els:List St)
namespace St
def id:St→Int | .mk a _ _ _ _ _ _ _ _ _=>a
def kind:St→Int | .mk _ a _ _ _ _ _ _ _ _=>a
def labels:St→List A4 | .mk _ _ a _ _ _ _ _ _ _=>a
def name:St→A4 | .mk _ _ _ a _ _ _ _ _ _=>a
def proc:St→A4 | .mk _ _ _ _ a _ _ _ _ _=>a
def x:St→Ex | .mk _ _ _ _ _ a _ _ _ _=>a
def has:St→Bool | .mk _ _ _ _ _ _ a _ _ _=>a
def args:St→List Ar | .mk _ _ _ _ _ _ _ a _ _=>a
def thn:St→List St | .mk _ _ _ _ _ _ _ _ a _=>a
def els:St→List St | .mk _ _ _ _ _ _ _ _ _ a=>a
end St
mutual
def aN2(h:Hp):St→List Value→Prop
 | .mk id kind labels name proc x has args thn els,cs=>∃vl cx va vt ve,cs = .int .i64 id :: .int .i64 kind::vl::o7 name::o7 proc::cx++[.bool has,va,vt,ve] ∧
   R h vl labels∧z7.enc h cx x∧R h va args∧bl2 h vt thn.length (ah3 h thn)∧bl2 h ve els.length (ah3 h els)
def ah3(h:Hp):List St→List Value→Prop
 | [],cs=>cs=[]
 | x::xs,cs=>∃c1 c2,cs=c1++c2∧aN2 h x c1∧ah3 h xs c2
end
mutual
theorem bf9{h k:Hp}(hk:B4 h k):∀(x:St) (cs:List Value),aN2 h x cs→aN2 k x cs
 | .mk id kind labels name proc x has args thn els,cs,e=>by
  simp only[aN2]at *;obtain⟨vl,cx,va,vt,ve,e1,e2,e3,e4,e5,e6⟩:=e;exact⟨vl,cx,va,vt,ve,e1,z7.mono hk e2,z7.mono hk e3,z7.mono hk e4,aL4 hk (fun es=>aA9 hk thn es) e5,aL4 hk (fun es=>aA9 hk els es) e6⟩
theorem aA9{h k:Hp}(hk:B4 h k):∀(x:List St) (cs:List Value),ah3 h x cs→ah3 k x cs
 | [],cs,e=>by simpa only[ah3]using e
 | x::xs,cs,e=>by
  simp only[ah3]at *;obtain⟨c1,c2,e1,e2,e3⟩:=e;exact⟨c1,c2,e1,bf9 hk x c1 e2,aA9 hk xs c2 e3⟩
end
theorem W6{α:Type}[z7 α]{h:Hp}{v:Value}{xs:α}(hr:R h v xs):v.oneCell'=true:=z7.one hr v (by simp)
instance:z7 St where
 sz:=13
 pos:=by omega
 enc h cs x:=aN2 h x cs
 len:=by
  rintro h cs ⟨id,kind,labels,name,proc,x,has,args,thn,els⟩ e;simp only[aN2]at e;obtain⟨vl,cx,va,vt,ve,rfl,h2,h3,_⟩:=e;have h4:cx.length=4:=z7.len h3;simp[h4]
 mono hk:=bf9 hk _ _
 one:=by
  rintro h cs ⟨id,kind,labels,name,proc,x,has,args,thn,els⟩ e v hv;simp only[aN2]at e;obtain⟨vl,cx,va,vt,ve,rfl,h2,h3,h4,h5,h6⟩:=e;simp only[eG2,ex3,ew7,eA6,eG5]at hv;rcases hv with rfl|rfl|rfl|rfl|rfl|hv|rfl|rfl|rfl|rfl
  ·rfl
  ·rfl
  ·exact W6 h2
  ·rfl
  ·rfl
  ·exact z7.one h3 v hv
  ·rfl
  ·exact W6 h4
  ·exact aV3 h5
  ·exact aV3 h6
theorem aK3{h:Hp}:∀(xs:List St) (es:List Value),ah3 h xs es↔N0 h es xs
 | [],es=>by simp only[ah3,N0]
 | x::xs,es=>by
  simp only[ah3,N0,aK3 xs];exact eC0
theorem bz3{h:Hp}{cs:List Value}{s:St}:z7.enc h cs s↔∃vl cx va vt ve,cs = .int .i64 s.id :: .int .i64 s.kind::vl::o7 s.name::o7 s.proc::cx++[.bool s.has,va,vt,ve] ∧
   R h vl s.labels∧z7.enc h cx s.x∧R h va s.args∧R h vt s.thn∧R h ve s.els:=by
 obtain⟨id,kind,labels,name,proc,x,has,args,thn,els⟩:=s;show aN2 h _ cs↔_;have h1:ah3 h thn=fun es=>N0 h es thn:=by funext es;exact propext (aK3 thn es)
 have h2:ah3 h els=fun es=>N0 h es els:=by funext es;exact propext (aK3 els es)
 simp only[aN2,bZ1,h1,h2,St.id,St.kind,St.labels,St.name,St.proc,St.x,St.has,St.args,St.thn,St.els]
structure Pr where
 name:A4
 params:List Pa
 vars:List A4
 body:List St
 fin:List A4
instance:z7 Pr where
 sz:=5
 pos:=by omega
 enc h cs p:=∃v1 v2 v3 v4,cs=[o7 p.name,v1,v2,v3,v4]∧R h v1 p.params∧R h v2 p.vars∧R h v3 p.body∧R h v4 p.fin
 len:=by rintro h cs a ⟨v1,v2,v3,v4,rfl,_⟩;rfl
 mono:=by rintro h k cs a hk ⟨v1,v2,v3,v4,rfl,h1,h2,h3,h4⟩;exact⟨v1,v2,v3,v4,rfl,z7.mono hk h1,z7.mono hk h2,z7.mono hk h3,z7.mono hk h4⟩
 one:=by
  rintro h cs a ⟨v1,v2,v3,v4,rfl,h1,h2,h3,h4⟩ v hv;simp only[ex3,eA6,eG5]at hv;rcases hv with rfl|rfl|rfl|rfl|rfl
  ·rfl
  ·exact W6 h1
  ·exact W6 h2
  ·exact W6 h3
  ·exact W6 h4
structure Pg where
 globals:List A4
 procs:List Pr
instance:z7 Pg where
 sz:=2
 pos:=by omega
 enc h cs p:=∃v1 v2,cs=[v1,v2]∧R h v1 p.globals∧R h v2 p.procs
 len:=by rintro h cs a ⟨v1,v2,rfl,_⟩;rfl
 mono:=by rintro h k cs a hk ⟨v1,v2,rfl,h1,h2⟩;exact⟨v1,v2,rfl,z7.mono hk h1,z7.mono hk h2⟩
 one:=by
  rintro h cs a ⟨v1,v2,rfl,h1,h2⟩ v hv;simp only[ex3,eA6,eG5]at hv;rcases hv with rfl|rfl
  ·exact W6 h1
  ·exact W6 h2
structure It where
 s:St
 proc:Int
 up:Int
 next:Int
 loop:Int
instance:z7 It where
 sz:=17
 pos:=by omega
 enc h cs p:=∃c,cs=c++[.int .i64 p.proc,.int .i64 p.up,.int .i64 p.next,.int .i64 p.loop]∧z7.enc h c p.s
 len:=by rintro h cs a ⟨c,rfl,h1⟩;have h4:c.length=13:=z7.len h1;simp[h4]
 mono:=by rintro h k cs a hk ⟨c,rfl,h1⟩;exact⟨c,rfl,z7.mono hk h1⟩
 one:=by
  rintro h cs a ⟨c,rfl,h1⟩ v hv;simp only[ew7,ex3,eA6,eG5]at hv;rcases hv with hv|rfl|rfl|rfl|rfl
  ·exact z7.one h1 v hv
  all_goals rfl
structure Sh where
 p:Pg
 l:List It
 lo:List Int
 hi:List Int
instance:z7 Sh where
 sz:=5
 pos:=by omega
 enc h cs p:=∃c v1 v2 v3,cs=c++[v1,v2,v3]∧z7.enc h c p.p∧R h v1 p.l∧R h v2 p.lo∧R h v3 p.hi
 len:=by rintro h cs a ⟨c,v1,v2,v3,rfl,h1,_⟩;have h4:c.length=2:=z7.len h1;simp[h4]
 mono:=by rintro h k cs a hk ⟨c,v1,v2,v3,rfl,h0,h1,h2,h3⟩;exact⟨c,v1,v2,v3,rfl,z7.mono hk h0,z7.mono hk h1,z7.mono hk h2,z7.mono hk h3⟩
 one:=by
  rintro h cs a ⟨c,v1,v2,v3,rfl,h0,h1,h2,h3⟩ v hv;simp only[ew7,ex3,eA6,eG5]at hv;rcases hv with hv|rfl|rfl|rfl
  ·exact z7.one h0 v hv
  ·exact W6 h1
  ·exact W6 h2
  ·exact W6 h3
def SV{α:Type}[z7 α](h:Hp)(v:Value)(x:α):Prop:=∃cs,v = .agg (List.toArray cs)∧z7.enc h cs x
section
variable {α:Type} [z7 α] {h k:Hp} {v:Value} {x:α} {P:Program} {t T:TypeId} {w:World}
theorem SV.mono(hk:B4 h k):SV h v x→SV k v x:=fun⟨cs,e,h1⟩=>⟨cs,e,z7.mono hk h1⟩
theorem SV.enc:SV h v x→z7.enc h v.cells.toList x:=by
 rintro⟨cs,rfl,h1⟩;simpa[Value.cells]using h1
theorem G1{xs:List α}(hr:R h v xs)(hw:B4 h (d7 w)){k:Nat}(hk:xs[k]?=some x)(ht:B6 P t=true)(hu:(P.underlying t).isSome=true)(hi:(P.info? t).isSome=true)(hs:E3 P t=z7.sz α):
  ∃sv,SV h sv x∧(Instr.loadAt t (.pointer (some (H4 v (k*E3 P t))))).run P w = .ok sv w:=by
 obtain⟨_,es,he,hc⟩:=hr.get hk;refine⟨.agg (List.toArray es),⟨es,rfl,he⟩,?_⟩;rw[hs];exact bi4 (cs:=es) ht hu hi (by rw[hs,z7.len he]) fun j u hj=>F9 hw (hc j u hj)
end
def At{α:Type}[z7 α](h:Hp)(a:Addr)(x:α):Prop:=∃es,z7.enc h es x∧∀j u,es[j]?=some u→I8 h (a.add j)=some u
section
variable {α:Type} [z7 α] {h k:Hp} {v:Value} {x:α} {P:Program} {t T:TypeId} {w:World} {a:Addr}
theorem At.mono(hk:B4 h k):At h a x→At k a x:=fun⟨es,h1,h2⟩=>⟨es,z7.mono hk h1,fun j u hj=>F9 hk (h2 j u hj)⟩
theorem R.at_{xs:List α}(hr:R h v xs){i:Nat}(hi:xs[i]?=some x):At h (H4 v (i*z7.sz α)) x:=(hr.get hi).2
theorem Ptr.at_{p:Ptr α}(hp:R h v p):∃a,v = .pointer (some a)∧At h a p.to:=by
 obtain⟨a,es,e,h1,h2⟩:=hp;simp only[eI2,and_true]at e;exact⟨a,e,es,h1,h2⟩
theorem At.ptr(ha:At h a x):R h (.pointer (some a)) (⟨x⟩:Ptr α):=by
 obtain⟨es,h1,h2⟩:=ha;exact⟨a,es,rfl,h1,h2⟩
theorem At.sv(ha:At h a x)(ht:B6 P t=true)(hu:(P.underlying t).isSome=true)(hi:(P.info? t).isSome=true)(hs:E3 P t=z7.sz α):
  ∃sv,SV h sv x∧∀w,B4 h (d7 w)→(Instr.loadAt t (.pointer (some a))).run P w = .ok sv w:=by
 obtain⟨es,he,hc⟩:=ha;exact⟨.agg (List.toArray es),⟨es,rfl,he⟩,fun w hw=>bi4 (cs:=es) ht hu hi (by rw[hs,z7.len he]) fun j u hj=>F9 hw (hc j u hj)⟩
theorem v8{es:List Value}(hc:∀j u,es[j]?=some u→I8 h (a.add j)=some u){o:Nat}{u:Value}(ho:es[o]?=some u)(ht:B6 P t=false):
  ∀w,B4 h (d7 w)→(Instr.loadAt t (.pointer (some (a.add o)))).run P w = .ok u w:=fun w hw=>Q6 ht (F9 hw (hc o u ho))
theorem bc5{β:Type}[z7 β]{y:β}{es c:List Value}(hc:∀j u,es[j]?=some u→I8 h (a.add j)=some u){o:Nat}(hy:z7.enc h c y)(hp:∀j u,c[j]?=some u→es[o+j]?=some u):At h (a.add o) y:=
 ⟨c,hy,fun j u hj=>by rw[Addr.add_add'];exact hc _ _ (hp j u hj)⟩
theorem E0{es:List Value}(hc:∀j u,es[j]?=some u→I8 h (a.add j)=some u){u:Value}(ho:es[0]?=some u)(ht:B6 P t=false):
  ∀w,B4 h (d7 w)→(Instr.loadAt t (.pointer (some a))).run P w = .ok u w:=fun w hw=>by
 have:=v8 (P:=P) (t:=t) hc ho ht w hw
 rwa [J8]at this
theorem be7{β:Type}[z7 β]{y:β}{es c:List Value}(hc:∀j u,es[j]?=some u→I8 h (a.add j)=some u)(hy:z7.enc h c y)(hp:∀j u,c[j]?=some u→es[0+j]?=some u):At h a y:=by
 have:=bc5 hc hy hp
 rwa [J8]at this
theorem A0{S:World→Prop}{s:Sem Value}{u:Value}{K:Fr→World→Prop}{f:Fr}{d:Option Nat}{w0:World}(hS:S w0)(h:∀w',S w'→s.run P w' = .ok u w'):B8 P S s K f d w=K (A5 f d u) w:=by
 refine propext ⟨?_,fun hk=>⟨u,h,hk⟩⟩;rintro⟨v,hv,hk⟩;have:=(hv w0 hS).symm.trans (h w0 hS);simp only[Result.ok.injEq,and_true]at this;rw[←this];exact hk
theorem At.sv2(ha:At h a x)(ht:B6 P t=true)(hu:(P.underlying t).isSome=true)(hi:(P.info? t).isSome=true)(hs:E3 P t=z7.sz α):
  ∃sv,SV h sv x∧(∀w,B4 h (d7 w)→(Instr.loadAt t (.pointer (some a))).run P w = .ok sv w)∧(∀(S:World→Prop) (w0:World),S w0→(∀w,S w→B4 h (d7 w))→∀K f d w,B8 P S (Instr.loadAt t (.pointer (some a))) K f d w=K (A5 f d sv) w):=by
 obtain⟨sv,h1,h2⟩:=ha.sv (P:=P) (t:=t) ht hu hi hs;exact⟨sv,h1,h2,fun S w0 hS hw K f d w=>A0 hS fun w' hw'=>h2 w' (hw w' hw')⟩
theorem bo2(hv:SV h v x)(hw:B4 h (d7 w)):∃a w',(Instr.box T v).run P w = .ok (.pointer (some a)) w'∧o6 w w'∧At (d7 w') a x:=by
 obtain⟨cs,rfl,he⟩:=hv;have hx:=o6.alloc w (.cells (List.toArray cs) T);refine⟨⟨w.heap.size,0,none⟩,w.alloc (.cells (List.toArray cs) T),rfl,hx,cs,z7.mono (p8 hw (b7 hx)) he,fun j u hj=>?_⟩;rw[←ai8,add_lit,ey7,eG7];simpa using hj
theorem bn3(hv:SV h v x)(hw:B4 h (d7 w)){z:Value}(hz:H6 P T=some z)(hsz:z.cells.size=E3 P T)(hs:E3 P T=z7.sz α):
  ∃a wz w',(Instr.alloc T true (.tuple #[])).run P w = .ok (.pointer (some a)) wz∧(Instr.storeAt T (.pointer (some a)) v).run P wz = .ok () w'∧o6 w w'∧At (d7 w') a x:=by
 obtain⟨cs,rfl,he⟩:=hv;obtain⟨h1,h2⟩:=aT9 (P:=P) (w:=w) (T:=T) hz hsz (cs:=List.toArray cs) (by simpa[hs]using z7.len he) (by simpa using z7.one he);have hx:=o6.alloc w (.cells (List.toArray cs) T);refine⟨_,_,_,h1,h2,hx,cs,z7.mono (p8 hw (b7 hx)) he,fun j u hj=>?_⟩;rw[←ai8,add_lit,ey7,eG7];simpa using hj
end
theorem eF5:type_of% @Classical.byContradiction:=@Classical.byContradiction
theorem eH7:type_of% @List.any_eq_true:=@List.any_eq_true
theorem eF3:type_of% @List.getElem?_replicate:=@List.getElem?_replicate
theorem eD3:type_of% @List.getElem?_set_ne:=@List.getElem?_set_ne
theorem eA8:type_of% @List.mem_iff_getElem:=@List.mem_iff_getElem
theorem eA9:type_of% @Option.getD_some:=@Option.getD_some
theorem ex0:type_of% @congrArg:=@congrArg
abbrev W:=BitVec 64
instance:G7 W:=⟨fun x=>.int .u64 (x.toNat:Nat),fun _=>rfl⟩
section
variable {P:Program} {t:TypeId}
theorem bn2(n:Nat)(h:n<18446744073709551616):IntKind.u64.wrap (n:Int)=(n:Int):=by
 have:IntKind.u64.wrap (n:Int)=IntKind.u64.wrap (n:Int):=rfl;unfold IntKind.wrap;simp[IntKind.bits,IntKind.signed];omega
theorem bA9(x:W):BitVec.ofInt IntKind.u64.bits ((x.toNat:Nat):Int)=x:=by
 show BitVec.ofInt 64 ((x.toNat:Nat):Int)=x;rw[BitVec.ofInt_natCast,BitVec.ofNat_toNat];simp
theorem by3(f:Nat)(hf:f<1000000000000):B7 P .quo t (.int .i64 f) (.int .i64 64)=some (.int .i64 ((f / 64:Nat):Int)):=by
 have h1:(f:Int).tdiv 64=((f / 64:Nat):Int):=by rfl
 simp only[B7,E7,eB2,h1];rw[if_neg (by decide),IntWalk.i64_in _ (by omega)]
theorem cs3(f:Nat):B7 P .rem t (.int .i64 f) (.int .i64 64)=some (.int .i64 ((f % 64:Nat):Int)):=by
 have h1:(f:Int).tmod 64=((f % 64:Nat):Int):=by rfl
 simp only[B7,E7,eB2,h1];rw[if_neg (by decide)]
theorem cs4(x:W)(k:Nat)(hk:k<64):B7 P .shr t (.int .u64 ((x.toNat:Nat):Int)) (.int .i64 k)=some (.int .u64 (((x >>> k).toNat:Nat):Int)):=by
 simp only[B7];rw[if_neg (by omega)];have h1:min ((k:Int).toNat) IntKind.u64.bits=k:=by
  show min ((k:Int).toNat) 64=k;omega
 rw[h1,BitVec.toNat_ushiftRight,Nat.shiftRight_eq_div_pow];have h2:((x.toNat:Nat):Int).fdiv (2 ^ k)=((x.toNat / 2 ^ k:Nat):Int):=by
  rw[Int.fdiv_eq_ediv_of_nonneg _ (by exact Int.le_of_lt (Int.pow_pos (by decide)))];simp
 rw[h2]
theorem cr8(x:W)(k:Nat):B7 P .and t (.int .u64 (((x >>> k).toNat:Nat):Int)) (.int .u64 1)=some (.int .u64 (if x.getLsbD k then 1 else 0)):=by
 have h1:BitVec.ofInt IntKind.u64.bits 1=(1#64:W):=rfl;simp only[B7,E7,eB2,bA9,h1];have h2:((x >>> k) &&& 1#64:W)=if x.getLsbD k then 1#64 else 0#64:=by
  apply BitVec.eq_of_getLsbD_eq;intro i hi;rw[BitVec.getLsbD_and,BitVec.getLsbD_ushiftRight];by_cases h0:i=0
  ·subst h0;cases hx:x.getLsbD k<;>simp[]
  ·have:(1#64:W).getLsbD i=false:=by
    rw[BitVec.getLsbD_one];simp[h0]
   rw[this,Bool.and_false];split
   ·exact this.symm
   ·simp
 show some (Value.int .u64 (IntKind.u64.wrap ((((x >>> k) &&& 1#64:W).toNat:Nat):Int)))=_;rw[h2];cases x.getLsbD k<;>rfl
theorem db0(b:Bool):B7 P .eql t (.int .u64 (if b then 1 else 0)) (.int .u64 0)=some (.bool (!b)):=by
 cases b<;>rfl
theorem db1(b:Bool):B7 P .eql t (.int .u64 (if b then 1 else 0)) (.int .u64 1)=some (.bool b):=by
 cases b<;>rfl
theorem db3(k:Nat)(hk:k<64):B7 P .shl t (.int .u64 1) (.int .i64 k)=some (.int .u64 (((1#64 <<< k:W).toNat:Nat):Int)):=by
 simp only[B7];rw[if_neg (by omega)];have h1:min ((k:Int).toNat) IntKind.u64.bits=k:=by
  show min ((k:Int).toNat) 64=k;omega
 rw[h1];have h2:(1:Int)*2 ^ k=((2 ^ k:Nat):Int):=by simp
 have h3:2 ^ k<18446744073709551616:=by
  have:(2:Nat) ^ k<2 ^ 64:=Nat.pow_lt_pow_right (by decide) hk;simpa using this
 have h5:(1#64 <<< k:W).toNat=2 ^ k:=by
  rw[BitVec.toNat_shiftLeft,Nat.shiftLeft_eq];show(1*2 ^ k) % 2 ^ 64=2 ^ k;rw[Nat.one_mul];exact Nat.mod_eq_of_lt (Nat.pow_lt_pow_right (by decide) hk)
 rw[h2,bn2 _ h3,h5]
theorem cs1(x y:W):B7 P .or t (.int .u64 ((x.toNat:Nat):Int)) (.int .u64 ((y.toNat:Nat):Int))=some (.int .u64 (((x ||| y).toNat:Nat):Int)):=by
 simp only[B7,E7,eB2,bA9];rw[bn2 _ (by exact(x ||| y).isLt)];rfl
theorem br0(x y:W):B7 P .andNot t (.int .u64 ((x.toNat:Nat):Int)) (.int .u64 ((y.toNat:Nat):Int))=some (.int .u64 (((x &&& ~~~y).toNat:Nat):Int)):=by
 simp only[B7,E7,eB2,bA9];rw[bn2 _ (by exact(x &&& ~~~y).isLt)];rfl
theorem db2(x:W):B7 P .neq t (.int .u64 ((x.toNat:Nat):Int)) (.int .u64 0)=some (.bool (x != 0#64)):=by
 simp only[B7,E7,eB2]
 congr 2
 rw[eI0];simp only[bne_iff_ne,ne_eq];constructor
 ·intro h e;subst e;exact h rfl
 ·intro h e;apply h;apply BitVec.eq_of_toNat_eq;simpa using e
end
theorem el0{K:Fr→World→Prop}{f:Fr}{d:Option Nat}{w:World}{v:Value}{D:Prop}:aw3 (some v) K f d w D=K (A5 f d v) w:=propext eC0
def N7(ws:List W)(f:Nat):Bool:=(ws.getD (f / 64) 0#64).getLsbD (f % 64)
def cn0(ws:List W)(f:Nat):List W:=ws.set (f / 64) (ws.getD (f / 64) 0#64 ||| (1#64 <<< (f % 64)))
theorem cv6{ws:List W}{f:Nat}(hf:f / 64<ws.length)(g:Nat):N7 (cn0 ws f) g=(decide (g=f)||N7 ws g):=by
 unfold N7 cn0;by_cases hd:g / 64=f / 64
 ·have h1:(ws.set (f / 64) (ws.getD (f / 64) 0#64 ||| (1#64 <<< (f % 64)))).getD (g / 64) 0#64=ws.getD (f / 64) 0#64 ||| (1#64 <<< (f % 64)):=by
   rw[hd];simp[List.getD,hf]
  rw[h1,BitVec.getLsbD_or,hd];have h2:(1#64 <<< (f % 64):W).getLsbD (g % 64)=decide (g=f):=by
   rw[BitVec.getLsbD_shiftLeft,BitVec.getLsbD_one];rw[eI0];simp;omega
  rw[h2,Bool.or_comm]
 ·have h1:(ws.set (f / 64) (ws.getD (f / 64) 0#64 ||| (1#64 <<< (f % 64)))).getD (g / 64) 0#64=ws.getD (g / 64) 0#64:=by
   simp only[List.getD];rw[eD3 (fun e=>hd e.symm)]
  have h3:g≠f:=fun e=>hd (by rw[e]);rw[h1];simp[h3]
theorem bH4{n f:Nat}:N7 (List.replicate n 0#64) f=false:=by
 unfold N7;have:(List.replicate n (0#64:W)).getD (f / 64) 0#64=0#64:=by
  simp only[List.getD,eF3];split<;>rfl
 rw[this];simp
theorem cB3(ws:List W)(f:Nat):(cn0 ws f).length=ws.length:=by simp[cn0]
def orB(b c:List W):List W:=List.zipWith (· ||| ·) b c
def ad7(b c:List W):Bool:=(List.zipWith (fun x y=>(y &&& ~~~x:W) != 0#64) b c).any id
theorem cu5{α:Type}(g:W→W→α)(d:α)(hd:g 0#64 0#64=d){b c:List W}(hl:b.length=c.length)(i:Nat):(List.zipWith g b c).getD i d=g (b.getD i 0#64) (c.getD i 0#64):=by
 simp only[List.getD,List.getElem?_zipWith];by_cases hi:i<b.length
 ·rw[ev2 hi,ev2 (by omega)];rfl
 ·rw[eC7 (by omega),eC7 (by omega)];simp[hd]
theorem av3{b c:List W}(hl:b.length=c.length)(f:Nat):N7 (orB b c) f=(N7 b f||N7 c f):=by
 unfold N7 orB;rw[cu5 (· ||| ·) 0#64 (by simp) hl,BitVec.getLsbD_or]
theorem bu4{b c:List W}(hl:b.length=c.length):ad7 b c=true↔∃f,N7 c f=true∧N7 b f=false:=by
 unfold ad7;rw[eH7];constructor
 ·rintro⟨x,hx,hx1⟩;simp only[id]at hx1;subst hx1;obtain⟨i,hi,e⟩:=eA8.1 hx;rw[List.getElem_zipWith]at e;simp only[List.length_zipWith]at hi;have hne:(c[i]'(by omega) &&& ~~~b[i]'(by omega):W)≠0#64:=by simpa using e
  have:∃k,k<64∧(c[i]'(by omega) &&& ~~~b[i]'(by omega):W).getLsbD k=true:=by
   refine eF5 fun hno=>hne ?_;apply BitVec.eq_of_getLsbD_eq;intro k hk;have h1:¬(c[i]'(by omega) &&& ~~~b[i]'(by omega):W).getLsbD k=true:=fun h2=>hno ⟨k,hk,h2⟩;simp only[Bool.not_eq_true]at h1;rw[h1];simp
  obtain⟨k,hk,hk2⟩:=this;rw[BitVec.getLsbD_and,BitVec.getLsbD_not]at hk2;have hd1:(i*64+k) / 64=i:=by omega
  have hd2:(i*64+k) % 64=k:=by omega
  simp only[ex5,ez3,Bool.not_eq_true']at hk2;refine⟨i*64+k,?_,?_⟩
  ·unfold N7;rw[hd1,hd2];simp only[List.getD,ev2 (show i<c.length by omega),eA9];exact hk2.1
  ·unfold N7;rw[hd1,hd2];simp only[List.getD,ev2 (show i<b.length by omega),eA9];exact hk2.2.2
 ·rintro⟨f,h1,h2⟩;have hi:f / 64<c.length:=by
   refine eF5 fun hno=>?_;unfold N7 at h1;simp only[List.getD,eC7 (show c.length≤f / 64 by omega),Option.getD_none]at h1;simp at h1
  refine⟨true,?_,rfl⟩;refine eA8.2 ⟨f / 64,by simp;omega,?_⟩;rw[List.getElem_zipWith];simp only[bne_iff_ne,ne_eq];intro e;unfold N7 at h1 h2;simp only[List.getD,ev2 hi,ev2 (show f / 64<b.length by omega),eA9]at h1 h2;have:=ex0 (fun x:W=>x.getLsbD (f % 64)) e;simp only[BitVec.getLsbD_and,BitVec.getLsbD_not,h1,h2]at this;simp at this;omega
theorem bB5{b c:List W}(hl:b.length=c.length):(orB b c).length=b.length:=by simp[orB,hl]
theorem eE6:type_of% @Bool.true_and:=@Bool.true_and
def bE4:Value→Option Bool
 | .bool b=>some b
 | _=>none
theorem eb1{b:Bool}:bE4 (.bool b)=some b:=rfl
theorem eb2:bE4 undef=none:=rfl
theorem db7{ops:Array Oper}{f:Fr}{j:Nat}:aH3 ops f j=match cv4 ops j with|some d=>bE4 (f d)|none=>none:=by
 unfold aH3 cv4;cases(ops[j]?).bind (·.dst)with
 | none=>rfl
 | some d=>
  show(match f d with | .bool b=>some b|_=>none)=bE4 (f d);unfold bE4;cases f d<;>rfl
theorem ep9{P:Program}{ops:Array Oper}{l:List Oper}{K:Fr→World→Prop}{f:Fr}{w:World}{d:Option Nat}{op:Op}{ty:TypeId}{pos:String}{aft:Array Edge}{j:Nat}{b:Bool}:
  Rn P ops (⟨d,op,ty,pos,aft,some (j,b)⟩::l) K f w =
   if aH3 ops f j=some b then B0 P none ⟨d,op,ty,pos,aft,none⟩ (Rn P ops l K) f w else Rn P ops l K (A5 f d undef) w:=propext eC0
theorem dZ3{P:Program}{Q:Exit→Fr→World→Prop}{f:Fr}{w:World}{id:Nat}{ops:Array Oper}:CW P (.region id ops false) Q f w=Rn P ops ops.toList (Q .normal) f w:=propext eC0
theorem dZ9{P:Program}{ops:Array Oper}{K:Fr→World→Prop}{f:Fr}{w:World}:Rn P ops [] K f w=K f w:=propext eC0
theorem ed3{P:Program}{ops:Array Oper}{l:List Oper}{K:Fr→World→Prop}{f:Fr}{w:World}{d:Option Nat}{op:Op}{ty:TypeId}{pos:String}{aft:Array Edge}:
  Rn P ops (⟨d,op,ty,pos,aft,none⟩::l) K f w=B0 P none ⟨d,op,ty,pos,aft,none⟩ (Rn P ops l K) f w:=propext eC0
theorem em0{K:Fr→World→Prop}{f:Fr}{d:Option Nat}{w:World}{v:Value}:ac5 (.ok v w) K f d=K (A5 f d v) w:=propext eC0
theorem em1{K:Fr→World→Prop}{f:Fr}{d:Option Nat}{w:World}{v:Unit}:aU6 (.ok v w) K f d=K (A5 f d undef) w:=propext eC0
theorem aU2(h:Hp){α:Type}[z7 α]:R h (.slice none 0 0) ([]:List α):=⟨none,0,0,rfl,rfl,ew8 _,[],rfl,fun j u hj=>by simp at hj⟩
section
variable {P:Program} {t:TypeId}
theorem bm0(b:Array UInt8):(.string ⟨b⟩:Value)=o7 (ofA b):=by
 simp[o7,ofA]
theorem ea1{a:A4}{b:Array UInt8}:B7 P .eql t (o7 a) (.string ⟨b⟩)=some (.bool (decide (a=ofA b))):=by
 rw[bm0,bZ6]
theorem ea8{a:A4}{b:Array UInt8}:B7 P .neq t (o7 a) (.string ⟨b⟩)=some (.bool (!decide (a=ofA b))):=by
 rw[bm0,cL2]
def chr(s:A4)(i:Nat):Option UInt8:=s.b[i]?
theorem da7(l:List UInt8)(i:Nat):(⟨l.toArray⟩:ByteArray)[i]?=l[i]?:=by
 by_cases h:i<l.length
 ·rw[getElem?_pos (⟨l.toArray⟩:ByteArray) i (by show i<l.toArray.size;simpa using h),ByteArray.getElem_eq_getElem_data];simp[h]
 ·rw[getElem?_neg (⟨l.toArray⟩:ByteArray) i (by show ¬i<l.toArray.size;simpa using h)];simp[h]
theorem cX4{s:A4}{k:IntKind}{i:Nat}{c:UInt8}(h:bC5 P t=true)(ha:C3 P t=none)(hc:chr s i=some c):aK5 P t (o7 s) (.int k (i:Int))=some (.int .u8 (c.toNat:Int)):=by
 have h2:(⟨s.b.toArray⟩:ByteArray)[i]?=some c:=(da7 s.b i).trans hc;simp only[aK5,ha,o7,h,eE6,ex8,h2,eB4,ek0,eB2]
theorem ek1{v:Value}(he:(A6 P t).isSome=true)(hs:isS v=true):T6 P t v=some (.int .i64 (vlen v:Nat)):=by
 simp only[T6,he,hs,eB2]
theorem ea6{a b:Int}:B7 P .lss t (.int .i64 a) (.int .i64 b)=some (.bool (decide (a<b))):=by simp[B7,E7]
theorem ea5{a b:Int}:B7 P .leq t (.int .i64 a) (.int .i64 b)=some (.bool (decide (a≤b))):=by simp[B7,E7]
theorem ea4{a b:Int}:B7 P .gtr t (.int .i64 a) (.int .i64 b)=some (.bool (decide (b<a))):=by simp[B7,E7]
theorem ea3{a b:Int}:B7 P .geq t (.int .i64 a) (.int .i64 b)=some (.bool (decide (b≤a))):=by simp[B7,E7]
theorem ea2{a b:Int}:B7 P .eql t (.int .i64 a) (.int .i64 b)=some (.bool (decide (a=b))):=by simp[B7,E7];rfl
theorem ea9{a b:Int}:B7 P .neq t (.int .i64 a) (.int .i64 b)=some (.bool (!decide (a=b))):=by simp[B7,E7];rfl
theorem ea0{a b:Int}:B7 P .add t (.int .i64 a) (.int .i64 b)=some (.int .i64 (IntKind.i64.wrap (a+b))):=by simp[B7,E7]
theorem eb0{a b:Int}:B7 P .sub t (.int .i64 a) (.int .i64 b)=some (.int .i64 (IntKind.i64.wrap (a-b))):=by simp[B7,E7]
theorem dC5{a b:Int}:B7 P .leq t (.int .u8 a) (.int .u8 b)=some (.bool (decide (a≤b))):=by simp[B7,E7]
theorem dC4{a b:Int}:B7 P .geq t (.int .u8 a) (.int .u8 b)=some (.bool (decide (b≤a))):=by simp[B7,E7]
theorem ep7{b:Bool}:unV .not (.bool b)=some (.bool (!b)):=by simp[unV]
theorem be8{a:Option Addr}{op:BinOp}(ho:op = .eql)(h:H7 P t=2):B7 P op t (.pointer a) (.pointer none)=some (.bool a.isNone):=by
 subst ho;simp[B7,h]
end
theorem eI6:type_of% @Nat.le_of_not_lt:=@Nat.le_of_not_lt
theorem bd2{w:World}{b:Nat}(h:w.heap.size≤b):d7 w b=none:=by
 show w.heap[b]?=none;simp[h]
theorem C9{w:World}{b:Nat}(h:d7 w b=none):w.heap.size≤b:=eI6 fun hlt=>by simp[d7,hlt]at h
theorem V6{v:Value}(h:isS v=true):v.oneCell'=true:=by
 cases v<;>simp[isS]at h;rfl
theorem D8{v:Value}(h:isS v=true):v.cells=#[v]:=by
 cases v<;>simp[isS]at h;rfl
section
variable {P:Program} {h:Hp} {w:World} {t T:TypeId} {v:Value}
theorem E8{gb i:Nat}{cs:Array Value}{u:Value}(hh:w.heap[gb]?=some (.cells cs T (0,0)))(hu:cs[i]?=some u)(ht:B6 P t=false):(Instr.loadAt t (.pointer (some ⟨gb,i,none⟩))).run P w = .ok u w:=
 Q6 ht (by rw[eC4 w gb i cs T (0,0) hh];exact hu)
theorem ah2{gb i:Nat}{cs:Array Value}{x:Value}(hh:w.heap[gb]?=some (.cells cs T (0,0)))(hi:i<cs.size)(hx:x.cells=#[x])(h1:x.oneCell'=true){inf:TypeInfo}(hinf:P.info? t=some inf)(hs:inf.size=1):
  ∃w',(Instr.storeAt t (.pointer (some ⟨gb,i,none⟩)) x).run P w = .ok () w'∧w'.heap[gb]?=some (.cells (cs.setIfInBounds i x) T (0,0))∧o9 (fun b=>b=gb) w w':=by
 have hcell:w.cell? ⟨gb,i,.none⟩=some cs[i]:=by rw[eC4 w gb i cs T (0,0) hh,eE1 hi]
 have hfr:w.frozen? ⟨gb,i,.none⟩=false:=frozen_of_row w gb i cs T hh;exact⟨_,aI5 (P:=P) (t:=t) hinf hs hx h1 hcell hfr,heap_setCell_same w gb i cs T x hh,o9.setCell _ _ _ rfl⟩
theorem ap1{gb:Nat}{cur cs:Array Value}(hh:w.heap[gb]?=some (.cells cur T (0,0))){z:Value}(hz:H6 P T=some z)(hcur:cur.size=E3 P T)(hc:cs.size=E3 P T)(h1:∀u∈cs.toList,u.oneCell'=true):
  ∃w',(Instr.storeAt T (.pointer (some ⟨gb,0,none⟩)) (.agg cs)).run P w = .ok () w'∧w'.heap[gb]?=some (.cells cs T (0,0))∧o9 (fun b=>b=gb) w w':=by
 obtain⟨i,hi,hiz⟩:=t8 hz;have hst:=run_storeCells_from (P:=P) gb T cs.toList 0 cur w hh (by simp[hc,hcur]) h1;simp only[eG6,eG1,Array.toArray_toList]at hst;refine⟨_,?_,setRow_heap w gb cur cs T (0,0) hh,o9.setRow _ _ _ rfl⟩;unfold Instr.storeAt storeVar;simp only[Instr.sureAddr,ex6,ey9,ew9,sizeOf,N2,hi,Value.cells];rw[C7 hi]at hc;simp only[hc,ne_eq,not_true_eq_false,eD2];exact hst
theorem ab6{gb:Nat}{cs:Array Value}(hh:w.heap[gb]?=some (.cells cs T (0,0)))(ht:B6 P T=true)(hu:(P.underlying T).isSome=true)(hi:(P.info? T).isSome=true)(hs:E3 P T=cs.size):
  (Instr.loadAt T (.pointer (some ⟨gb,0,none⟩))).run P w = .ok (.agg cs) w:=by
 have:=bi4 (P:=P) (w:=w) (a:=⟨gb,0,none⟩) (cs:=cs.toList) ht hu hi (by simpa using hs) fun j u hj=>by
  have ha:(⟨gb,0,.none⟩:Addr).add j=⟨gb,j,.none⟩:=by unfold Addr.add;split<;>simp_all
  rw[ha,eC4 w gb j cs T (0,0) hh];simpa using hj
 simpa using this
theorem L6{fn:Func}{R:Value→World→Prop}{f:Fr}{a:Nat}{ty:TypeId}{ad:Addr}(h:fn.results=#[.cell a ty])(hf:f a = .pointer (some ad))(hl:(Instr.loadAt ty (.pointer (some ad))).run P w = .ok v w)(hR:R v w):bx8 P fn R .ret f w:=by
 refine⟨[v],?_,hR⟩;rw[h];refine⟨?_,trivial⟩;show(do loadVar ty (←asAddr (f a)):Sem Value).run P w = .ok v w;rw[hf];exact hl
theorem cv7{h:Hp}{w:World}{N:Nat→Prop}(hw:B4 h (d7 w))(hN:∀b,N b→h b=none):B4 h (B5 w N):=fun b o e=>by
 have hn:¬N b:=fun hb=>by rw[hN b hb]at e;cases e
 rw[D3 hn];exact hw b o e
theorem D2{w w':World}{N:Nat→Prop}(hm:o9 N w w'):B4 (B5 w N) (d7 w'):=K6 (C0 w N) hm fun b hb=>H8 hb
theorem bH5{w w':World}{N:Nat→Prop}(hm:o9 N w w')(hN:∀b,N b→b<w.heap.size):B4 (B5 w N) (B5 w' N):=H1 hm (fun b h=>h) fun b h=>.inl h
section
variable {α:Type} [z7 α] {x:α} {N:Nat→Prop}
theorem dY6(hv:SV h v x)(hw:B4 h (B5 w N))(hN:∀b,N b→b<w.heap.size){z:Value}(hz:H6 P T=some z)(hsz:z.cells.size=E3 P T)(hs:E3 P T=z7.sz α):
  ∃a wz w',(Instr.alloc T true (.tuple #[])).run P w = .ok (.pointer (some a)) wz∧(Instr.storeAt T (.pointer (some a)) v).run P wz = .ok () w'∧o6 w w'∧At (B5 w' N) a x:=by
 obtain⟨cs,rfl,he⟩:=hv;obtain⟨h1,h2⟩:=aT9 (P:=P) (w:=w) (T:=T) hz hsz (cs:=List.toArray cs) (by simpa[hs]using z7.len he) (by simpa using z7.one he);have hx:=o6.alloc w (.cells (List.toArray cs) T);refine⟨_,_,_,h1,h2,hx,cs,z7.mono (p8 hw (bH5 (hx.weaken fun _ _ h=>h.elim) hN)) he,fun j u hj=>?_⟩;have hn:¬N w.heap.size:=fun hb=>by have:=hN _ hb;omega
 have:I8 (d7 (w.alloc (.cells (List.toArray cs) T))) ((⟨w.heap.size,0,none⟩:Addr).add j)=some u:=by
  rw[←ai8,add_lit,ey7,eG7];simpa using hj
 rw[add_lit]at this ⊢;unfold I8 at *;simp only at *;rw[D3 hn];exact this
end
end
section
variable {P:Program}
theorem D1{k:Nat}{args:List Value}{w:World}{K:Fr→World→Prop}{f:Fr}{d:Option Nat}{v:Value}(hb:af6 P k=true)
  (h:Calls P k args.toArray w fun e w'=>∃u,e = .returned u∧(u=v∧w'=w)) (hk:K (A5 f d v) w):ar2 P k args w K f d:=
 y5 hb h fun u w' ⟨hu,hw⟩=>by rw[hu,hw];exact hk
theorem B3{k:Nat}{args:List Value}{w:World}{K:Fr→World→Prop}{f:Fr}{d:Option Nat}{v:Value}(hb:af6 P k=true)
  (h:Calls P k args.toArray w fun e w'=>∃u,e = .returned u∧(u=v∧o6 w w')) (hk:∀w',o6 w w'→K (A5 f d v) w'):ar2 P k args w K f d:=
 y5 hb h fun u w' ⟨hu,hw⟩=>by rw[hu];exact hk w' hw
end
section
variable {P:Program} {t T:TypeId}
theorem bl7(g o:Nat):∀(vs:List Value) (i:Nat) (cur:Array Value) (w:World),w.heap[g]?=some (.cells cur T (0,0))→o+i+vs.length≤cur.size→(∀v∈vs,v.oneCell'=true) →
  ∃w',(storeCells ⟨g,o,none⟩ vs i).run P w = .ok () w'∧w'.heap[g]?=some (.cells (cur.toList.take (o+i)++vs++cur.toList.drop (o+i+vs.length)).toArray T (0,0))∧o9 (fun b=>b=g) w w'
 | [],i,cur,w,hg,hl,_=>by
  refine⟨w,rfl,?_,o9.refl _⟩;simp only[ey6,eB7,Nat.add_zero,eA3,Array.toArray_toList];exact hg
 | v::rest,i,cur,w,hg,hl,h1=>by
  simp only[ex7]at hl;have hi:o+i<cur.size:=by omega
  have hadd:(⟨g,o,none⟩:Addr).add i=⟨g,o+i,none⟩:=add_lit g o i;have hcell:w.cell? ⟨g,o+i,none⟩=some cur[o+i]:=by rw[eC4 w g (o+i) cur T (0,0) hg,eE1 hi]
  have hfro:w.frozen? ⟨g,o+i,none⟩=false:=frozen_of_row w g (o+i) cur T hg;have hst:(store ((⟨g,o,none⟩:Addr).add i) v).run P w = .ok () (w.setCell ⟨g,o+i,none⟩ v):=by
   rw[hadd,run_store P w _ v _ (h1 v (by simp)),hcell];simp[hfro]
  obtain⟨w',h2,h3,h4⟩:=bl7 g o rest (i+1) (cur.setIfInBounds (o+i) v) (w.setCell ⟨g,o+i,none⟩ v) (heap_setCell_same w g (o+i) cur T v hg) (by simp;omega) (fun x hx=>h1 x (by simp[hx]));refine⟨w',?_,?_,(o9.setCell (M:=fun b=>b=g) w ⟨g,o+i,none⟩ v rfl).trans h4⟩
  ·simp only[storeCells,ex6,hst,ew9,h2]
  ·rw[h3]
   congr 3
   have hlen:cur.toList.length=cur.size:=by simp
   simp only[Array.toList_setIfInBounds,ex7];rw[show o+(i+1)=o+i+1 by omega,List.take_set,ew1 (by omega),List.set_append_right (h:=by simp;omega)];have e1:o+i-(cur.toList.take (o+i)).length=0:=by simp;omega
   rw[e1,List.drop_set_of_lt (by omega)];simp[ex9,eE5,Nat.add_comm 1]
theorem bZ7{w:World}{gb o:Nat}{cur:Array Value}{cs:List Value}(hh:w.heap[gb]?=some (.cells cur T (0,0)))(ho:o+cs.length≤cur.size)(h1:∀u∈cs,u.oneCell'=true)(hi:(P.info? t).isSome=true)(hs:E3 P t=cs.length):
  ∃w',(Instr.storeAt t (.pointer (some ⟨gb,o,none⟩)) (.agg (List.toArray cs))).run P w = .ok () w'∧w'.heap[gb]?=some (.cells (cur.toList.take o++cs++cur.toList.drop (o+cs.length)).toArray T (0,0))∧o9 (fun b=>b=gb) w w':=by
 obtain⟨w',h2,h3,h4⟩:=bl7 (P:=P) gb o cs 0 cur w hh (by omega) h1;refine⟨w',?_,h3,h4⟩;obtain⟨i,hi'⟩:=eB0.1 hi;have hsz:i.size=cs.length:=by rw[←hs,C7 hi']
 unfold Instr.storeAt storeVar;simp only[Instr.sureAddr,ex6,ey9,ew9,sizeOf,N2,hi',Value.cells,hsz];simp only[eE7,ne_eq,not_true_eq_false,eD2];exact h2
end
def L8(k:Hp)(a:Addr)(v:Value):Prop:=∃cs,v = .agg (List.toArray cs)∧∀j u,cs[j]?=some u→I8 k (a.add j)=some u
theorem ai5{c d:List Value}(h:(Value.agg (List.toArray c)) = .agg (List.toArray d)):d=c:=by
 simp only[Value.agg.injEq]at h;have:=ex0 Array.toList h;simpa using this.symm
section
variable {α:Type} [z7 α] {h k:Hp} {v:Value} {x:α} {P:Program} {t T:TypeId} {w:World} {a:Addr} {N:Nat→Prop}
theorem L8.mono{k':Hp}(hk:B4 k k'):L8 k a v→L8 k' a v:=fun⟨cs,e,hc⟩=>⟨cs,e,fun j u hj=>F9 hk (hc j u hj)⟩
theorem be6{es c:List Value}(hc:∀j u,es[j]?=some u→I8 k (a.add j)=some u){o:Nat}(hp:∀j u,c[j]?=some u→es[o+j]?=some u):L8 k (a.add o) (.agg (List.toArray c)):=
 ⟨c,rfl,fun j u hj=>by rw[Addr.add_add'];exact hc _ _ (hp j u hj)⟩
theorem ch1{es c:List Value}(hc:∀j u,es[j]?=some u→I8 k (a.add j)=some u)(hp:∀j u,c[j]?=some u→es[0+j]?=some u):L8 k a (.agg (List.toArray c)):=by
 have:=be6 hc hp
 rwa [J8]at this
theorem L8.whole(ha:L8 k a v)(hv:SV h v x)(ht:B6 P t=true)(hu:(P.underlying t).isSome=true)(hi:(P.info? t).isSome=true)(hs:E3 P t=z7.sz α):
  (∀w,B4 k (d7 w)→(Instr.loadAt t (.pointer (some a))).run P w = .ok v w)∧(∀(S:World→Prop) (w0:World),S w0→(∀w,S w→B4 k (d7 w))→∀K f d w,B8 P S (Instr.loadAt t (.pointer (some a))) K f d w=K (A5 f d v) w):=by
 obtain⟨cs,rfl,hc⟩:=ha;obtain⟨cs2,e,he⟩:=hv;obtain rfl:=ai5 e;have h1:∀w,B4 k (d7 w)→(Instr.loadAt t (.pointer (some a))).run P w = .ok (.agg (List.toArray cs2)) w:=fun w hw=>bi4 ht hu hi (by rw[hs,z7.len he]) fun j u hj=>F9 hw (hc j u hj);exact⟨h1,fun S w0 hS hw K f d w=>A0 hS fun w' hw'=>h1 w' (hw w' hw')⟩
theorem bZ4{w:World}{cs:List Value}(hN:∀b,N b→b<w.heap.size):L8 (B5 (w.alloc (.cells (List.toArray cs) T)) N) ⟨w.heap.size,0,none⟩ (.agg (List.toArray cs)):=by
 refine⟨cs,rfl,fun j u hj=>?_⟩;have hn:¬N w.heap.size:=fun hb=>by have:=hN _ hb;omega
 have:I8 (d7 (w.alloc (.cells (List.toArray cs) T))) ((⟨w.heap.size,0,none⟩:Addr).add j)=some u:=by
  rw[←ai8,add_lit,ey7,eG7];simpa using hj
 rw[add_lit]at this ⊢;unfold I8 at *;simp only at *;rw[D3 hn];exact this
theorem ch4(hv:SV h v x)(hN:∀b,N b→b<w.heap.size):∃a w',(Instr.box T v).run P w = .ok (.pointer (some a)) w'∧o6 w w'∧L8 (B5 w' N) a v:=by
 obtain⟨cs,rfl,he⟩:=hv;exact⟨⟨w.heap.size,0,none⟩,w.alloc (.cells (List.toArray cs) T),rfl,o6.alloc w _,bZ4 hN⟩
theorem co3(hv:SV h v x)(hN:∀b,N b→b<w.heap.size){z:Value}(hz:H6 P T=some z)(hsz:z.cells.size=E3 P T)(hs:E3 P T=z7.sz α):
  ∃a wz w',(Instr.alloc T true (.tuple #[])).run P w = .ok (.pointer (some a)) wz∧(Instr.storeAt T (.pointer (some a)) v).run P wz = .ok () w'∧o6 w w'∧L8 (B5 w' N) a v:=by
 obtain⟨cs,rfl,he⟩:=hv;obtain⟨h1,h2⟩:=aT9 (P:=P) (w:=w) (T:=T) hz hsz (cs:=List.toArray cs) (by simpa[hs]using z7.len he) (by simpa using z7.one he);exact⟨_,_,_,h1,h2,o6.alloc w _,bZ4 hN⟩
end
theorem o9.chain{M N:Nat→Prop}{a b c:World}(h:o9 M a b)(k:o9 N b c)(hN:∀i,i<a.heap.size→N i→M i):o9 M a c:=
 ⟨k.os.trans h.os,k.tape.trans h.tape,k.output.trans h.output,ew0 h.size k.size,fun i hi hm=>(k.block i (eC1 hi h.size) fun hn=>hm (hN i hi hn)).trans (h.block i hi hm)⟩
theorem o9.up{M:Nat→Prop}{a b:World}(h:o6 a b):o9 M a b:=h.weaken fun _ _ h=>h.elim
theorem en7:(prog.info? 2).isSome=true:=by kernel_rfl
theorem ep0:E3 prog 2=1:=by kernel_rfl
theorem cG4:B6 prog 2=false:=by kernel_rfl
theorem ep2:(prog.underlying 2).isSome=true:=by kernel_rfl
theorem en1:A6 prog 2=none:=by kernel_rfl
theorem em7:C3 prog 2=none:=by kernel_rfl
theorem eo2:az3 prog 2=some .i64:=by kernel_rfl
theorem eo5:H7 prog 2=0:=by kernel_rfl
theorem en8:(prog.info? 3).isSome=true:=by kernel_rfl
theorem aR4:E3 prog 3=1:=by kernel_rfl
theorem ax7:H6 prog 3=some (.int .i64 0):=by kernel_rfl
theorem G3:B6 prog 3=false:=by kernel_rfl
theorem ep3:(prog.underlying 3).isSome=true:=by kernel_rfl
theorem en2:A6 prog 3=none:=by kernel_rfl
theorem em8:C3 prog 3=none:=by kernel_rfl
theorem eo3:az3 prog 3=some .i64:=by kernel_rfl
theorem eo6:H7 prog 3=0:=by kernel_rfl
theorem en9:(prog.info? 4).isSome=true:=by kernel_rfl
theorem aD5:E3 prog 4=1:=by kernel_rfl
theorem S7:H6 prog 4=some (.bool false):=by kernel_rfl
theorem ao9:B6 prog 4=false:=by kernel_rfl
theorem ep4:(prog.underlying 4).isSome=true:=by kernel_rfl
theorem en3:A6 prog 4=none:=by kernel_rfl
theorem em9:C3 prog 4=none:=by kernel_rfl
theorem eo7:H7 prog 4=1:=by kernel_rfl
theorem eo0:(prog.info? 5).isSome=true:=by kernel_rfl
theorem ep1:E3 prog 5=1:=by kernel_rfl
theorem en6:B6 prog 5=false:=by kernel_rfl
theorem ep5:(prog.underlying 5).isSome=true:=by kernel_rfl
theorem en4:A6 prog 5=none:=by kernel_rfl
theorem en0:C3 prog 5=none:=by kernel_rfl
theorem eo4:az3 prog 5=some .u8:=by kernel_rfl
theorem eo8:H7 prog 5=0:=by kernel_rfl
theorem eo1:(prog.info? 9).isSome=true:=by kernel_rfl
theorem dV7:E3 prog 9=1:=by kernel_rfl
theorem dY3:H6 prog 9=some (.string ⟨#[]⟩):=by kernel_rfl
theorem U4:B6 prog 9=false:=by kernel_rfl
theorem ep6:(prog.underlying 9).isSome=true:=by kernel_rfl
theorem en5:A6 prog 9=none:=by kernel_rfl
theorem dj0:C3 prog 9=none:=by kernel_rfl
theorem dw7:bC5 prog 9=true:=by kernel_rfl
theorem eo9:H7 prog 9=0:=by kernel_rfl
theorem dP9:(prog.info? 22).isSome=true:=by kernel_rfl
theorem cI0:E3 prog 22=1:=by kernel_rfl
theorem bO3:H6 prog 22=some (.slice none 0 0):=by kernel_rfl
theorem M4:B6 prog 22=false:=by kernel_rfl
theorem dW1:(prog.underlying 22).isSome=true:=by kernel_rfl
theorem dM5:A6 prog 22=some 9:=by kernel_rfl
theorem dJ8:C3 prog 22=none:=by kernel_rfl
theorem cZ6:H7 prog 22=3:=by kernel_rfl
theorem dQ0:(prog.info? 23).isSome=true:=by kernel_rfl
theorem dU6:E3 prog 23=1:=by kernel_rfl
theorem bw0:B6 prog 23=false:=by kernel_rfl
theorem dW2:(prog.underlying 23).isSome=true:=by kernel_rfl
theorem dM6:A6 prog 23=some 53:=by kernel_rfl
theorem dJ9:C3 prog 23=none:=by kernel_rfl
theorem dS0:H7 prog 23=3:=by kernel_rfl
theorem ce5:(prog.info? 25).isSome=true:=by kernel_rfl
theorem bw3:E3 prog 25=2:=by kernel_rfl
theorem da1:H6 prog 25=some (.agg #[.slice none 0 0,.slice none 0 0]):=by kernel_rfl
theorem ce3:B6 prog 25=true:=by kernel_rfl
theorem ce8:(prog.underlying 25).isSome=true:=by kernel_rfl
theorem dM7:A6 prog 25=none:=by kernel_rfl
theorem dK0:C3 prog 25=none:=by kernel_rfl
theorem dS1:H7 prog 25=0:=by kernel_rfl
theorem cQ6:y0 prog 25 0=some (0,22):=by kernel_rfl
theorem cQ7:y0 prog 25 1=some (1,23):=by kernel_rfl
theorem cZ2:E5 prog 25=some (#[.slice none 0 0,.slice none 0 0],[(0,1),(1,1)]):=by kernel_rfl
theorem dQ1:(prog.info? 30).isSome=true:=by kernel_rfl
theorem cZ7:E3 prog 30=1:=by kernel_rfl
theorem dY0:H6 prog 30=some (.slice none 0 0):=by kernel_rfl
theorem bw1:B6 prog 30=false:=by kernel_rfl
theorem dW3:(prog.underlying 30).isSome=true:=by kernel_rfl
theorem dM8:A6 prog 30=some 36:=by kernel_rfl
theorem dK1:C3 prog 30=none:=by kernel_rfl
theorem dS2:H7 prog 30=3:=by kernel_rfl
theorem dQ2:(prog.info? 32).isSome=true:=by kernel_rfl
theorem cZ8:E3 prog 32=1:=by kernel_rfl
theorem dY1:H6 prog 32=some (.slice none 0 0):=by kernel_rfl
theorem cG5:B6 prog 32=false:=by kernel_rfl
theorem dW4:(prog.underlying 32).isSome=true:=by kernel_rfl
theorem dM9:A6 prog 32=some 38:=by kernel_rfl
theorem dK2:C3 prog 32=none:=by kernel_rfl
theorem dS3:H7 prog 32=3:=by kernel_rfl
theorem aI9:(prog.info? 36).isSome=true:=by kernel_rfl
theorem ad2:E3 prog 36=4:=by kernel_rfl
theorem bw4:H6 prog 36=some (.agg #[.string ⟨#[]⟩,.int .i64 0,.int .i64 0,.string ⟨#[]⟩]):=by kernel_rfl
theorem aI8:B6 prog 36=true:=by kernel_rfl
theorem aJ0:(prog.underlying 36).isSome=true:=by kernel_rfl
theorem dN0:A6 prog 36=none:=by kernel_rfl
theorem dK3:C3 prog 36=none:=by kernel_rfl
theorem dS4:H7 prog 36=0:=by kernel_rfl
theorem cQ8:y0 prog 36 0=some (0,9):=by kernel_rfl
theorem cQ9:y0 prog 36 1=some (1,3):=by kernel_rfl
theorem cR0:y0 prog 36 2=some (2,3):=by kernel_rfl
theorem cR1:y0 prog 36 3=some (3,9):=by kernel_rfl
theorem bO0:E5 prog 36=some (#[.string ⟨#[]⟩,.int .i64 0,.int .i64 0,.string ⟨#[]⟩],[(0,1),(1,1),(2,1),(3,1)]):=by kernel_rfl
theorem bw2:(prog.info? 38).isSome=true:=by kernel_rfl
theorem aR5:E3 prog 38=9:=by kernel_rfl
theorem da2:H6 prog 38=some (.agg #[.string ⟨#[]⟩,.int .i64 0,.int .i64 0,.string ⟨#[]⟩,.string ⟨#[]⟩,.int .i64 0,.int .i64 0,.string ⟨#[]⟩,.int .i64 0]):=by kernel_rfl
theorem bN6:B6 prog 38=true:=by kernel_rfl
theorem bO2:(prog.underlying 38).isSome=true:=by kernel_rfl
theorem dN1:A6 prog 38=none:=by kernel_rfl
theorem dK4:C3 prog 38=none:=by kernel_rfl
theorem dS5:H7 prog 38=0:=by kernel_rfl
theorem cR2:y0 prog 38 0=some (0,36):=by kernel_rfl
theorem cR3:y0 prog 38 1=some (4,36):=by kernel_rfl
theorem cR4:y0 prog 38 2=some (8,3):=by kernel_rfl
theorem cZ3:E5 prog 38=some (#[.string ⟨#[]⟩,.int .i64 0,.int .i64 0,.string ⟨#[]⟩,.string ⟨#[]⟩,.int .i64 0,.int .i64 0,.string ⟨#[]⟩,.int .i64 0],[(0,4),(4,4),(8,1)]):=by kernel_rfl
theorem dQ3:(prog.info? 41).isSome=true:=by kernel_rfl
theorem dU7:E3 prog 41=1:=by kernel_rfl
theorem bN7:B6 prog 41=false:=by kernel_rfl
theorem dW5:(prog.underlying 41).isSome=true:=by kernel_rfl
theorem dN2:A6 prog 41=some 43:=by kernel_rfl
theorem dK5:C3 prog 41=none:=by kernel_rfl
theorem dS6:H7 prog 41=3:=by kernel_rfl
theorem bm6:(prog.info? 43).isSome=true:=by kernel_rfl
theorem ao2:E3 prog 43=4:=by kernel_rfl
theorem cI6:H6 prog 43=some (.agg #[.int .i64 0,.int .i64 0,.string ⟨#[]⟩,.slice none 0 0]):=by kernel_rfl
theorem bm3:B6 prog 43=true:=by kernel_rfl
theorem bn0:(prog.underlying 43).isSome=true:=by kernel_rfl
theorem dN3:A6 prog 43=none:=by kernel_rfl
theorem dK6:C3 prog 43=none:=by kernel_rfl
theorem dS7:H7 prog 43=0:=by kernel_rfl
theorem cR5:y0 prog 43 0=some (0,3):=by kernel_rfl
theorem cR6:y0 prog 43 1=some (1,2):=by kernel_rfl
theorem cR7:y0 prog 43 2=some (2,9):=by kernel_rfl
theorem cR8:y0 prog 43 3=some (3,41):=by kernel_rfl
theorem ce6:E5 prog 43=some (#[.int .i64 0,.int .i64 0,.string ⟨#[]⟩,.slice none 0 0],[(0,1),(1,1),(2,1),(3,1)]):=by kernel_rfl
theorem dQ4:(prog.info? 44).isSome=true:=by kernel_rfl
theorem dU8:E3 prog 44=1:=by kernel_rfl
theorem bN8:B6 prog 44=false:=by kernel_rfl
theorem dW6:(prog.underlying 44).isSome=true:=by kernel_rfl
theorem dN4:A6 prog 44=some 107:=by kernel_rfl
theorem dK7:C3 prog 44=none:=by kernel_rfl
theorem dS8:H7 prog 44=3:=by kernel_rfl
theorem dQ5:(prog.info? 45).isSome=true:=by kernel_rfl
theorem dU9:E3 prog 45=1:=by kernel_rfl
theorem au1:B6 prog 45=false:=by kernel_rfl
theorem dW7:(prog.underlying 45).isSome=true:=by kernel_rfl
theorem dN5:A6 prog 45=some 47:=by kernel_rfl
theorem dK8:C3 prog 45=none:=by kernel_rfl
theorem dS9:H7 prog 45=3:=by kernel_rfl
theorem aR3:(prog.info? 47).isSome=true:=by kernel_rfl
theorem ah0:E3 prog 47=13:=by kernel_rfl
theorem cI7:H6 prog 47=some (.agg #[.int .i64 0,.int .i64 0,.slice none 0 0,.string ⟨#[]⟩,.string ⟨#[]⟩,.int .i64 0,.int .i64 0,.string ⟨#[]⟩,.slice none 0 0,.bool false,.slice none 0 0,.slice none 0 0,.slice none 0 0]):=by kernel_rfl
theorem bb0:B6 prog 47=true:=by kernel_rfl
theorem bb5:(prog.underlying 47).isSome=true:=by kernel_rfl
theorem dN6:A6 prog 47=none:=by kernel_rfl
theorem dK9:C3 prog 47=none:=by kernel_rfl
theorem dT0:H7 prog 47=0:=by kernel_rfl
theorem cR9:y0 prog 47 0=some (0,3):=by kernel_rfl
theorem cS0:y0 prog 47 1=some (1,3):=by kernel_rfl
theorem cS1:y0 prog 47 2=some (2,22):=by kernel_rfl
theorem cS2:y0 prog 47 3=some (3,9):=by kernel_rfl
theorem cS3:y0 prog 47 4=some (4,9):=by kernel_rfl
theorem cS4:y0 prog 47 5=some (5,43):=by kernel_rfl
theorem cS5:y0 prog 47 6=some (9,4):=by kernel_rfl
theorem cS6:y0 prog 47 7=some (10,44):=by kernel_rfl
theorem cS7:y0 prog 47 8=some (11,45):=by kernel_rfl
theorem cS8:y0 prog 47 9=some (12,45):=by kernel_rfl
theorem bm7:E5 prog 47=some (#[.int .i64 0,.int .i64 0,.slice none 0 0,.string ⟨#[]⟩,.string ⟨#[]⟩,.int .i64 0,.int .i64 0,.string ⟨#[]⟩,.slice none 0 0,.bool false,.slice none 0 0,.slice none 0 0,.slice none 0 0],[(0,1),(1,1),(2,1),(3,1),(4,1),(5,4),(9,1),(10,1),(11,1),(12,1)]):=by kernel_rfl
theorem dQ6:(prog.info? 51).isSome=true:=by kernel_rfl
theorem dV0:E3 prog 51=1:=by kernel_rfl
theorem bN9:B6 prog 51=false:=by kernel_rfl
theorem dW8:(prog.underlying 51).isSome=true:=by kernel_rfl
theorem dN7:A6 prog 51=some 69:=by kernel_rfl
theorem dL0:C3 prog 51=none:=by kernel_rfl
theorem dT1:H7 prog 51=3:=by kernel_rfl
theorem ao1:(prog.info? 53).isSome=true:=by kernel_rfl
theorem O1:E3 prog 53=5:=by kernel_rfl
theorem cI8:H6 prog 53=some (.agg #[.string ⟨#[]⟩,.slice none 0 0,.slice none 0 0,.slice none 0 0,.slice none 0 0]):=by kernel_rfl
theorem ao0:B6 prog 53=true:=by kernel_rfl
theorem ao4:(prog.underlying 53).isSome=true:=by kernel_rfl
theorem dN8:A6 prog 53=none:=by kernel_rfl
theorem dL1:C3 prog 53=none:=by kernel_rfl
theorem dT2:H7 prog 53=0:=by kernel_rfl
theorem cS9:y0 prog 53 0=some (0,9):=by kernel_rfl
theorem cT0:y0 prog 53 1=some (1,51):=by kernel_rfl
theorem cT1:y0 prog 53 2=some (2,22):=by kernel_rfl
theorem cT2:y0 prog 53 3=some (3,45):=by kernel_rfl
theorem cT3:y0 prog 53 4=some (4,22):=by kernel_rfl
theorem cH6:E5 prog 53=some (#[.string ⟨#[]⟩,.slice none 0 0,.slice none 0 0,.slice none 0 0,.slice none 0 0],[(0,1),(1,1),(2,1),(3,1),(4,1)]):=by kernel_rfl
theorem dQ7:(prog.info? 56).isSome=true:=by kernel_rfl
theorem dV1:E3 prog 56=1:=by kernel_rfl
theorem dP2:B6 prog 56=false:=by kernel_rfl
theorem dW9:(prog.underlying 56).isSome=true:=by kernel_rfl
theorem dN9:A6 prog 56=some 59:=by kernel_rfl
theorem dL2:C3 prog 56=none:=by kernel_rfl
theorem dT3:H7 prog 56=3:=by kernel_rfl
theorem dQ8:(prog.info? 59).isSome=true:=by kernel_rfl
theorem dV2:E3 prog 59=16:=by kernel_rfl
theorem dP3:B6 prog 59=true:=by kernel_rfl
theorem dX0:(prog.underlying 59).isSome=true:=by kernel_rfl
theorem dO0:A6 prog 59=none:=by kernel_rfl
theorem dL3:C3 prog 59=none:=by kernel_rfl
theorem dT4:H7 prog 59=0:=by kernel_rfl
theorem cT4:y0 prog 59 0=some (0,47):=by kernel_rfl
theorem cT5:y0 prog 59 1=some (13,3):=by kernel_rfl
theorem cT6:y0 prog 59 2=some (14,3):=by kernel_rfl
theorem cT7:y0 prog 59 3=some (15,4):=by kernel_rfl
theorem dR8:E5 prog 59=some (#[.int .i64 0,.int .i64 0,.slice none 0 0,.string ⟨#[]⟩,.string ⟨#[]⟩,.int .i64 0,.int .i64 0,.string ⟨#[]⟩,.slice none 0 0,.bool false,.slice none 0 0,.slice none 0 0,.slice none 0 0,.int .i64 0,.int .i64 0,.bool false],[(0,13),(13,1),(14,1),(15,1)]):=by kernel_rfl
theorem dQ9:(prog.info? 62).isSome=true:=by kernel_rfl
theorem dV3:E3 prog 62=1:=by kernel_rfl
theorem dP4:B6 prog 62=false:=by kernel_rfl
theorem dX1:(prog.underlying 62).isSome=true:=by kernel_rfl
theorem dO1:A6 prog 62=some 65:=by kernel_rfl
theorem dL4:C3 prog 62=none:=by kernel_rfl
theorem dT5:H7 prog 62=3:=by kernel_rfl
theorem dR0:(prog.info? 65).isSome=true:=by kernel_rfl
theorem dV4:E3 prog 65=3:=by kernel_rfl
theorem dP5:B6 prog 65=true:=by kernel_rfl
theorem dX2:(prog.underlying 65).isSome=true:=by kernel_rfl
theorem dO2:A6 prog 65=none:=by kernel_rfl
theorem dL5:C3 prog 65=none:=by kernel_rfl
theorem dT6:H7 prog 65=0:=by kernel_rfl
theorem cT8:y0 prog 65 0=some (0,3):=by kernel_rfl
theorem cT9:y0 prog 65 1=some (1,3):=by kernel_rfl
theorem cU0:y0 prog 65 2=some (2,9):=by kernel_rfl
theorem dR9:E5 prog 65=some (#[.int .i64 0,.int .i64 0,.string ⟨#[]⟩],[(0,1),(1,1),(2,1)]):=by kernel_rfl
theorem bb4:(prog.info? 69).isSome=true:=by kernel_rfl
theorem ao3:E3 prog 69=2:=by kernel_rfl
theorem dY2:H6 prog 69=some (.agg #[.string ⟨#[]⟩,.bool false]):=by kernel_rfl
theorem bb1:B6 prog 69=true:=by kernel_rfl
theorem bb6:(prog.underlying 69).isSome=true:=by kernel_rfl
theorem dO3:A6 prog 69=none:=by kernel_rfl
theorem dL6:C3 prog 69=none:=by kernel_rfl
theorem dT7:H7 prog 69=0:=by kernel_rfl
theorem cU1:y0 prog 69 0=some (0,9):=by kernel_rfl
theorem cU2:y0 prog 69 1=some (1,4):=by kernel_rfl
theorem ce7:E5 prog 69=some (#[.string ⟨#[]⟩,.bool false],[(0,1),(1,1)]):=by kernel_rfl
theorem dR1:(prog.info? 72).isSome=true:=by kernel_rfl
theorem dV5:E3 prog 72=1:=by kernel_rfl
theorem dP6:B6 prog 72=false:=by kernel_rfl
theorem dX3:(prog.underlying 72).isSome=true:=by kernel_rfl
theorem dO4:A6 prog 72=some 74:=by kernel_rfl
theorem dL7:C3 prog 72=none:=by kernel_rfl
theorem dT8:H7 prog 72=3:=by kernel_rfl
theorem cG7:(prog.info? 74).isSome=true:=by kernel_rfl
theorem bO1:E3 prog 74=2:=by kernel_rfl
theorem da3:H6 prog 74=some (.agg #[.int .i64 0,.int .i64 0]):=by kernel_rfl
theorem cG6:B6 prog 74=true:=by kernel_rfl
theorem cI1:(prog.underlying 74).isSome=true:=by kernel_rfl
theorem dO5:A6 prog 74=none:=by kernel_rfl
theorem dL8:C3 prog 74=some (2,3):=by kernel_rfl
theorem dT9:H7 prog 74=0:=by kernel_rfl
theorem cZ4:E5 prog 74=some (#[.int .i64 0,.int .i64 0],[(0,1),(1,1)]):=by kernel_rfl
theorem dR2:(prog.info? 82).isSome=true:=by kernel_rfl
theorem dV6:E3 prog 82=1:=by kernel_rfl
theorem bb2:B6 prog 82=false:=by kernel_rfl
theorem dX4:(prog.underlying 82).isSome=true:=by kernel_rfl
theorem dO6:A6 prog 82=none:=by kernel_rfl
theorem dL9:C3 prog 82=none:=by kernel_rfl
theorem dU0:H7 prog 82=2:=by kernel_rfl
theorem dR3:(prog.info? 93).isSome=true:=by kernel_rfl
theorem dV8:E3 prog 93=1:=by kernel_rfl
theorem bb3:B6 prog 93=false:=by kernel_rfl
theorem dX5:(prog.underlying 93).isSome=true:=by kernel_rfl
theorem dO7:A6 prog 93=none:=by kernel_rfl
theorem dM0:C3 prog 93=none:=by kernel_rfl
theorem dU1:H7 prog 93=2:=by kernel_rfl
theorem dR4:(prog.info? 94).isSome=true:=by kernel_rfl
theorem cZ9:E3 prog 94=1:=by kernel_rfl
theorem dY4:H6 prog 94=some (.slice none 0 0):=by kernel_rfl
theorem ce4:B6 prog 94=false:=by kernel_rfl
theorem dX6:(prog.underlying 94).isSome=true:=by kernel_rfl
theorem dO8:A6 prog 94=some 102:=by kernel_rfl
theorem dM1:C3 prog 94=none:=by kernel_rfl
theorem dU2:H7 prog 94=3:=by kernel_rfl
theorem dR5:(prog.info? 95).isSome=true:=by kernel_rfl
theorem da0:E3 prog 95=1:=by kernel_rfl
theorem dY5:H6 prog 95=some (.slice none 0 0):=by kernel_rfl
theorem ag9:B6 prog 95=false:=by kernel_rfl
theorem dX7:(prog.underlying 95).isSome=true:=by kernel_rfl
theorem dO9:A6 prog 95=some 22:=by kernel_rfl
theorem dM2:C3 prog 95=none:=by kernel_rfl
theorem dU3:H7 prog 95=3:=by kernel_rfl
theorem dR6:(prog.info? 97).isSome=true:=by kernel_rfl
theorem dV9:E3 prog 97=6:=by kernel_rfl
theorem dP7:B6 prog 97=true:=by kernel_rfl
theorem dX8:(prog.underlying 97).isSome=true:=by kernel_rfl
theorem dP0:A6 prog 97=none:=by kernel_rfl
theorem dM3:C3 prog 97=none:=by kernel_rfl
theorem dU4:H7 prog 97=0:=by kernel_rfl
theorem cU3:y0 prog 97 0=some (0,93):=by kernel_rfl
theorem cU4:y0 prog 97 1=some (1,94):=by kernel_rfl
theorem cU5:y0 prog 97 2=some (2,95):=by kernel_rfl
theorem cU6:y0 prog 97 3=some (3,95):=by kernel_rfl
theorem cU7:y0 prog 97 4=some (4,95):=by kernel_rfl
theorem cU8:y0 prog 97 5=some (5,95):=by kernel_rfl
theorem cZ5:E5 prog 97=some (#[.pointer none,.slice none 0 0,.slice none 0 0,.slice none 0 0,.slice none 0 0,.slice none 0 0],[(0,1),(1,1),(2,1),(3,1),(4,1),(5,1)]):=by kernel_rfl
theorem dR7:(prog.info? 99).isSome=true:=by kernel_rfl
theorem dW0:E3 prog 99=1:=by kernel_rfl
theorem dP8:B6 prog 99=false:=by kernel_rfl
theorem dX9:(prog.underlying 99).isSome=true:=by kernel_rfl
theorem dP1:A6 prog 99=some 101:=by kernel_rfl
theorem dM4:C3 prog 99=none:=by kernel_rfl
theorem dU5:H7 prog 99=3:=by kernel_rfl
theorem bX2:(prog.info? 101).isSome=true:=by kernel_rfl
theorem bm8:E3 prog 101=3:=by kernel_rfl
theorem dz5:H6 prog 101=some (.agg #[.int .i64 0,.int .i64 0,.string ⟨#[]⟩]):=by kernel_rfl
theorem bX0:B6 prog 101=true:=by kernel_rfl
theorem bX8:(prog.underlying 101).isSome=true:=by kernel_rfl
theorem dj1:A6 prog 101=none:=by kernel_rfl
theorem df7:C3 prog 101=none:=by kernel_rfl
theorem dr2:H7 prog 101=0:=by kernel_rfl
theorem cC8:y0 prog 101 0=some (0,3):=by kernel_rfl
theorem cC9:y0 prog 101 1=some (1,3):=by kernel_rfl
theorem cD0:y0 prog 101 2=some (2,9):=by kernel_rfl
theorem cG8:E5 prog 101=some (#[.int .i64 0,.int .i64 0,.string ⟨#[]⟩],[(0,1),(1,1),(2,1)]):=by kernel_rfl
theorem do1:(prog.info? 102).isSome=true:=by kernel_rfl
theorem du6:E3 prog 102=1:=by kernel_rfl
theorem aq9:B6 prog 102=false:=by kernel_rfl
theorem dw8:(prog.underlying 102).isSome=true:=by kernel_rfl
theorem dj2:A6 prog 102=none:=by kernel_rfl
theorem df8:C3 prog 102=none:=by kernel_rfl
theorem dr3:H7 prog 102=2:=by kernel_rfl
theorem ax4:(prog.info? 107).isSome=true:=by kernel_rfl
theorem T7:E3 prog 107=6:=by kernel_rfl
theorem cI2:H6 prog 107=some (.agg #[.bool false,.string ⟨#[]⟩,.int .i64 0,.int .i64 0,.string ⟨#[]⟩,.slice none 0 0]):=by kernel_rfl
theorem ax3:B6 prog 107=true:=by kernel_rfl
theorem ax5:(prog.underlying 107).isSome=true:=by kernel_rfl
theorem dj3:A6 prog 107=none:=by kernel_rfl
theorem df9:C3 prog 107=none:=by kernel_rfl
theorem dr4:H7 prog 107=0:=by kernel_rfl
theorem cD1:y0 prog 107 0=some (0,4):=by kernel_rfl
theorem cD2:y0 prog 107 1=some (1,9):=by kernel_rfl
theorem cD3:y0 prog 107 2=some (2,43):=by kernel_rfl
theorem bX4:E5 prog 107=some (#[.bool false,.string ⟨#[]⟩,.int .i64 0,.int .i64 0,.string ⟨#[]⟩,.slice none 0 0],[(0,1),(1,1),(2,4)]):=by kernel_rfl
theorem do2:(prog.info? 111).isSome=true:=by kernel_rfl
theorem du7:E3 prog 111=1:=by kernel_rfl
theorem cG3:B6 prog 111=false:=by kernel_rfl
theorem dw9:(prog.underlying 111).isSome=true:=by kernel_rfl
theorem dj4:A6 prog 111=none:=by kernel_rfl
theorem dg0:C3 prog 111=none:=by kernel_rfl
theorem dq8:az3 prog 111=some .i64:=by kernel_rfl
theorem dr5:H7 prog 111=0:=by kernel_rfl
theorem bX3:(prog.info? 113).isSome=true:=by kernel_rfl
theorem bX6:E3 prog 113=2:=by kernel_rfl
theorem bY0:H6 prog 113=some (.agg #[.int .i64 0,.int .i64 0]):=by kernel_rfl
theorem bX1:B6 prog 113=true:=by kernel_rfl
theorem bX9:(prog.underlying 113).isSome=true:=by kernel_rfl
theorem dj5:A6 prog 113=none:=by kernel_rfl
theorem dg1:C3 prog 113=none:=by kernel_rfl
theorem dr6:H7 prog 113=0:=by kernel_rfl
theorem cD4:y0 prog 113 0=some (0,111):=by kernel_rfl
theorem cD5:y0 prog 113 1=some (1,3):=by kernel_rfl
theorem bC9:E5 prog 113=some (#[.int .i64 0,.int .i64 0],[(0,1),(1,1)]):=by kernel_rfl
theorem do3:(prog.info? 116).isSome=true:=by kernel_rfl
theorem du8:E3 prog 116=1:=by kernel_rfl
theorem dm3:B6 prog 116=false:=by kernel_rfl
theorem dx0:(prog.underlying 116).isSome=true:=by kernel_rfl
theorem dj6:A6 prog 116=none:=by kernel_rfl
theorem dg2:C3 prog 116=none:=by kernel_rfl
theorem dr7:H7 prog 116=2:=by kernel_rfl
theorem do4:(prog.info? 117).isSome=true:=by kernel_rfl
theorem cH8:E3 prog 117=1:=by kernel_rfl
theorem cI3:H6 prog 117=some (.slice none 0 0):=by kernel_rfl
theorem aL9:B6 prog 117=false:=by kernel_rfl
theorem dx1:(prog.underlying 117).isSome=true:=by kernel_rfl
theorem dj7:A6 prog 117=some 127:=by kernel_rfl
theorem dg3:C3 prog 117=none:=by kernel_rfl
theorem dr8:H7 prog 117=3:=by kernel_rfl
theorem do5:(prog.info? 118).isSome=true:=by kernel_rfl
theorem aD4:E3 prog 118=1:=by kernel_rfl
theorem S3:H6 prog 118=some (.slice none 0 0):=by kernel_rfl
theorem O6:B6 prog 118=false:=by kernel_rfl
theorem dx2:(prog.underlying 118).isSome=true:=by kernel_rfl
theorem bW9:A6 prog 118=some 3:=by kernel_rfl
theorem dg4:C3 prog 118=none:=by kernel_rfl
theorem cH7:H7 prog 118=3:=by kernel_rfl
theorem do6:(prog.info? 120).isSome=true:=by kernel_rfl
theorem du9:E3 prog 120=5:=by kernel_rfl
theorem dm4:B6 prog 120=true:=by kernel_rfl
theorem dx3:(prog.underlying 120).isSome=true:=by kernel_rfl
theorem dj8:A6 prog 120=none:=by kernel_rfl
theorem dg5:C3 prog 120=none:=by kernel_rfl
theorem dr9:H7 prog 120=0:=by kernel_rfl
theorem cD6:y0 prog 120 0=some (0,25):=by kernel_rfl
theorem cD7:y0 prog 120 1=some (2,117):=by kernel_rfl
theorem cD8:y0 prog 120 2=some (3,118):=by kernel_rfl
theorem cD9:y0 prog 120 3=some (4,118):=by kernel_rfl
theorem cG9:E5 prog 120=some (#[.slice none 0 0,.slice none 0 0,.slice none 0 0,.slice none 0 0,.slice none 0 0],[(0,2),(2,1),(3,1),(4,1)]):=by kernel_rfl
theorem do7:(prog.info? 122).isSome=true:=by kernel_rfl
theorem dv0:E3 prog 122=9:=by kernel_rfl
theorem dm5:B6 prog 122=true:=by kernel_rfl
theorem dx4:(prog.underlying 122).isSome=true:=by kernel_rfl
theorem dj9:A6 prog 122=none:=by kernel_rfl
theorem dg6:C3 prog 122=none:=by kernel_rfl
theorem ds2:H7 prog 122=0:=by kernel_rfl
theorem cE0:y0 prog 122 0=some (0,82):=by kernel_rfl
theorem cE1:y0 prog 122 1=some (1,3):=by kernel_rfl
theorem cE2:y0 prog 122 2=some (2,53):=by kernel_rfl
theorem cE3:y0 prog 122 3=some (7,30):=by kernel_rfl
theorem cE4:y0 prog 122 4=some (8,32):=by kernel_rfl
theorem cH0:E5 prog 122=some (#[.pointer none,.int .i64 0,.string ⟨#[]⟩,.slice none 0 0,.slice none 0 0,.slice none 0 0,.slice none 0 0,.slice none 0 0,.slice none 0 0],[(0,1),(1,1),(2,5),(7,1),(8,1)]):=by kernel_rfl
theorem Y0:(prog.info? 127).isSome=true:=by kernel_rfl
theorem I9:E3 prog 127=17:=by kernel_rfl
theorem bY1:H6 prog 127=some (.agg #[.int .i64 0,.int .i64 0,.slice none 0 0,.string ⟨#[]⟩,.string ⟨#[]⟩,.int .i64 0,.int .i64 0,.string ⟨#[]⟩,.slice none 0 0,.bool false,.slice none 0 0,.slice none 0 0,.slice none 0 0,.int .i64 0,.int .i64 0,.int .i64 0,.int .i64 0]):=by kernel_rfl
theorem X9:B6 prog 127=true:=by kernel_rfl
theorem Y1:(prog.underlying 127).isSome=true:=by kernel_rfl
theorem dk0:A6 prog 127=none:=by kernel_rfl
theorem dg7:C3 prog 127=none:=by kernel_rfl
theorem ds3:H7 prog 127=0:=by kernel_rfl
theorem cE5:y0 prog 127 0=some (0,47):=by kernel_rfl
theorem cE6:y0 prog 127 1=some (13,3):=by kernel_rfl
theorem cE7:y0 prog 127 2=some (14,3):=by kernel_rfl
theorem cE8:y0 prog 127 3=some (15,3):=by kernel_rfl
theorem cE9:y0 prog 127 4=some (16,3):=by kernel_rfl
theorem bX5:E5 prog 127=some (#[.int .i64 0,.int .i64 0,.slice none 0 0,.string ⟨#[]⟩,.string ⟨#[]⟩,.int .i64 0,.int .i64 0,.string ⟨#[]⟩,.slice none 0 0,.bool false,.slice none 0 0,.slice none 0 0,.slice none 0 0,.int .i64 0,.int .i64 0,.int .i64 0,.int .i64 0],[(0,13),(13,1),(14,1),(15,1),(16,1)]):=by kernel_rfl
theorem do8:(prog.info? 146).isSome=true:=by kernel_rfl
theorem dv1:E3 prog 146=1:=by kernel_rfl
theorem bC7:B6 prog 146=false:=by kernel_rfl
theorem dx5:(prog.underlying 146).isSome=true:=by kernel_rfl
theorem dk1:A6 prog 146=some 187:=by kernel_rfl
theorem dg8:C3 prog 146=none:=by kernel_rfl
theorem ds4:H7 prog 146=3:=by kernel_rfl
theorem do9:(prog.info? 148).isSome=true:=by kernel_rfl
theorem dv2:E3 prog 148=1:=by kernel_rfl
theorem dm6:B6 prog 148=false:=by kernel_rfl
theorem dx6:(prog.underlying 148).isSome=true:=by kernel_rfl
theorem dk2:A6 prog 148=none:=by kernel_rfl
theorem dg9:C3 prog 148=none:=by kernel_rfl
theorem ds5:H7 prog 148=4:=by kernel_rfl
theorem dp0:(prog.info? 151).isSome=true:=by kernel_rfl
theorem bD0:E3 prog 151=1:=by kernel_rfl
theorem aW0:H6 prog 151=some (.slice none 0 0):=by kernel_rfl
theorem af0:B6 prog 151=false:=by kernel_rfl
theorem dx7:(prog.underlying 151).isSome=true:=by kernel_rfl
theorem dk3:A6 prog 151=some 4:=by kernel_rfl
theorem dh0:C3 prog 151=none:=by kernel_rfl
theorem ds6:H7 prog 151=3:=by kernel_rfl
theorem dp1:(prog.info? 153).isSome=true:=by kernel_rfl
theorem dv3:E3 prog 153=5:=by kernel_rfl
theorem dm7:B6 prog 153=true:=by kernel_rfl
theorem dx8:(prog.underlying 153).isSome=true:=by kernel_rfl
theorem dk4:A6 prog 153=none:=by kernel_rfl
theorem dh1:C3 prog 153=none:=by kernel_rfl
theorem ds7:H7 prog 153=0:=by kernel_rfl
theorem cF0:y0 prog 153 0=some (0,93):=by kernel_rfl
theorem cF1:y0 prog 153 1=some (1,3):=by kernel_rfl
theorem cF2:y0 prog 153 2=some (2,3):=by kernel_rfl
theorem cF3:y0 prog 153 3=some (3,146):=by kernel_rfl
theorem cF4:y0 prog 153 4=some (4,151):=by kernel_rfl
theorem cH1:E5 prog 153=some (#[.pointer none,.int .i64 0,.int .i64 0,.slice none 0 0,.slice none 0 0],[(0,1),(1,1),(2,1),(3,1),(4,1)]):=by kernel_rfl
theorem dp2:(prog.info? 155).isSome=true:=by kernel_rfl
theorem cH9:E3 prog 155=1:=by kernel_rfl
theorem cI4:H6 prog 155=some (.slice none 0 0):=by kernel_rfl
theorem R1:B6 prog 155=false:=by kernel_rfl
theorem dx9:(prog.underlying 155).isSome=true:=by kernel_rfl
theorem dk5:A6 prog 155=some 118:=by kernel_rfl
theorem dh2:C3 prog 155=none:=by kernel_rfl
theorem ds8:H7 prog 155=3:=by kernel_rfl
theorem dp3:(prog.info? 162).isSome=true:=by kernel_rfl
theorem dv4:E3 prog 162=1:=by kernel_rfl
theorem dm8:B6 prog 162=false:=by kernel_rfl
theorem dy0:(prog.underlying 162).isSome=true:=by kernel_rfl
theorem dk6:A6 prog 162=some 151:=by kernel_rfl
theorem dh3:C3 prog 162=none:=by kernel_rfl
theorem ds9:H7 prog 162=3:=by kernel_rfl
theorem dp4:(prog.info? 178).isSome=true:=by kernel_rfl
theorem dv5:E3 prog 178=1:=by kernel_rfl
theorem dm9:B6 prog 178=false:=by kernel_rfl
theorem dy1:(prog.underlying 178).isSome=true:=by kernel_rfl
theorem dk7:A6 prog 178=none:=by kernel_rfl
theorem dh4:C3 prog 178=none:=by kernel_rfl
theorem dt0:H7 prog 178=2:=by kernel_rfl
theorem bm4:(prog.info? 187).isSome=true:=by kernel_rfl
theorem aM1:E3 prog 187=3:=by kernel_rfl
theorem cI5:H6 prog 187=some (.agg #[.int .i64 0,.int .i64 0,.int .i64 0]):=by kernel_rfl
theorem bC8:B6 prog 187=true:=by kernel_rfl
theorem bD2:(prog.underlying 187).isSome=true:=by kernel_rfl
theorem dk8:A6 prog 187=none:=by kernel_rfl
theorem dh5:C3 prog 187=none:=by kernel_rfl
theorem dt1:H7 prog 187=0:=by kernel_rfl
theorem cF5:y0 prog 187 0=some (0,3):=by kernel_rfl
theorem cF6:y0 prog 187 1=some (1,3):=by kernel_rfl
theorem cF7:y0 prog 187 2=some (2,3):=by kernel_rfl
theorem cH2:E5 prog 187=some (#[.int .i64 0,.int .i64 0,.int .i64 0],[(0,1),(1,1),(2,1)]):=by kernel_rfl
theorem bm5:(prog.info? 190).isSome=true:=by kernel_rfl
theorem aa2:E3 prog 190=2:=by kernel_rfl
theorem bn1:H6 prog 190=some (.agg #[.slice none 0 0,.int .i64 0]):=by kernel_rfl
theorem bm2:B6 prog 190=true:=by kernel_rfl
theorem bm9:(prog.underlying 190).isSome=true:=by kernel_rfl
theorem dk9:A6 prog 190=none:=by kernel_rfl
theorem dh6:C3 prog 190=none:=by kernel_rfl
theorem dt2:H7 prog 190=0:=by kernel_rfl
theorem cF8:y0 prog 190 0=some (0,155):=by kernel_rfl
theorem cF9:y0 prog 190 1=some (1,3):=by kernel_rfl
theorem cH3:E5 prog 190=some (#[.slice none 0 0,.int .i64 0],[(0,1),(1,1)]):=by kernel_rfl
theorem dp5:(prog.info? 198).isSome=true:=by kernel_rfl
theorem dv6:E3 prog 198=1:=by kernel_rfl
theorem dn0:B6 prog 198=false:=by kernel_rfl
theorem dy2:(prog.underlying 198).isSome=true:=by kernel_rfl
theorem dl0:A6 prog 198=none:=by kernel_rfl
theorem dh7:C3 prog 198=none:=by kernel_rfl
theorem dt3:H7 prog 198=2:=by kernel_rfl
theorem dp6:(prog.info? 200).isSome=true:=by kernel_rfl
theorem dv7:E3 prog 200=1:=by kernel_rfl
theorem dn1:B6 prog 200=true:=by kernel_rfl
theorem dy3:(prog.underlying 200).isSome=true:=by kernel_rfl
theorem dl1:A6 prog 200=none:=by kernel_rfl
theorem dh8:C3 prog 200=none:=by kernel_rfl
theorem dt4:H7 prog 200=0:=by kernel_rfl
theorem cG0:y0 prog 200 0=some (0,3):=by kernel_rfl
theorem cH4:E5 prog 200=some (#[.int .i64 0],[(0,1)]):=by kernel_rfl
theorem dp7:(prog.info? 210).isSome=true:=by kernel_rfl
theorem dv8:E3 prog 210=1:=by kernel_rfl
theorem dn2:B6 prog 210=false:=by kernel_rfl
theorem dy4:(prog.underlying 210).isSome=true:=by kernel_rfl
theorem dl2:A6 prog 210=none:=by kernel_rfl
theorem dh9:C3 prog 210=none:=by kernel_rfl
theorem dt5:H7 prog 210=4:=by kernel_rfl
theorem dp8:(prog.info? 214).isSome=true:=by kernel_rfl
theorem dv9:E3 prog 214=1:=by kernel_rfl
theorem dn3:B6 prog 214=false:=by kernel_rfl
theorem dy5:(prog.underlying 214).isSome=true:=by kernel_rfl
theorem dl3:A6 prog 214=none:=by kernel_rfl
theorem di0:C3 prog 214=none:=by kernel_rfl
theorem dq9:az3 prog 214=some .i64:=by kernel_rfl
theorem dt6:H7 prog 214=0:=by kernel_rfl
theorem dp9:(prog.info? 223).isSome=true:=by kernel_rfl
theorem bD1:E3 prog 223=1:=by kernel_rfl
theorem ax6:H6 prog 223=some (.int .u64 0):=by kernel_rfl
theorem af1:B6 prog 223=false:=by kernel_rfl
theorem dy6:(prog.underlying 223).isSome=true:=by kernel_rfl
theorem dl4:A6 prog 223=none:=by kernel_rfl
theorem di1:C3 prog 223=none:=by kernel_rfl
theorem dr0:az3 prog 223=some .u64:=by kernel_rfl
theorem dt7:H7 prog 223=0:=by kernel_rfl
theorem dq0:(prog.info? 235).isSome=true:=by kernel_rfl
theorem dw0:E3 prog 235=2:=by kernel_rfl
theorem dn4:B6 prog 235=true:=by kernel_rfl
theorem dy7:(prog.underlying 235).isSome=true:=by kernel_rfl
theorem dl5:A6 prog 235=none:=by kernel_rfl
theorem di2:C3 prog 235=none:=by kernel_rfl
theorem dt8:H7 prog 235=0:=by kernel_rfl
theorem cG1:y0 prog 235 0=some (0,155):=by kernel_rfl
theorem cG2:y0 prog 235 1=some (1,155):=by kernel_rfl
theorem cH5:E5 prog 235=some (#[.slice none 0 0,.slice none 0 0],[(0,1),(1,1)]):=by kernel_rfl
theorem dq1:(prog.info? 244).isSome=true:=by kernel_rfl
theorem dw1:E3 prog 244=1:=by kernel_rfl
theorem dn5:B6 prog 244=false:=by kernel_rfl
theorem dy8:(prog.underlying 244).isSome=true:=by kernel_rfl
theorem dl6:A6 prog 244=some 276:=by kernel_rfl
theorem di3:C3 prog 244=none:=by kernel_rfl
theorem dt9:H7 prog 244=3:=by kernel_rfl
theorem dq2:(prog.info? 258).isSome=true:=by kernel_rfl
theorem dw2:E3 prog 258=1:=by kernel_rfl
theorem dn6:B6 prog 258=false:=by kernel_rfl
theorem dy9:(prog.underlying 258).isSome=true:=by kernel_rfl
theorem dl7:A6 prog 258=none:=by kernel_rfl
theorem di4:C3 prog 258=none:=by kernel_rfl
theorem dr1:az3 prog 258=some .u64:=by kernel_rfl
theorem du0:H7 prog 258=0:=by kernel_rfl
theorem dq3:(prog.info? 262).isSome=true:=by kernel_rfl
theorem dw3:E3 prog 262=1:=by kernel_rfl
theorem dn7:B6 prog 262=false:=by kernel_rfl
theorem dz0:(prog.underlying 262).isSome=true:=by kernel_rfl
theorem dl8:A6 prog 262=none:=by kernel_rfl
theorem di5:C3 prog 262=none:=by kernel_rfl
theorem du1:H7 prog 262=2:=by kernel_rfl
theorem dq4:(prog.info? 275).isSome=true:=by kernel_rfl
theorem dw4:E3 prog 275=1:=by kernel_rfl
theorem dn8:B6 prog 275=false:=by kernel_rfl
theorem dz1:(prog.underlying 275).isSome=true:=by kernel_rfl
theorem dl9:A6 prog 275=some 223:=by kernel_rfl
theorem di6:C3 prog 275=none:=by kernel_rfl
theorem du2:H7 prog 275=3:=by kernel_rfl
theorem dq5:(prog.info? 276).isSome=true:=by kernel_rfl
theorem bX7:E3 prog 276=1:=by kernel_rfl
theorem aW1:H6 prog 276=some (.slice none 0 0):=by kernel_rfl
theorem aM0:B6 prog 276=false:=by kernel_rfl
theorem dz2:(prog.underlying 276).isSome=true:=by kernel_rfl
theorem dm0:A6 prog 276=some 223:=by kernel_rfl
theorem di7:C3 prog 276=none:=by kernel_rfl
theorem du3:H7 prog 276=3:=by kernel_rfl
theorem dq6:(prog.info? 286).isSome=true:=by kernel_rfl
theorem dw5:E3 prog 286=1:=by kernel_rfl
theorem dn9:B6 prog 286=false:=by kernel_rfl
theorem dz3:(prog.underlying 286).isSome=true:=by kernel_rfl
theorem dm1:A6 prog 286=none:=by kernel_rfl
theorem di8:C3 prog 286=none:=by kernel_rfl
theorem du4:H7 prog 286=2:=by kernel_rfl
theorem dq7:(prog.info? 318).isSome=true:=by kernel_rfl
theorem dw6:E3 prog 318=1:=by kernel_rfl
theorem do0:B6 prog 318=false:=by kernel_rfl
theorem dz4:(prog.underlying 318).isSome=true:=by kernel_rfl
theorem dm2:A6 prog 318=none:=by kernel_rfl
theorem di9:C3 prog 318=none:=by kernel_rfl
theorem du5:H7 prog 318=2:=by kernel_rfl
theorem hm:prog.follows .mixedOrders=true:=by kernel_rfl
theorem TY:((prog.info? 2).isSome=true) ∧
 (E3 prog 2=1) ∧
 (B6 prog 2=false) ∧
 ((prog.underlying 2).isSome=true) ∧
 (A6 prog 2=none) ∧
 (C3 prog 2=none) ∧
 (az3 prog 2=some .i64) ∧
 (H7 prog 2=0) ∧
 ((prog.info? 3).isSome=true) ∧
 (E3 prog 3=1) ∧
 (B6 prog 3=false) ∧
 ((prog.underlying 3).isSome=true) ∧
 (A6 prog 3=none) ∧
 (C3 prog 3=none) ∧
 (az3 prog 3=some .i64) ∧
 (H7 prog 3=0) ∧
 ((prog.info? 4).isSome=true) ∧
 (E3 prog 4=1) ∧
 (B6 prog 4=false) ∧
 ((prog.underlying 4).isSome=true) ∧
 (A6 prog 4=none) ∧
 (C3 prog 4=none) ∧
 (H7 prog 4=1) ∧
 ((prog.info? 5).isSome=true) ∧
 (E3 prog 5=1) ∧
 (B6 prog 5=false) ∧
 ((prog.underlying 5).isSome=true) ∧
 (A6 prog 5=none) ∧
 (C3 prog 5=none) ∧
 (az3 prog 5=some .u8) ∧
 (H7 prog 5=0) ∧
 ((prog.info? 9).isSome=true) ∧
 (E3 prog 9=1) ∧
 (B6 prog 9=false) ∧
 ((prog.underlying 9).isSome=true) ∧
 (A6 prog 9=none) ∧
 (C3 prog 9=none) ∧
 (bC5 prog 9=true) ∧
 (H7 prog 9=0) ∧
 ((prog.info? 22).isSome=true) ∧
 (E3 prog 22=1) ∧
 (B6 prog 22=false) ∧
 ((prog.underlying 22).isSome=true) ∧
 (A6 prog 22=some 9) ∧
 (C3 prog 22=none) ∧
 (H7 prog 22=3) ∧
 ((prog.info? 23).isSome=true) ∧
 (E3 prog 23=1) ∧
 (B6 prog 23=false) ∧
 ((prog.underlying 23).isSome=true) ∧
 (A6 prog 23=some 53) ∧
 (C3 prog 23=none) ∧
 (H7 prog 23=3) ∧
 ((prog.info? 25).isSome=true) ∧
 (E3 prog 25=2) ∧
 (B6 prog 25=true) ∧
 ((prog.underlying 25).isSome=true) ∧
 (A6 prog 25=none) ∧
 (C3 prog 25=none) ∧
 (H7 prog 25=0) ∧
 (y0 prog 25 0=some (0,22)) ∧
 (y0 prog 25 1=some (1,23)) ∧
 (E5 prog 25=some (#[.slice none 0 0,.slice none 0 0],[(0,1),(1,1)])) ∧
 ((prog.info? 30).isSome=true) ∧
 (E3 prog 30=1) ∧
 (B6 prog 30=false) ∧
 ((prog.underlying 30).isSome=true) ∧
 (A6 prog 30=some 36) ∧
 (C3 prog 30=none) ∧
 (H7 prog 30=3) ∧
 ((prog.info? 32).isSome=true) ∧
 (E3 prog 32=1) ∧
 (B6 prog 32=false) ∧
 ((prog.underlying 32).isSome=true) ∧
 (A6 prog 32=some 38) ∧
 (C3 prog 32=none) ∧
 (H7 prog 32=3) ∧
 ((prog.info? 36).isSome=true) ∧
 (E3 prog 36=4) ∧
 (B6 prog 36=true) ∧
 ((prog.underlying 36).isSome=true) ∧
 (A6 prog 36=none) ∧
 (C3 prog 36=none) ∧
 (H7 prog 36=0) ∧
 (y0 prog 36 0=some (0,9)) ∧
 (y0 prog 36 1=some (1,3)) ∧
 (y0 prog 36 2=some (2,3)) ∧
 (y0 prog 36 3=some (3,9)) ∧
 (E5 prog 36=some (#[.string ⟨#[]⟩,.int .i64 0,.int .i64 0,.string ⟨#[]⟩],[(0,1),(1,1),(2,1),(3,1)])) ∧
 ((prog.info? 38).isSome=true) ∧
 (E3 prog 38=9) ∧
 (B6 prog 38=true) ∧
 ((prog.underlying 38).isSome=true) ∧
 (A6 prog 38=none) ∧
 (C3 prog 38=none) ∧
 (H7 prog 38=0) ∧
 (y0 prog 38 0=some (0,36)) ∧
 (y0 prog 38 1=some (4,36)) ∧
 (y0 prog 38 2=some (8,3)) ∧
 (E5 prog 38=some (#[.string ⟨#[]⟩,.int .i64 0,.int .i64 0,.string ⟨#[]⟩,.string ⟨#[]⟩,.int .i64 0,.int .i64 0,.string ⟨#[]⟩,.int .i64 0],[(0,4),(4,4),(8,1)])) ∧
 ((prog.info? 41).isSome=true) ∧
 (E3 prog 41=1) ∧
 (B6 prog 41=false) ∧
 ((prog.underlying 41).isSome=true) ∧
 (A6 prog 41=some 43) ∧
 (C3 prog 41=none) ∧
 (H7 prog 41=3) ∧
 ((prog.info? 43).isSome=true) ∧
 (E3 prog 43=4) ∧
 (B6 prog 43=true) ∧
 ((prog.underlying 43).isSome=true) ∧
 (A6 prog 43=none) ∧
 (C3 prog 43=none) ∧
 (H7 prog 43=0) ∧
 (y0 prog 43 0=some (0,3)) ∧
 (y0 prog 43 1=some (1,2)) ∧
 (y0 prog 43 2=some (2,9)) ∧
 (y0 prog 43 3=some (3,41)) ∧
 (E5 prog 43=some (#[.int .i64 0,.int .i64 0,.string ⟨#[]⟩,.slice none 0 0],[(0,1),(1,1),(2,1),(3,1)])) ∧
 ((prog.info? 44).isSome=true) ∧
 (E3 prog 44=1) ∧
 (B6 prog 44=false) ∧
 ((prog.underlying 44).isSome=true) ∧
 (A6 prog 44=some 107) ∧
 (C3 prog 44=none) ∧
 (H7 prog 44=3) ∧
 ((prog.info? 45).isSome=true) ∧
 (E3 prog 45=1) ∧
 (B6 prog 45=false) ∧
 ((prog.underlying 45).isSome=true) ∧
 (A6 prog 45=some 47) ∧
 (C3 prog 45=none) ∧
 (H7 prog 45=3) ∧
 ((prog.info? 47).isSome=true) ∧
 (E3 prog 47=13) ∧
 (B6 prog 47=true) ∧
 ((prog.underlying 47).isSome=true) ∧
 (A6 prog 47=none) ∧
 (C3 prog 47=none) ∧
 (H7 prog 47=0) ∧
 (y0 prog 47 0=some (0,3)) ∧
 (y0 prog 47 1=some (1,3)) ∧
 (y0 prog 47 2=some (2,22)) ∧
 (y0 prog 47 3=some (3,9)) ∧
 (y0 prog 47 4=some (4,9)) ∧
 (y0 prog 47 5=some (5,43)) ∧
 (y0 prog 47 6=some (9,4)) ∧
 (y0 prog 47 7=some (10,44)) ∧
 (y0 prog 47 8=some (11,45)) ∧
 (y0 prog 47 9=some (12,45)) ∧
 (E5 prog 47=some (#[.int .i64 0,.int .i64 0,.slice none 0 0,.string ⟨#[]⟩,.string ⟨#[]⟩,.int .i64 0,.int .i64 0,.string ⟨#[]⟩,.slice none 0 0,.bool false,.slice none 0 0,.slice none 0 0,.slice none 0 0],[(0,1),(1,1),(2,1),(3,1),(4,1),(5,4),(9,1),(10,1),(11,1),(12,1)])) ∧
 ((prog.info? 51).isSome=true) ∧
 (E3 prog 51=1) ∧
 (B6 prog 51=false) ∧
 ((prog.underlying 51).isSome=true) ∧
 (A6 prog 51=some 69) ∧
 (C3 prog 51=none) ∧
 (H7 prog 51=3) ∧
 ((prog.info? 53).isSome=true) ∧
 (E3 prog 53=5) ∧
 (B6 prog 53=true) ∧
 ((prog.underlying 53).isSome=true) ∧
 (A6 prog 53=none) ∧
 (C3 prog 53=none) ∧
 (H7 prog 53=0) ∧
 (y0 prog 53 0=some (0,9)) ∧
 (y0 prog 53 1=some (1,51)) ∧
 (y0 prog 53 2=some (2,22)) ∧
 (y0 prog 53 3=some (3,45)) ∧
 (y0 prog 53 4=some (4,22)) ∧
 (E5 prog 53=some (#[.string ⟨#[]⟩,.slice none 0 0,.slice none 0 0,.slice none 0 0,.slice none 0 0],[(0,1),(1,1),(2,1),(3,1),(4,1)])) ∧
 ((prog.info? 56).isSome=true) ∧
 (E3 prog 56=1) ∧
 (B6 prog 56=false) ∧
 ((prog.underlying 56).isSome=true) ∧
 (A6 prog 56=some 59) ∧
 (C3 prog 56=none) ∧
 (H7 prog 56=3) ∧
 ((prog.info? 59).isSome=true) ∧
 (E3 prog 59=16) ∧
 (B6 prog 59=true) ∧
 ((prog.underlying 59).isSome=true) ∧
 (A6 prog 59=none) ∧
 (C3 prog 59=none) ∧
 (H7 prog 59=0) ∧
 (y0 prog 59 0=some (0,47)) ∧
 (y0 prog 59 1=some (13,3)) ∧
 (y0 prog 59 2=some (14,3)) ∧
 (y0 prog 59 3=some (15,4)) ∧
 (E5 prog 59=some (#[.int .i64 0,.int .i64 0,.slice none 0 0,.string ⟨#[]⟩,.string ⟨#[]⟩,.int .i64 0,.int .i64 0,.string ⟨#[]⟩,.slice none 0 0,.bool false,.slice none 0 0,.slice none 0 0,.slice none 0 0,.int .i64 0,.int .i64 0,.bool false],[(0,13),(13,1),(14,1),(15,1)])) ∧
 ((prog.info? 62).isSome=true) ∧
 (E3 prog 62=1) ∧
 (B6 prog 62=false) ∧
 ((prog.underlying 62).isSome=true) ∧
 (A6 prog 62=some 65) ∧
 (C3 prog 62=none) ∧
 (H7 prog 62=3) ∧
 ((prog.info? 65).isSome=true) ∧
 (E3 prog 65=3) ∧
 (B6 prog 65=true) ∧
 ((prog.underlying 65).isSome=true) ∧
 (A6 prog 65=none) ∧
 (C3 prog 65=none) ∧
 (H7 prog 65=0) ∧
 (y0 prog 65 0=some (0,3)) ∧
 (y0 prog 65 1=some (1,3)) ∧
 (y0 prog 65 2=some (2,9)) ∧
 (E5 prog 65=some (#[.int .i64 0,.int .i64 0,.string ⟨#[]⟩],[(0,1),(1,1),(2,1)])) ∧
 ((prog.info? 69).isSome=true) ∧
 (E3 prog 69=2) ∧
 (B6 prog 69=true) ∧
 ((prog.underlying 69).isSome=true) ∧
 (A6 prog 69=none) ∧
 (C3 prog 69=none) ∧
 (H7 prog 69=0) ∧
 (y0 prog 69 0=some (0,9)) ∧
 (y0 prog 69 1=some (1,4)) ∧
 (E5 prog 69=some (#[.string ⟨#[]⟩,.bool false],[(0,1),(1,1)])) ∧
 ((prog.info? 72).isSome=true) ∧
 (E3 prog 72=1) ∧
 (B6 prog 72=false) ∧
 ((prog.underlying 72).isSome=true) ∧
 (A6 prog 72=some 74) ∧
 (C3 prog 72=none) ∧
 (H7 prog 72=3) ∧
 ((prog.info? 74).isSome=true) ∧
 (E3 prog 74=2) ∧
 (B6 prog 74=true) ∧
 ((prog.underlying 74).isSome=true) ∧
 (A6 prog 74=none) ∧
 (C3 prog 74=some (2,3)) ∧
 (H7 prog 74=0) ∧
 (E5 prog 74=some (#[.int .i64 0,.int .i64 0],[(0,1),(1,1)])) ∧
 ((prog.info? 82).isSome=true) ∧
 (E3 prog 82=1) ∧
 (B6 prog 82=false) ∧
 ((prog.underlying 82).isSome=true) ∧
 (A6 prog 82=none) ∧
 (C3 prog 82=none) ∧
 (H7 prog 82=2) ∧
 ((prog.info? 93).isSome=true) ∧
 (E3 prog 93=1) ∧
 (B6 prog 93=false) ∧
 ((prog.underlying 93).isSome=true) ∧
 (A6 prog 93=none) ∧
 (C3 prog 93=none) ∧
 (H7 prog 93=2) ∧
 ((prog.info? 94).isSome=true) ∧
 (E3 prog 94=1) ∧
 (B6 prog 94=false) ∧
 ((prog.underlying 94).isSome=true) ∧
 (A6 prog 94=some 102) ∧
 (C3 prog 94=none) ∧
 (H7 prog 94=3) ∧
 ((prog.info? 95).isSome=true) ∧
 (E3 prog 95=1) ∧
 (B6 prog 95=false) ∧
 ((prog.underlying 95).isSome=true) ∧
 (A6 prog 95=some 22) ∧
 (C3 prog 95=none) ∧
 (H7 prog 95=3) ∧
 ((prog.info? 97).isSome=true) ∧
 (E3 prog 97=6) ∧
 (B6 prog 97=true) ∧
 ((prog.underlying 97).isSome=true) ∧
 (A6 prog 97=none) ∧
 (C3 prog 97=none) ∧
 (H7 prog 97=0) ∧
 (y0 prog 97 0=some (0,93)) ∧
 (y0 prog 97 1=some (1,94)) ∧
 (y0 prog 97 2=some (2,95)) ∧
 (y0 prog 97 3=some (3,95)) ∧
 (y0 prog 97 4=some (4,95)) ∧
 (y0 prog 97 5=some (5,95)) ∧
 (E5 prog 97=some (#[.pointer none,.slice none 0 0,.slice none 0 0,.slice none 0 0,.slice none 0 0,.slice none 0 0],[(0,1),(1,1),(2,1),(3,1),(4,1),(5,1)])) ∧
 ((prog.info? 99).isSome=true) ∧
 (E3 prog 99=1) ∧
 (B6 prog 99=false) ∧
 ((prog.underlying 99).isSome=true) ∧
 (A6 prog 99=some 101) ∧
 (C3 prog 99=none) ∧
 (H7 prog 99=3) ∧
 ((prog.info? 101).isSome=true) ∧
 (E3 prog 101=3) ∧
 (B6 prog 101=true) ∧
 ((prog.underlying 101).isSome=true) ∧
 (A6 prog 101=none) ∧
 (C3 prog 101=none) ∧
 (H7 prog 101=0) ∧
 (y0 prog 101 0=some (0,3)) ∧
 (y0 prog 101 1=some (1,3)) ∧
 (y0 prog 101 2=some (2,9)) ∧
 (E5 prog 101=some (#[.int .i64 0,.int .i64 0,.string ⟨#[]⟩],[(0,1),(1,1),(2,1)])) ∧
 ((prog.info? 102).isSome=true) ∧
 (E3 prog 102=1) ∧
 (B6 prog 102=false) ∧
 ((prog.underlying 102).isSome=true) ∧
 (A6 prog 102=none) ∧
 (C3 prog 102=none) ∧
 (H7 prog 102=2) ∧
 ((prog.info? 107).isSome=true) ∧
 (E3 prog 107=6) ∧
 (B6 prog 107=true) ∧
 ((prog.underlying 107).isSome=true) ∧
 (A6 prog 107=none) ∧
 (C3 prog 107=none) ∧
 (H7 prog 107=0) ∧
 (y0 prog 107 0=some (0,4)) ∧
 (y0 prog 107 1=some (1,9)) ∧
 (y0 prog 107 2=some (2,43)) ∧
 (E5 prog 107=some (#[.bool false,.string ⟨#[]⟩,.int .i64 0,.int .i64 0,.string ⟨#[]⟩,.slice none 0 0],[(0,1),(1,1),(2,4)])) ∧
 ((prog.info? 111).isSome=true) ∧
 (E3 prog 111=1) ∧
 (B6 prog 111=false) ∧
 ((prog.underlying 111).isSome=true) ∧
 (A6 prog 111=none) ∧
 (C3 prog 111=none) ∧
 (az3 prog 111=some .i64) ∧
 (H7 prog 111=0) ∧
 ((prog.info? 113).isSome=true) ∧
 (E3 prog 113=2) ∧
 (B6 prog 113=true) ∧
 ((prog.underlying 113).isSome=true) ∧
 (A6 prog 113=none) ∧
 (C3 prog 113=none) ∧
 (H7 prog 113=0) ∧
 (y0 prog 113 0=some (0,111)) ∧
 (y0 prog 113 1=some (1,3)) ∧
 (E5 prog 113=some (#[.int .i64 0,.int .i64 0],[(0,1),(1,1)])) ∧
 ((prog.info? 116).isSome=true) ∧
 (E3 prog 116=1) ∧
 (B6 prog 116=false) ∧
 ((prog.underlying 116).isSome=true) ∧
 (A6 prog 116=none) ∧
 (C3 prog 116=none) ∧
 (H7 prog 116=2) ∧
 ((prog.info? 117).isSome=true) ∧
 (E3 prog 117=1) ∧
 (B6 prog 117=false) ∧
 ((prog.underlying 117).isSome=true) ∧
 (A6 prog 117=some 127) ∧
 (C3 prog 117=none) ∧
 (H7 prog 117=3) ∧
 ((prog.info? 118).isSome=true) ∧
 (E3 prog 118=1) ∧
 (B6 prog 118=false) ∧
 ((prog.underlying 118).isSome=true) ∧
 (A6 prog 118=some 3) ∧
 (C3 prog 118=none) ∧
 (H7 prog 118=3) ∧
 ((prog.info? 120).isSome=true) ∧
 (E3 prog 120=5) ∧
 (B6 prog 120=true) ∧
 ((prog.underlying 120).isSome=true) ∧
 (A6 prog 120=none) ∧
 (C3 prog 120=none) ∧
 (H7 prog 120=0) ∧
 (y0 prog 120 0=some (0,25)) ∧
 (y0 prog 120 1=some (2,117)) ∧
 (y0 prog 120 2=some (3,118)) ∧
 (y0 prog 120 3=some (4,118)) ∧
 (E5 prog 120=some (#[.slice none 0 0,.slice none 0 0,.slice none 0 0,.slice none 0 0,.slice none 0 0],[(0,2),(2,1),(3,1),(4,1)])) ∧
 ((prog.info? 122).isSome=true) ∧
 (E3 prog 122=9) ∧
 (B6 prog 122=true) ∧
 ((prog.underlying 122).isSome=true) ∧
 (A6 prog 122=none) ∧
 (C3 prog 122=none) ∧
 (H7 prog 122=0) ∧
 (y0 prog 122 0=some (0,82)) ∧
 (y0 prog 122 1=some (1,3)) ∧
 (y0 prog 122 2=some (2,53)) ∧
 (y0 prog 122 3=some (7,30)) ∧
 (y0 prog 122 4=some (8,32)) ∧
 (E5 prog 122=some (#[.pointer none,.int .i64 0,.string ⟨#[]⟩,.slice none 0 0,.slice none 0 0,.slice none 0 0,.slice none 0 0,.slice none 0 0,.slice none 0 0],[(0,1),(1,1),(2,5),(7,1),(8,1)])) ∧
 ((prog.info? 127).isSome=true) ∧
 (E3 prog 127=17) ∧
 (B6 prog 127=true) ∧
 ((prog.underlying 127).isSome=true) ∧
 (A6 prog 127=none) ∧
 (C3 prog 127=none) ∧
 (H7 prog 127=0) ∧
 (y0 prog 127 0=some (0,47)) ∧
 (y0 prog 127 1=some (13,3)) ∧
 (y0 prog 127 2=some (14,3)) ∧
 (y0 prog 127 3=some (15,3)) ∧
 (y0 prog 127 4=some (16,3)) ∧
 (E5 prog 127=some (#[.int .i64 0,.int .i64 0,.slice none 0 0,.string ⟨#[]⟩,.string ⟨#[]⟩,.int .i64 0,.int .i64 0,.string ⟨#[]⟩,.slice none 0 0,.bool false,.slice none 0 0,.slice none 0 0,.slice none 0 0,.int .i64 0,.int .i64 0,.int .i64 0,.int .i64 0],[(0,13),(13,1),(14,1),(15,1),(16,1)])) ∧
 ((prog.info? 146).isSome=true) ∧
 (E3 prog 146=1) ∧
 (B6 prog 146=false) ∧
 ((prog.underlying 146).isSome=true) ∧
 (A6 prog 146=some 187) ∧
 (C3 prog 146=none) ∧
 (H7 prog 146=3) ∧
 ((prog.info? 148).isSome=true) ∧
 (E3 prog 148=1) ∧
 (B6 prog 148=false) ∧
 ((prog.underlying 148).isSome=true) ∧
 (A6 prog 148=none) ∧
 (C3 prog 148=none) ∧
 (H7 prog 148=4) ∧
 ((prog.info? 151).isSome=true) ∧
 (E3 prog 151=1) ∧
 (B6 prog 151=false) ∧
 ((prog.underlying 151).isSome=true) ∧
 (A6 prog 151=some 4) ∧
 (C3 prog 151=none) ∧
 (H7 prog 151=3) ∧
 ((prog.info? 153).isSome=true) ∧
 (E3 prog 153=5) ∧
 (B6 prog 153=true) ∧
 ((prog.underlying 153).isSome=true) ∧
 (A6 prog 153=none) ∧
 (C3 prog 153=none) ∧
 (H7 prog 153=0) ∧
 (y0 prog 153 0=some (0,93)) ∧
 (y0 prog 153 1=some (1,3)) ∧
 (y0 prog 153 2=some (2,3)) ∧
 (y0 prog 153 3=some (3,146)) ∧
 (y0 prog 153 4=some (4,151)) ∧
 (E5 prog 153=some (#[.pointer none,.int .i64 0,.int .i64 0,.slice none 0 0,.slice none 0 0],[(0,1),(1,1),(2,1),(3,1),(4,1)])) ∧
 ((prog.info? 155).isSome=true) ∧
 (E3 prog 155=1) ∧
 (B6 prog 155=false) ∧
 ((prog.underlying 155).isSome=true) ∧
 (A6 prog 155=some 118) ∧
 (C3 prog 155=none) ∧
 (H7 prog 155=3) ∧
 ((prog.info? 162).isSome=true) ∧
 (E3 prog 162=1) ∧
 (B6 prog 162=false) ∧
 ((prog.underlying 162).isSome=true) ∧
 (A6 prog 162=some 151) ∧
 (C3 prog 162=none) ∧
 (H7 prog 162=3) ∧
 ((prog.info? 178).isSome=true) ∧
 (E3 prog 178=1) ∧
 (B6 prog 178=false) ∧
 ((prog.underlying 178).isSome=true) ∧
 (A6 prog 178=none) ∧
 (C3 prog 178=none) ∧
 (H7 prog 178=2) ∧
 ((prog.info? 187).isSome=true) ∧
 (E3 prog 187=3) ∧
 (B6 prog 187=true) ∧
 ((prog.underlying 187).isSome=true) ∧
 (A6 prog 187=none) ∧
 (C3 prog 187=none) ∧
 (H7 prog 187=0) ∧
 (y0 prog 187 0=some (0,3)) ∧
 (y0 prog 187 1=some (1,3)) ∧
 (y0 prog 187 2=some (2,3)) ∧
 (E5 prog 187=some (#[.int .i64 0,.int .i64 0,.int .i64 0],[(0,1),(1,1),(2,1)])) ∧
 ((prog.info? 190).isSome=true) ∧
 (E3 prog 190=2) ∧
 (B6 prog 190=true) ∧
 ((prog.underlying 190).isSome=true) ∧
 (A6 prog 190=none) ∧
 (C3 prog 190=none) ∧
 (H7 prog 190=0) ∧
 (y0 prog 190 0=some (0,155)) ∧
 (y0 prog 190 1=some (1,3)) ∧
 (E5 prog 190=some (#[.slice none 0 0,.int .i64 0],[(0,1),(1,1)])) ∧
 ((prog.info? 198).isSome=true) ∧
 (E3 prog 198=1) ∧
 (B6 prog 198=false) ∧
 ((prog.underlying 198).isSome=true) ∧
 (A6 prog 198=none) ∧
 (C3 prog 198=none) ∧
 (H7 prog 198=2) ∧
 ((prog.info? 200).isSome=true) ∧
 (E3 prog 200=1) ∧
 (B6 prog 200=true) ∧
 ((prog.underlying 200).isSome=true) ∧
 (A6 prog 200=none) ∧
 (C3 prog 200=none) ∧
 (H7 prog 200=0) ∧
 (y0 prog 200 0=some (0,3)) ∧
 (E5 prog 200=some (#[.int .i64 0],[(0,1)])) ∧
 ((prog.info? 210).isSome=true) ∧
 (E3 prog 210=1) ∧
 (B6 prog 210=false) ∧
 ((prog.underlying 210).isSome=true) ∧
 (A6 prog 210=none) ∧
 (C3 prog 210=none) ∧
 (H7 prog 210=4) ∧
 ((prog.info? 214).isSome=true) ∧
 (E3 prog 214=1) ∧
 (B6 prog 214=false) ∧
 ((prog.underlying 214).isSome=true) ∧
 (A6 prog 214=none) ∧
 (C3 prog 214=none) ∧
 (az3 prog 214=some .i64) ∧
 (H7 prog 214=0) ∧
 ((prog.info? 223).isSome=true) ∧
 (E3 prog 223=1) ∧
 (B6 prog 223=false) ∧
 ((prog.underlying 223).isSome=true) ∧
 (A6 prog 223=none) ∧
 (C3 prog 223=none) ∧
 (az3 prog 223=some .u64) ∧
 (H7 prog 223=0) ∧
 ((prog.info? 235).isSome=true) ∧
 (E3 prog 235=2) ∧
 (B6 prog 235=true) ∧
 ((prog.underlying 235).isSome=true) ∧
 (A6 prog 235=none) ∧
 (C3 prog 235=none) ∧
 (H7 prog 235=0) ∧
 (y0 prog 235 0=some (0,155)) ∧
 (y0 prog 235 1=some (1,155)) ∧
 (E5 prog 235=some (#[.slice none 0 0,.slice none 0 0],[(0,1),(1,1)])) ∧
 ((prog.info? 244).isSome=true) ∧
 (E3 prog 244=1) ∧
 (B6 prog 244=false) ∧
 ((prog.underlying 244).isSome=true) ∧
 (A6 prog 244=some 276) ∧
 (C3 prog 244=none) ∧
 (H7 prog 244=3) ∧
 ((prog.info? 258).isSome=true) ∧
 (E3 prog 258=1) ∧
 (B6 prog 258=false) ∧
 ((prog.underlying 258).isSome=true) ∧
 (A6 prog 258=none) ∧
 (C3 prog 258=none) ∧
 (az3 prog 258=some .u64) ∧
 (H7 prog 258=0) ∧
 ((prog.info? 262).isSome=true) ∧
 (E3 prog 262=1) ∧
 (B6 prog 262=false) ∧
 ((prog.underlying 262).isSome=true) ∧
 (A6 prog 262=none) ∧
 (C3 prog 262=none) ∧
 (H7 prog 262=2) ∧
 ((prog.info? 275).isSome=true) ∧
 (E3 prog 275=1) ∧
 (B6 prog 275=false) ∧
 ((prog.underlying 275).isSome=true) ∧
 (A6 prog 275=some 223) ∧
 (C3 prog 275=none) ∧
 (H7 prog 275=3) ∧
 ((prog.info? 276).isSome=true) ∧
 (E3 prog 276=1) ∧
 (B6 prog 276=false) ∧
 ((prog.underlying 276).isSome=true) ∧
 (A6 prog 276=some 223) ∧
 (C3 prog 276=none) ∧
 (H7 prog 276=3) ∧
 ((prog.info? 286).isSome=true) ∧
 (E3 prog 286=1) ∧
 (B6 prog 286=false) ∧
 ((prog.underlying 286).isSome=true) ∧
 (A6 prog 286=none) ∧
 (C3 prog 286=none) ∧
 (H7 prog 286=2) ∧
 ((prog.info? 318).isSome=true) ∧
 (E3 prog 318=1) ∧
 (B6 prog 318=false) ∧
 ((prog.underlying 318).isSome=true) ∧
 (A6 prog 318=none) ∧
 (C3 prog 318=none) ∧
 (H7 prog 318=2):=
 ⟨en7,ep0,cG4,ep2,en1,em7,eo2,eo5,en8,aR4,G3,ep3,en2,em8,eo3,eo6,en9,aD5,ao9,ep4,en3,em9,eo7,eo0,ep1,en6,ep5,en4,en0,eo4,eo8,eo1,dV7,U4,ep6,en5,dj0,dw7,eo9,dP9,cI0,M4,dW1,dM5,dJ8,cZ6,dQ0,dU6,bw0,dW2,dM6,dJ9,dS0,ce5,bw3,ce3,ce8,dM7,dK0,dS1,cQ6,cQ7,cZ2,dQ1,cZ7,bw1,dW3,dM8,dK1,dS2,dQ2,cZ8,cG5,dW4,dM9,dK2,dS3,aI9,ad2,aI8,aJ0,dN0,dK3,dS4,cQ8,cQ9,cR0,cR1,bO0,bw2,aR5,bN6,bO2,dN1,dK4,dS5,cR2,cR3,cR4,cZ3,dQ3,dU7,bN7,dW5,dN2,dK5,dS6,bm6,ao2,bm3,bn0,dN3,dK6,dS7,cR5,cR6,cR7,cR8,ce6,dQ4,dU8,bN8,dW6,dN4,dK7,dS8,dQ5,dU9,au1,dW7,dN5,dK8,dS9,aR3,ah0,bb0,bb5,dN6,dK9,dT0,cR9,cS0,cS1,cS2,cS3,cS4,cS5,cS6,cS7,cS8,bm7,dQ6,dV0,bN9,dW8,dN7,dL0,dT1,ao1,O1,ao0,ao4,dN8,dL1,dT2,cS9,cT0,cT1,cT2,cT3,cH6,dQ7,dV1,dP2,dW9,dN9,dL2,dT3,dQ8,dV2,dP3,dX0,dO0,dL3,dT4,cT4,cT5,cT6,cT7,dR8,dQ9,dV3,dP4,dX1,dO1,dL4,dT5,dR0,dV4,dP5,dX2,dO2,dL5,dT6,cT8,cT9,cU0,dR9,bb4,ao3,bb1,bb6,dO3,dL6,dT7,cU1,cU2,ce7,dR1,dV5,dP6,dX3,dO4,dL7,dT8,cG7,bO1,cG6,cI1,dO5,dL8,dT9,cZ4,dR2,dV6,bb2,dX4,dO6,dL9,dU0,dR3,dV8,bb3,dX5,dO7,dM0,dU1,dR4,cZ9,ce4,dX6,dO8,dM1,dU2,dR5,da0,ag9,dX7,dO9,dM2,dU3,dR6,dV9,dP7,dX8,dP0,dM3,dU4,cU3,cU4,cU5,cU6,cU7,cU8,cZ5,dR7,dW0,dP8,dX9,dP1,dM4,dU5,bX2,bm8,bX0,bX8,dj1,df7,dr2,cC8,cC9,cD0,cG8,do1,du6,aq9,dw8,dj2,df8,dr3,ax4,T7,ax3,ax5,dj3,df9,dr4,cD1,cD2,cD3,bX4,do2,du7,cG3,dw9,dj4,dg0,dq8,dr5,bX3,bX6,bX1,bX9,dj5,dg1,dr6,cD4,cD5,bC9,do3,du8,dm3,dx0,dj6,dg2,dr7,do4,cH8,aL9,dx1,dj7,dg3,dr8,do5,aD4,O6,dx2,bW9,dg4,cH7,do6,du9,dm4,dx3,dj8,dg5,dr9,cD6,cD7,cD8,cD9,cG9,do7,dv0,dm5,dx4,dj9,dg6,ds2,cE0,cE1,cE2,cE3,cE4,cH0,Y0,I9,X9,Y1,dk0,dg7,ds3,cE5,cE6,cE7,cE8,cE9,bX5,do8,dv1,bC7,dx5,dk1,dg8,ds4,do9,dv2,dm6,dx6,dk2,dg9,ds5,dp0,bD0,af0,dx7,dk3,dh0,ds6,dp1,dv3,dm7,dx8,dk4,dh1,ds7,cF0,cF1,cF2,cF3,cF4,cH1,dp2,cH9,R1,dx9,dk5,dh2,ds8,dp3,dv4,dm8,dy0,dk6,dh3,ds9,dp4,dv5,dm9,dy1,dk7,dh4,dt0,bm4,aM1,bC8,bD2,dk8,dh5,dt1,cF5,cF6,cF7,cH2,bm5,aa2,bm2,bm9,dk9,dh6,dt2,cF8,cF9,cH3,dp5,dv6,dn0,dy2,dl0,dh7,dt3,dp6,dv7,dn1,dy3,dl1,dh8,dt4,cG0,cH4,dp7,dv8,dn2,dy4,dl2,dh9,dt5,dp8,dv9,dn3,dy5,dl3,di0,dq9,dt6,dp9,bD1,af1,dy6,dl4,di1,dr0,dt7,dq0,dw0,dn4,dy7,dl5,di2,dt8,cG1,cG2,cH5,dq1,dw1,dn5,dy8,dl6,di3,dt9,dq2,dw2,dn6,dy9,dl7,di4,dr1,du0,dq3,dw3,dn7,dz0,dl8,di5,du1,dq4,dw4,dn8,dz1,dl9,di6,du2,dq5,bX7,aM0,dz2,dm0,di7,du3,dq6,dw5,dn9,dz3,dm1,di8,du4,dq7,dw6,do0,dz4,dm2,di9,du5⟩
theorem dF5{l:List Value}(h:l.length=2):∃a b,l=[a,b]:=by
 match l,h with
 | [a,b],_=>exact⟨a,b,rfl⟩
theorem bt7{l:List Value}(h:l.length=4):∃a b c d,l=[a,b,c,d]:=by
 match l,h with
 | [a,b,c,d],_=>exact⟨a,b,c,d,rfl⟩
theorem bi7{l:List Value}(h:l.length=13):∃a b c d e f g i j k m n o,l=[a,b,c,d,e,f,g,i,j,k,m,n,o]:=by
 match l,h with
 | [a,b,c,d,e,f,g,i,j,k,m,n,o],_=>exact⟨a,b,c,d,e,f,g,i,j,k,m,n,o,rfl⟩
theorem cM9{h:Hp}{cs:List Value}{x:Pa}:z7.enc h cs x→cs=([o7 x.name]:List Value)++([.bool x.ref]:List Value):=by
 intro he;exact he
theorem At.pa{h:Hp}{a:Addr}{x:Pa}(ha:At h a x):(∀w,B4 h (d7 w)→(Instr.loadAt 9 (.pointer (some a))).run prog w = .ok (o7 x.name) w∧(Instr.loadAt 4 (.pointer (some (a.add 1)))).run prog w = .ok (.bool x.ref) w)∧(∀(S:World→Prop) (w0:World),S w0→(∀w,S w→B4 h (d7 w))→(∀K f d w,B8 prog S (Instr.loadAt 9 (.pointer (some a))) K f d w=K (A5 f d (o7 x.name)) w)∧(∀K f d w,B8 prog S (Instr.loadAt 4 (.pointer (some (a.add 1)))) K f d w=K (A5 f d (.bool x.ref)) w)):=by
 obtain⟨cs,he,hc⟩:=ha;obtain rfl:=cM9 he;exact⟨fun w hw=>⟨E0 hc rfl U4 w hw,v8 hc (o:=1) rfl ao9 w hw⟩,fun S w0 hS hw=>⟨fun K f d w=>A0 hS fun w' hw'=>E0 hc rfl U4 w' (hw w' hw'),fun K f d w=>A0 hS fun w' hw'=>v8 hc (o:=1) rfl ao9 w' (hw w' hw')⟩⟩
theorem At.pa_v{h:Hp}{a:Addr}{x:Pa}(ha:At h a x):∃sv,SV h sv x∧(∀w,B4 h (d7 w)→(Instr.loadAt 69 (.pointer (some a))).run prog w = .ok sv w)∧(∀(S:World→Prop) (w0:World),S w0→(∀w,S w→B4 h (d7 w))→∀K f d w,B8 prog S (Instr.loadAt 69 (.pointer (some a))) K f d w=K (A5 f d sv) w):=ha.sv2 bb1 bb6 bb4 ao3
theorem bZ9{h:Hp}{v:Value}{x:Pa}{w:World}(hv:SV h v x)(hw:B4 h (d7 w)):∃a w',(Instr.box 69 v).run prog w = .ok (.pointer (some a)) w'∧o6 w w'∧At (d7 w') a x:=bo2 hv hw
theorem aG6{h:Hp}{v:Value}{x:Pa}{w:World}(hv:SV h v x)(hw:B4 h (d7 w)):∃a wz w',(Instr.alloc 69 true (.tuple #[])).run prog w = .ok (.pointer (some a)) wz∧(Instr.storeAt 69 (.pointer (some a)) v).run prog wz = .ok () w'∧o6 w w'∧At (d7 w') a x:=bn3 hv hw dY2 rfl ao3
theorem cN1{h:Hp}{cs:List Value}{x:Sp}:z7.enc h cs x→cs=([.int .i64 x.src]:List Value)++([.int .i64 x.dst]:List Value)++([.int .i64 x.kind]:List Value):=by
 intro he;exact he
theorem At.sp{h:Hp}{a:Addr}{x:Sp}(ha:At h a x):(∀w,B4 h (d7 w)→(Instr.loadAt 3 (.pointer (some a))).run prog w = .ok (.int .i64 x.src) w∧(Instr.loadAt 3 (.pointer (some (a.add 1)))).run prog w = .ok (.int .i64 x.dst) w∧(Instr.loadAt 3 (.pointer (some (a.add 2)))).run prog w = .ok (.int .i64 x.kind) w)∧(∀(S:World→Prop) (w0:World),S w0→(∀w,S w→B4 h (d7 w))→(∀K f d w,B8 prog S (Instr.loadAt 3 (.pointer (some a))) K f d w=K (A5 f d (.int .i64 x.src)) w)∧(∀K f d w,B8 prog S (Instr.loadAt 3 (.pointer (some (a.add 1)))) K f d w=K (A5 f d (.int .i64 x.dst)) w)∧(∀K f d w,B8 prog S (Instr.loadAt 3 (.pointer (some (a.add 2)))) K f d w=K (A5 f d (.int .i64 x.kind)) w)):=by
 obtain⟨cs,he,hc⟩:=ha;obtain rfl:=cN1 he;exact⟨fun w hw=>⟨E0 hc rfl G3 w hw,v8 hc (o:=1) rfl G3 w hw,v8 hc (o:=2) rfl G3 w hw⟩,fun S w0 hS hw=>⟨fun K f d w=>A0 hS fun w' hw'=>E0 hc rfl G3 w' (hw w' hw'),fun K f d w=>A0 hS fun w' hw'=>v8 hc (o:=1) rfl G3 w' (hw w' hw'),fun K f d w=>A0 hS fun w' hw'=>v8 hc (o:=2) rfl G3 w' (hw w' hw')⟩⟩
theorem At.sp_v{h:Hp}{a:Addr}{x:Sp}(ha:At h a x):∃sv,SV h sv x∧(∀w,B4 h (d7 w)→(Instr.loadAt 187 (.pointer (some a))).run prog w = .ok sv w)∧(∀(S:World→Prop) (w0:World),S w0→(∀w,S w→B4 h (d7 w))→∀K f d w,B8 prog S (Instr.loadAt 187 (.pointer (some a))) K f d w=K (A5 f d sv) w):=ha.sv2 bC8 bD2 bm4 aM1
theorem ca0{h:Hp}{v:Value}{x:Sp}{w:World}(hv:SV h v x)(hw:B4 h (d7 w)):∃a w',(Instr.box 187 v).run prog w = .ok (.pointer (some a)) w'∧o6 w w'∧At (d7 w') a x:=bo2 hv hw
theorem cV2{h:Hp}{v:Value}{x:Sp}{w:World}(hv:SV h v x)(hw:B4 h (d7 w)):∃a wz w',(Instr.alloc 187 true (.tuple #[])).run prog w = .ok (.pointer (some a)) wz∧(Instr.storeAt 187 (.pointer (some a)) v).run prog wz = .ok () w'∧o6 w w'∧At (d7 w') a x:=bn3 hv hw cI5 rfl aM1
theorem cM8{h:Hp}{cs:List Value}{x:Fw}:z7.enc h cs x→cs=([.int .i64 x.src]:List Value)++([.int .i64 x.dst]:List Value)++([o7 x.var]:List Value):=by
 intro he;exact he
theorem At.fw{h:Hp}{a:Addr}{x:Fw}(ha:At h a x):(∀w,B4 h (d7 w)→(Instr.loadAt 3 (.pointer (some a))).run prog w = .ok (.int .i64 x.src) w∧(Instr.loadAt 3 (.pointer (some (a.add 1)))).run prog w = .ok (.int .i64 x.dst) w∧(Instr.loadAt 9 (.pointer (some (a.add 2)))).run prog w = .ok (o7 x.var) w)∧(∀(S:World→Prop) (w0:World),S w0→(∀w,S w→B4 h (d7 w))→(∀K f d w,B8 prog S (Instr.loadAt 3 (.pointer (some a))) K f d w=K (A5 f d (.int .i64 x.src)) w)∧(∀K f d w,B8 prog S (Instr.loadAt 3 (.pointer (some (a.add 1)))) K f d w=K (A5 f d (.int .i64 x.dst)) w)∧(∀K f d w,B8 prog S (Instr.loadAt 9 (.pointer (some (a.add 2)))) K f d w=K (A5 f d (o7 x.var)) w)):=by
 obtain⟨cs,he,hc⟩:=ha;obtain rfl:=cM8 he;exact⟨fun w hw=>⟨E0 hc rfl G3 w hw,v8 hc (o:=1) rfl G3 w hw,v8 hc (o:=2) rfl U4 w hw⟩,fun S w0 hS hw=>⟨fun K f d w=>A0 hS fun w' hw'=>E0 hc rfl G3 w' (hw w' hw'),fun K f d w=>A0 hS fun w' hw'=>v8 hc (o:=1) rfl G3 w' (hw w' hw'),fun K f d w=>A0 hS fun w' hw'=>v8 hc (o:=2) rfl U4 w' (hw w' hw')⟩⟩
theorem cV0{h:Hp}{v:Value}{x:Fw}{w:World}(hv:SV h v x)(hw:B4 h (d7 w)):∃a wz w',(Instr.alloc 101 true (.tuple #[])).run prog w = .ok (.pointer (some a)) wz∧(Instr.storeAt 101 (.pointer (some a)) v).run prog wz = .ok () w'∧o6 w w'∧At (d7 w') a x:=bn3 hv hw dz5 rfl bm8
theorem cN2{h:Hp}{cs:List Value}{x:Vx}:z7.enc h cs x→cs=([o7 x.proc]:List Value)++([.int .i64 x.kind]:List Value)++([.int .i64 x.id]:List Value)++([o7 x.slot]:List Value):=by
 intro he;exact he
theorem At.vx{h:Hp}{a:Addr}{x:Vx}(ha:At h a x):(∀w,B4 h (d7 w)→(Instr.loadAt 9 (.pointer (some a))).run prog w = .ok (o7 x.proc) w∧(Instr.loadAt 3 (.pointer (some (a.add 1)))).run prog w = .ok (.int .i64 x.kind) w∧(Instr.loadAt 3 (.pointer (some (a.add 2)))).run prog w = .ok (.int .i64 x.id) w∧(Instr.loadAt 9 (.pointer (some (a.add 3)))).run prog w = .ok (o7 x.slot) w)∧(∀(S:World→Prop) (w0:World),S w0→(∀w,S w→B4 h (d7 w))→(∀K f d w,B8 prog S (Instr.loadAt 9 (.pointer (some a))) K f d w=K (A5 f d (o7 x.proc)) w)∧(∀K f d w,B8 prog S (Instr.loadAt 3 (.pointer (some (a.add 1)))) K f d w=K (A5 f d (.int .i64 x.kind)) w)∧(∀K f d w,B8 prog S (Instr.loadAt 3 (.pointer (some (a.add 2)))) K f d w=K (A5 f d (.int .i64 x.id)) w)∧(∀K f d w,B8 prog S (Instr.loadAt 9 (.pointer (some (a.add 3)))) K f d w=K (A5 f d (o7 x.slot)) w)):=by
 obtain⟨cs,he,hc⟩:=ha;obtain rfl:=cN2 he;exact⟨fun w hw=>⟨E0 hc rfl U4 w hw,v8 hc (o:=1) rfl G3 w hw,v8 hc (o:=2) rfl G3 w hw,v8 hc (o:=3) rfl U4 w hw⟩,fun S w0 hS hw=>⟨fun K f d w=>A0 hS fun w' hw'=>E0 hc rfl U4 w' (hw w' hw'),fun K f d w=>A0 hS fun w' hw'=>v8 hc (o:=1) rfl G3 w' (hw w' hw'),fun K f d w=>A0 hS fun w' hw'=>v8 hc (o:=2) rfl G3 w' (hw w' hw'),fun K f d w=>A0 hS fun w' hw'=>v8 hc (o:=3) rfl U4 w' (hw w' hw')⟩⟩
theorem L8.vx_v{h k:Hp}{a:Addr}{v:Value}{x:Vx}(hv:SV h v x)(ha:L8 k a v):(∀w,B4 k (d7 w)→(Instr.loadAt 36 (.pointer (some a))).run prog w = .ok v w)∧(∀(S:World→Prop) (w0:World),S w0→(∀w,S w→B4 k (d7 w))→∀K f d w,B8 prog S (Instr.loadAt 36 (.pointer (some a))) K f d w=K (A5 f d v) w):=ha.whole hv aI8 aJ0 aI9 ad2
theorem ca2{h:Hp}{v:Value}{x:Vx}{w:World}(N:Nat→Prop)(hv:SV h v x)(hN:∀b,N b→b<w.heap.size):∃a w',(Instr.box 36 v).run prog w = .ok (.pointer (some a)) w'∧o6 w w'∧L8 (B5 w' N) a v:=ch4 hv hN
theorem cf3{h:Hp}{v:Value}{x:Vx}{w:World}(N:Nat→Prop)(hv:SV h v x)(hN:∀b,N b→b<w.heap.size):∃a wz w',(Instr.alloc 36 true (.tuple #[])).run prog w = .ok (.pointer (some a)) wz∧(Instr.storeAt 36 (.pointer (some a)) v).run prog wz = .ok () w'∧o6 w w'∧L8 (B5 w' N) a v:=co3 hv hN bw4 rfl ad2
theorem At.vx_v{h:Hp}{a:Addr}{x:Vx}(ha:At h a x):∃sv,SV h sv x∧(∀w,B4 h (d7 w)→(Instr.loadAt 36 (.pointer (some a))).run prog w = .ok sv w)∧(∀(S:World→Prop) (w0:World),S w0→(∀w,S w→B4 h (d7 w))→∀K f d w,B8 prog S (Instr.loadAt 36 (.pointer (some a))) K f d w=K (A5 f d sv) w):=ha.sv2 aI8 aJ0 aI9 ad2
theorem aM9{h:Hp}{v:Value}{x:Vx}{w:World}(hv:SV h v x)(hw:B4 h (d7 w)):∃a w',(Instr.box 36 v).run prog w = .ok (.pointer (some a)) w'∧o6 w w'∧At (d7 w') a x:=bo2 hv hw
theorem cf1{h:Hp}{v:Value}{x:Vx}{w:World}(hv:SV h v x)(hw:B4 h (d7 w)):∃a wz w',(Instr.alloc 36 true (.tuple #[])).run prog w = .ok (.pointer (some a)) wz∧(Instr.storeAt 36 (.pointer (some a)) v).run prog wz = .ok () w'∧o6 w w'∧At (d7 w') a x:=bn3 hv hw bw4 rfl ad2
theorem cM7{h:Hp}{cs:List Value}{x:Eg}:z7.enc h cs x→∃c_src c_dst,cs=c_src++c_dst++([.int .i64 x.kind]:List Value)∧z7.enc h c_src x.src∧z7.enc h c_dst x.dst:=by
 intro he;exact⟨x.src.cells,x.dst.cells,he,rfl,rfl⟩
theorem At.eg{h:Hp}{a:Addr}{x:Eg}(ha:At h a x):At h a x.src∧At h (a.add 4) x.dst∧(∀w,B4 h (d7 w)→(Instr.loadAt 3 (.pointer (some (a.add 8)))).run prog w = .ok (.int .i64 x.kind) w)∧(∀(S:World→Prop) (w0:World),S w0→(∀w,S w→B4 h (d7 w))→(∀K f d w,B8 prog S (Instr.loadAt 3 (.pointer (some (a.add 8)))) K f d w=K (A5 f d (.int .i64 x.kind)) w)):=by
 obtain⟨cs,he,hc⟩:=ha;obtain⟨c_src,c_dst,rfl,h_src,h_dst⟩:=cM7 he;obtain⟨a_src0,a_src1,a_src2,a_src3,rfl⟩:=bt7 (z7.len h_src);obtain⟨a_dst0,a_dst1,a_dst2,a_dst3,rfl⟩:=bt7 (z7.len h_dst);exact⟨be7 hc h_src (fun j u hj=>by
  match j,hj with
  | 0,hj=>exact hj
  | 1,hj=>exact hj
  | 2,hj=>exact hj
  | 3,hj=>exact hj
  | m+4,hj=>simp at hj),bc5 hc h_dst (fun j u hj=>by
  match j,hj with
  | 0,hj=>exact hj
  | 1,hj=>exact hj
  | 2,hj=>exact hj
  | 3,hj=>exact hj
  | m+4,hj=>simp at hj),fun w hw=>v8 hc (o:=8) rfl G3 w hw,fun S w0 hS hw=>fun K f d w=>A0 hS fun w' hw'=>v8 hc (o:=8) rfl G3 w' (hw w' hw')⟩
theorem At.eg_v{h:Hp}{a:Addr}{x:Eg}(ha:At h a x):∃sv,SV h sv x∧(∀w,B4 h (d7 w)→(Instr.loadAt 38 (.pointer (some a))).run prog w = .ok sv w)∧(∀(S:World→Prop) (w0:World),S w0→(∀w,S w→B4 h (d7 w))→∀K f d w,B8 prog S (Instr.loadAt 38 (.pointer (some a))) K f d w=K (A5 f d sv) w):=ha.sv2 bN6 bO2 bw2 aR5
theorem bc7{h:Hp}{v:Value}{x:Eg}{w:World}(hv:SV h v x)(hw:B4 h (d7 w)):∃a w',(Instr.box 38 v).run prog w = .ok (.pointer (some a)) w'∧o6 w w'∧At (d7 w') a x:=bo2 hv hw
theorem cf0{h:Hp}{v:Value}{x:Eg}{w:World}(hv:SV h v x)(hw:B4 h (d7 w)):∃a wz w',(Instr.alloc 38 true (.tuple #[])).run prog w = .ok (.pointer (some a)) wz∧(Instr.storeAt 38 (.pointer (some a)) v).run prog wz = .ok () w'∧o6 w w'∧At (d7 w') a x:=bn3 hv hw da2 rfl aR5
theorem cb0{h:Hp}{cs:List Value}{x:Ex}:z7.enc h cs x→∃v_kids,cs=([.int .i64 x.op]:List Value)++([.int .i64 x.n]:List Value)++([o7 x.name]:List Value)++([v_kids]:List Value)∧R h v_kids x.kids:=by
 intro he;obtain⟨vk,rfl,h1⟩:=bz2.1 he;exact⟨vk,rfl,h1⟩
theorem At.ex{h:Hp}{a:Addr}{x:Ex}(ha:At h a x):∃v_kids,R h v_kids x.kids∧(∀w,B4 h (d7 w)→(Instr.loadAt 3 (.pointer (some a))).run prog w = .ok (.int .i64 x.op) w∧(Instr.loadAt 2 (.pointer (some (a.add 1)))).run prog w = .ok (.int .i64 x.n) w∧(Instr.loadAt 9 (.pointer (some (a.add 2)))).run prog w = .ok (o7 x.name) w∧(Instr.loadAt 41 (.pointer (some (a.add 3)))).run prog w = .ok (v_kids) w)∧(∀(S:World→Prop) (w0:World),S w0→(∀w,S w→B4 h (d7 w))→(∀K f d w,B8 prog S (Instr.loadAt 3 (.pointer (some a))) K f d w=K (A5 f d (.int .i64 x.op)) w)∧(∀K f d w,B8 prog S (Instr.loadAt 2 (.pointer (some (a.add 1)))) K f d w=K (A5 f d (.int .i64 x.n)) w)∧(∀K f d w,B8 prog S (Instr.loadAt 9 (.pointer (some (a.add 2)))) K f d w=K (A5 f d (o7 x.name)) w)∧(∀K f d w,B8 prog S (Instr.loadAt 41 (.pointer (some (a.add 3)))) K f d w=K (A5 f d (v_kids)) w)):=by
 obtain⟨cs,he,hc⟩:=ha;obtain⟨v_kids,rfl,h_kids⟩:=cb0 he;exact⟨_,h_kids,fun w hw=>⟨E0 hc rfl G3 w hw,v8 hc (o:=1) rfl cG4 w hw,v8 hc (o:=2) rfl U4 w hw,v8 hc (o:=3) rfl bN7 w hw⟩,fun S w0 hS hw=>⟨fun K f d w=>A0 hS fun w' hw'=>E0 hc rfl G3 w' (hw w' hw'),fun K f d w=>A0 hS fun w' hw'=>v8 hc (o:=1) rfl cG4 w' (hw w' hw'),fun K f d w=>A0 hS fun w' hw'=>v8 hc (o:=2) rfl U4 w' (hw w' hw'),fun K f d w=>A0 hS fun w' hw'=>v8 hc (o:=3) rfl bN7 w' (hw w' hw')⟩⟩
theorem L8.ex{h k:Hp}{a:Addr}{v:Value}{x:Ex}(hv:SV h v x)(ha:L8 k a v):∃v_kids,R h v_kids x.kids∧(∀w,B4 k (d7 w)→(Instr.loadAt 3 (.pointer (some a))).run prog w = .ok (.int .i64 x.op) w∧(Instr.loadAt 2 (.pointer (some (a.add 1)))).run prog w = .ok (.int .i64 x.n) w∧(Instr.loadAt 9 (.pointer (some (a.add 2)))).run prog w = .ok (o7 x.name) w∧(Instr.loadAt 41 (.pointer (some (a.add 3)))).run prog w = .ok (v_kids) w)∧(∀(S:World→Prop) (w0:World),S w0→(∀w,S w→B4 k (d7 w))→(∀K f d w,B8 prog S (Instr.loadAt 3 (.pointer (some a))) K f d w=K (A5 f d (.int .i64 x.op)) w)∧(∀K f d w,B8 prog S (Instr.loadAt 2 (.pointer (some (a.add 1)))) K f d w=K (A5 f d (.int .i64 x.n)) w)∧(∀K f d w,B8 prog S (Instr.loadAt 9 (.pointer (some (a.add 2)))) K f d w=K (A5 f d (o7 x.name)) w)∧(∀K f d w,B8 prog S (Instr.loadAt 41 (.pointer (some (a.add 3)))) K f d w=K (A5 f d (v_kids)) w)):=by
 obtain⟨cs,rfl,he⟩:=hv;obtain⟨cs2,e2,hc⟩:=ha;obtain rfl:=ai5 e2;obtain⟨v_kids,rfl,h_kids⟩:=cb0 he;exact⟨_,h_kids,fun w hw=>⟨E0 hc rfl G3 w hw,v8 hc (o:=1) rfl cG4 w hw,v8 hc (o:=2) rfl U4 w hw,v8 hc (o:=3) rfl bN7 w hw⟩,fun S w0 hS hw=>⟨fun K f d w=>A0 hS fun w' hw'=>E0 hc rfl G3 w' (hw w' hw'),fun K f d w=>A0 hS fun w' hw'=>v8 hc (o:=1) rfl cG4 w' (hw w' hw'),fun K f d w=>A0 hS fun w' hw'=>v8 hc (o:=2) rfl U4 w' (hw w' hw'),fun K f d w=>A0 hS fun w' hw'=>v8 hc (o:=3) rfl bN7 w' (hw w' hw')⟩⟩
theorem L8.ex_v{h k:Hp}{a:Addr}{v:Value}{x:Ex}(hv:SV h v x)(ha:L8 k a v):(∀w,B4 k (d7 w)→(Instr.loadAt 43 (.pointer (some a))).run prog w = .ok v w)∧(∀(S:World→Prop) (w0:World),S w0→(∀w,S w→B4 k (d7 w))→∀K f d w,B8 prog S (Instr.loadAt 43 (.pointer (some a))) K f d w=K (A5 f d v) w):=ha.whole hv bm3 bn0 bm6 ao2
theorem bc9{h:Hp}{v:Value}{x:Ex}{w:World}(N:Nat→Prop)(hv:SV h v x)(hN:∀b,N b→b<w.heap.size):∃a w',(Instr.box 43 v).run prog w = .ok (.pointer (some a)) w'∧o6 w w'∧L8 (B5 w' N) a v:=ch4 hv hN
theorem cV3{h:Hp}{v:Value}{x:Ex}{w:World}(N:Nat→Prop)(hv:SV h v x)(hN:∀b,N b→b<w.heap.size):∃a wz w',(Instr.alloc 43 true (.tuple #[])).run prog w = .ok (.pointer (some a)) wz∧(Instr.storeAt 43 (.pointer (some a)) v).run prog wz = .ok () w'∧o6 w w'∧L8 (B5 w' N) a v:=co3 hv hN cI6 rfl ao2
theorem At.ex_v{h:Hp}{a:Addr}{x:Ex}(ha:At h a x):∃sv,SV h sv x∧(∀w,B4 h (d7 w)→(Instr.loadAt 43 (.pointer (some a))).run prog w = .ok sv w)∧(∀(S:World→Prop) (w0:World),S w0→(∀w,S w→B4 h (d7 w))→∀K f d w,B8 prog S (Instr.loadAt 43 (.pointer (some a))) K f d w=K (A5 f d sv) w):=ha.sv2 bm3 bn0 bm6 ao2
theorem aE1{h:Hp}{v:Value}{x:Ex}{w:World}(hv:SV h v x)(hw:B4 h (d7 w)):∃a w',(Instr.box 43 v).run prog w = .ok (.pointer (some a)) w'∧o6 w w'∧At (d7 w') a x:=bo2 hv hw
theorem cU9{h:Hp}{v:Value}{x:Ex}{w:World}(hv:SV h v x)(hw:B4 h (d7 w)):∃a wz w',(Instr.alloc 43 true (.tuple #[])).run prog w = .ok (.pointer (some a)) wz∧(Instr.storeAt 43 (.pointer (some a)) v).run prog wz = .ok () w'∧o6 w w'∧At (d7 w') a x:=bn3 hv hw cI6 rfl ao2
theorem ca9{h:Hp}{cs:List Value}{x:Ar}:z7.enc h cs x→∃c_x,cs=([.bool x.ref]:List Value)++([o7 x.name]:List Value)++c_x∧z7.enc h c_x x.x:=by
 rintro⟨c,rfl,h1⟩;exact⟨c,rfl,h1⟩
theorem At.ar{h:Hp}{a:Addr}{x:Ar}(ha:At h a x):At h (a.add 2) x.x∧(∀w,B4 h (d7 w)→(Instr.loadAt 4 (.pointer (some a))).run prog w = .ok (.bool x.ref) w∧(Instr.loadAt 9 (.pointer (some (a.add 1)))).run prog w = .ok (o7 x.name) w)∧(∀(S:World→Prop) (w0:World),S w0→(∀w,S w→B4 h (d7 w))→(∀K f d w,B8 prog S (Instr.loadAt 4 (.pointer (some a))) K f d w=K (A5 f d (.bool x.ref)) w)∧(∀K f d w,B8 prog S (Instr.loadAt 9 (.pointer (some (a.add 1)))) K f d w=K (A5 f d (o7 x.name)) w)):=by
 obtain⟨cs,he,hc⟩:=ha;obtain⟨c_x,rfl,h_x⟩:=ca9 he;obtain⟨a_x0,a_x1,a_x2,a_x3,rfl⟩:=bt7 (z7.len h_x);exact⟨bc5 hc h_x (fun j u hj=>by
  match j,hj with
  | 0,hj=>exact hj
  | 1,hj=>exact hj
  | 2,hj=>exact hj
  | 3,hj=>exact hj
  | m+4,hj=>simp at hj),fun w hw=>⟨E0 hc rfl ao9 w hw,v8 hc (o:=1) rfl U4 w hw⟩,fun S w0 hS hw=>⟨fun K f d w=>A0 hS fun w' hw'=>E0 hc rfl ao9 w' (hw w' hw'),fun K f d w=>A0 hS fun w' hw'=>v8 hc (o:=1) rfl U4 w' (hw w' hw')⟩⟩
theorem L8.ar{h k:Hp}{a:Addr}{v:Value}{x:Ar}(hv:SV h v x)(ha:L8 k a v):∃u_x,SV h u_x x.x∧L8 k (a.add 2) u_x∧(∀w,B4 k (d7 w)→(Instr.loadAt 4 (.pointer (some a))).run prog w = .ok (.bool x.ref) w∧(Instr.loadAt 9 (.pointer (some (a.add 1)))).run prog w = .ok (o7 x.name) w)∧(∀(S:World→Prop) (w0:World),S w0→(∀w,S w→B4 k (d7 w))→(∀K f d w,B8 prog S (Instr.loadAt 4 (.pointer (some a))) K f d w=K (A5 f d (.bool x.ref)) w)∧(∀K f d w,B8 prog S (Instr.loadAt 9 (.pointer (some (a.add 1)))) K f d w=K (A5 f d (o7 x.name)) w)):=by
 obtain⟨cs,rfl,he⟩:=hv;obtain⟨cs2,e2,hc⟩:=ha;obtain rfl:=ai5 e2;obtain⟨c_x,rfl,h_x⟩:=ca9 he;obtain⟨a_x0,a_x1,a_x2,a_x3,rfl⟩:=bt7 (z7.len h_x);exact⟨_,⟨_,rfl,h_x⟩,be6 hc (fun j u hj=>by
  match j,hj with
  | 0,hj=>exact hj
  | 1,hj=>exact hj
  | 2,hj=>exact hj
  | 3,hj=>exact hj
  | m+4,hj=>simp at hj),fun w hw=>⟨E0 hc rfl ao9 w hw,v8 hc (o:=1) rfl U4 w hw⟩,fun S w0 hS hw=>⟨fun K f d w=>A0 hS fun w' hw'=>E0 hc rfl ao9 w' (hw w' hw'),fun K f d w=>A0 hS fun w' hw'=>v8 hc (o:=1) rfl U4 w' (hw w' hw')⟩⟩
theorem cf2{h:Hp}{v:Value}{x:Ar}{w:World}(N:Nat→Prop)(hv:SV h v x)(hN:∀b,N b→b<w.heap.size):∃a wz w',(Instr.alloc 107 true (.tuple #[])).run prog w = .ok (.pointer (some a)) wz∧(Instr.storeAt 107 (.pointer (some a)) v).run prog wz = .ok () w'∧o6 w w'∧L8 (B5 w' N) a v:=co3 hv hN cI2 rfl T7
theorem At.ar_v{h:Hp}{a:Addr}{x:Ar}(ha:At h a x):∃sv,SV h sv x∧(∀w,B4 h (d7 w)→(Instr.loadAt 107 (.pointer (some a))).run prog w = .ok sv w)∧(∀(S:World→Prop) (w0:World),S w0→(∀w,S w→B4 h (d7 w))→∀K f d w,B8 prog S (Instr.loadAt 107 (.pointer (some a))) K f d w=K (A5 f d sv) w):=ha.sv2 ax3 ax5 ax4 T7
theorem cL3{h:Hp}{v:Value}{x:Ar}{w:World}(hv:SV h v x)(hw:B4 h (d7 w)):∃a w',(Instr.box 107 v).run prog w = .ok (.pointer (some a)) w'∧o6 w w'∧At (d7 w') a x:=bo2 hv hw
theorem aR7{h:Hp}{v:Value}{x:Ar}{w:World}(hv:SV h v x)(hw:B4 h (d7 w)):∃a wz w',(Instr.alloc 107 true (.tuple #[])).run prog w = .ok (.pointer (some a)) wz∧(Instr.storeAt 107 (.pointer (some a)) v).run prog wz = .ok () w'∧o6 w w'∧At (d7 w') a x:=bn3 hv hw cI2 rfl T7
theorem cb2{h:Hp}{cs:List Value}{x:St}:z7.enc h cs x→∃v_labels c_x v_args v_thn v_els,cs=([.int .i64 x.id]:List Value)++([.int .i64 x.kind]:List Value)++([v_labels]:List Value)++([o7 x.name]:List Value)++([o7 x.proc]:List Value)++c_x++([.bool x.has]:List Value)++([v_args]:List Value)++([v_thn]:List Value)++([v_els]:List Value)∧R h v_labels x.labels∧z7.enc h c_x x.x∧R h v_args x.args∧R h v_thn x.thn∧R h v_els x.els:=by
 intro he;obtain⟨vl,cx,va,vt,ve,rfl,h1,h2,h3,h4,h5⟩:=bz3.1 he;exact⟨vl,cx,va,vt,ve,by simp,h1,h2,h3,h4,h5⟩
theorem At.st{h:Hp}{a:Addr}{x:St}(ha:At h a x):∃v_labels v_args v_thn v_els,R h v_labels x.labels∧R h v_args x.args∧R h v_thn x.thn∧R h v_els x.els∧At h (a.add 5) x.x∧(∀w,B4 h (d7 w)→(Instr.loadAt 3 (.pointer (some a))).run prog w = .ok (.int .i64 x.id) w∧(Instr.loadAt 3 (.pointer (some (a.add 1)))).run prog w = .ok (.int .i64 x.kind) w∧(Instr.loadAt 22 (.pointer (some (a.add 2)))).run prog w = .ok (v_labels) w∧(Instr.loadAt 9 (.pointer (some (a.add 3)))).run prog w = .ok (o7 x.name) w∧(Instr.loadAt 9 (.pointer (some (a.add 4)))).run prog w = .ok (o7 x.proc) w∧(Instr.loadAt 4 (.pointer (some (a.add 9)))).run prog w = .ok (.bool x.has) w∧(Instr.loadAt 44 (.pointer (some (a.add 10)))).run prog w = .ok (v_args) w∧(Instr.loadAt 45 (.pointer (some (a.add 11)))).run prog w = .ok (v_thn) w∧(Instr.loadAt 45 (.pointer (some (a.add 12)))).run prog w = .ok (v_els) w)∧(∀(S:World→Prop) (w0:World),S w0→(∀w,S w→B4 h (d7 w))→(∀K f d w,B8 prog S (Instr.loadAt 3 (.pointer (some a))) K f d w=K (A5 f d (.int .i64 x.id)) w)∧(∀K f d w,B8 prog S (Instr.loadAt 3 (.pointer (some (a.add 1)))) K f d w=K (A5 f d (.int .i64 x.kind)) w)∧(∀K f d w,B8 prog S (Instr.loadAt 22 (.pointer (some (a.add 2)))) K f d w=K (A5 f d (v_labels)) w)∧(∀K f d w,B8 prog S (Instr.loadAt 9 (.pointer (some (a.add 3)))) K f d w=K (A5 f d (o7 x.name)) w)∧(∀K f d w,B8 prog S (Instr.loadAt 9 (.pointer (some (a.add 4)))) K f d w=K (A5 f d (o7 x.proc)) w)∧(∀K f d w,B8 prog S (Instr.loadAt 4 (.pointer (some (a.add 9)))) K f d w=K (A5 f d (.bool x.has)) w)∧(∀K f d w,B8 prog S (Instr.loadAt 44 (.pointer (some (a.add 10)))) K f d w=K (A5 f d (v_args)) w)∧(∀K f d w,B8 prog S (Instr.loadAt 45 (.pointer (some (a.add 11)))) K f d w=K (A5 f d (v_thn)) w)∧(∀K f d w,B8 prog S (Instr.loadAt 45 (.pointer (some (a.add 12)))) K f d w=K (A5 f d (v_els)) w)):=by
 obtain⟨cs,he,hc⟩:=ha;obtain⟨v_labels,c_x,v_args,v_thn,v_els,rfl,h_labels,h_x,h_args,h_thn,h_els⟩:=cb2 he;obtain⟨a_x0,a_x1,a_x2,a_x3,rfl⟩:=bt7 (z7.len h_x);exact⟨_,_,_,_,h_labels,h_args,h_thn,h_els,bc5 hc h_x (fun j u hj=>by
  match j,hj with
  | 0,hj=>exact hj
  | 1,hj=>exact hj
  | 2,hj=>exact hj
  | 3,hj=>exact hj
  | m+4,hj=>simp at hj),fun w hw=>⟨E0 hc rfl G3 w hw,v8 hc (o:=1) rfl G3 w hw,v8 hc (o:=2) rfl M4 w hw,v8 hc (o:=3) rfl U4 w hw,v8 hc (o:=4) rfl U4 w hw,v8 hc (o:=9) rfl ao9 w hw,v8 hc (o:=10) rfl bN8 w hw,v8 hc (o:=11) rfl au1 w hw,v8 hc (o:=12) rfl au1 w hw⟩,fun S w0 hS hw=>⟨fun K f d w=>A0 hS fun w' hw'=>E0 hc rfl G3 w' (hw w' hw'),fun K f d w=>A0 hS fun w' hw'=>v8 hc (o:=1) rfl G3 w' (hw w' hw'),fun K f d w=>A0 hS fun w' hw'=>v8 hc (o:=2) rfl M4 w' (hw w' hw'),fun K f d w=>A0 hS fun w' hw'=>v8 hc (o:=3) rfl U4 w' (hw w' hw'),fun K f d w=>A0 hS fun w' hw'=>v8 hc (o:=4) rfl U4 w' (hw w' hw'),fun K f d w=>A0 hS fun w' hw'=>v8 hc (o:=9) rfl ao9 w' (hw w' hw'),fun K f d w=>A0 hS fun w' hw'=>v8 hc (o:=10) rfl bN8 w' (hw w' hw'),fun K f d w=>A0 hS fun w' hw'=>v8 hc (o:=11) rfl au1 w' (hw w' hw'),fun K f d w=>A0 hS fun w' hw'=>v8 hc (o:=12) rfl au1 w' (hw w' hw')⟩⟩
theorem L8.st{h k:Hp}{a:Addr}{v:Value}{x:St}(hv:SV h v x)(ha:L8 k a v):∃v_labels u_x v_args v_thn v_els,R h v_labels x.labels∧SV h u_x x.x∧L8 k (a.add 5) u_x∧R h v_args x.args∧R h v_thn x.thn∧R h v_els x.els∧(∀w,B4 k (d7 w)→(Instr.loadAt 3 (.pointer (some a))).run prog w = .ok (.int .i64 x.id) w∧(Instr.loadAt 3 (.pointer (some (a.add 1)))).run prog w = .ok (.int .i64 x.kind) w∧(Instr.loadAt 22 (.pointer (some (a.add 2)))).run prog w = .ok (v_labels) w∧(Instr.loadAt 9 (.pointer (some (a.add 3)))).run prog w = .ok (o7 x.name) w∧(Instr.loadAt 9 (.pointer (some (a.add 4)))).run prog w = .ok (o7 x.proc) w∧(Instr.loadAt 4 (.pointer (some (a.add 9)))).run prog w = .ok (.bool x.has) w∧(Instr.loadAt 44 (.pointer (some (a.add 10)))).run prog w = .ok (v_args) w∧(Instr.loadAt 45 (.pointer (some (a.add 11)))).run prog w = .ok (v_thn) w∧(Instr.loadAt 45 (.pointer (some (a.add 12)))).run prog w = .ok (v_els) w)∧(∀(S:World→Prop) (w0:World),S w0→(∀w,S w→B4 k (d7 w))→(∀K f d w,B8 prog S (Instr.loadAt 3 (.pointer (some a))) K f d w=K (A5 f d (.int .i64 x.id)) w)∧(∀K f d w,B8 prog S (Instr.loadAt 3 (.pointer (some (a.add 1)))) K f d w=K (A5 f d (.int .i64 x.kind)) w)∧(∀K f d w,B8 prog S (Instr.loadAt 22 (.pointer (some (a.add 2)))) K f d w=K (A5 f d (v_labels)) w)∧(∀K f d w,B8 prog S (Instr.loadAt 9 (.pointer (some (a.add 3)))) K f d w=K (A5 f d (o7 x.name)) w)∧(∀K f d w,B8 prog S (Instr.loadAt 9 (.pointer (some (a.add 4)))) K f d w=K (A5 f d (o7 x.proc)) w)∧(∀K f d w,B8 prog S (Instr.loadAt 4 (.pointer (some (a.add 9)))) K f d w=K (A5 f d (.bool x.has)) w)∧(∀K f d w,B8 prog S (Instr.loadAt 44 (.pointer (some (a.add 10)))) K f d w=K (A5 f d (v_args)) w)∧(∀K f d w,B8 prog S (Instr.loadAt 45 (.pointer (some (a.add 11)))) K f d w=K (A5 f d (v_thn)) w)∧(∀K f d w,B8 prog S (Instr.loadAt 45 (.pointer (some (a.add 12)))) K f d w=K (A5 f d (v_els)) w)):=by
 obtain⟨cs,rfl,he⟩:=hv;obtain⟨cs2,e2,hc⟩:=ha;obtain rfl:=ai5 e2;obtain⟨v_labels,c_x,v_args,v_thn,v_els,rfl,h_labels,h_x,h_args,h_thn,h_els⟩:=cb2 he;obtain⟨a_x0,a_x1,a_x2,a_x3,rfl⟩:=bt7 (z7.len h_x);exact⟨_,_,_,_,_,h_labels,⟨_,rfl,h_x⟩,be6 hc (fun j u hj=>by
  match j,hj with
  | 0,hj=>exact hj
  | 1,hj=>exact hj
  | 2,hj=>exact hj
  | 3,hj=>exact hj
  | m+4,hj=>simp at hj),h_args,h_thn,h_els,fun w hw=>⟨E0 hc rfl G3 w hw,v8 hc (o:=1) rfl G3 w hw,v8 hc (o:=2) rfl M4 w hw,v8 hc (o:=3) rfl U4 w hw,v8 hc (o:=4) rfl U4 w hw,v8 hc (o:=9) rfl ao9 w hw,v8 hc (o:=10) rfl bN8 w hw,v8 hc (o:=11) rfl au1 w hw,v8 hc (o:=12) rfl au1 w hw⟩,fun S w0 hS hw=>⟨fun K f d w=>A0 hS fun w' hw'=>E0 hc rfl G3 w' (hw w' hw'),fun K f d w=>A0 hS fun w' hw'=>v8 hc (o:=1) rfl G3 w' (hw w' hw'),fun K f d w=>A0 hS fun w' hw'=>v8 hc (o:=2) rfl M4 w' (hw w' hw'),fun K f d w=>A0 hS fun w' hw'=>v8 hc (o:=3) rfl U4 w' (hw w' hw'),fun K f d w=>A0 hS fun w' hw'=>v8 hc (o:=4) rfl U4 w' (hw w' hw'),fun K f d w=>A0 hS fun w' hw'=>v8 hc (o:=9) rfl ao9 w' (hw w' hw'),fun K f d w=>A0 hS fun w' hw'=>v8 hc (o:=10) rfl bN8 w' (hw w' hw'),fun K f d w=>A0 hS fun w' hw'=>v8 hc (o:=11) rfl au1 w' (hw w' hw'),fun K f d w=>A0 hS fun w' hw'=>v8 hc (o:=12) rfl au1 w' (hw w' hw')⟩⟩
theorem L8.st_v{h k:Hp}{a:Addr}{v:Value}{x:St}(hv:SV h v x)(ha:L8 k a v):(∀w,B4 k (d7 w)→(Instr.loadAt 47 (.pointer (some a))).run prog w = .ok v w)∧(∀(S:World→Prop) (w0:World),S w0→(∀w,S w→B4 k (d7 w))→∀K f d w,B8 prog S (Instr.loadAt 47 (.pointer (some a))) K f d w=K (A5 f d v) w):=ha.whole hv bb0 bb5 aR3 ah0
theorem ca1{h:Hp}{v:Value}{x:St}{w:World}(N:Nat→Prop)(hv:SV h v x)(hN:∀b,N b→b<w.heap.size):∃a w',(Instr.box 47 v).run prog w = .ok (.pointer (some a)) w'∧o6 w w'∧L8 (B5 w' N) a v:=ch4 hv hN
theorem cV4{h:Hp}{v:Value}{x:St}{w:World}(N:Nat→Prop)(hv:SV h v x)(hN:∀b,N b→b<w.heap.size):∃a wz w',(Instr.alloc 47 true (.tuple #[])).run prog w = .ok (.pointer (some a)) wz∧(Instr.storeAt 47 (.pointer (some a)) v).run prog wz = .ok () w'∧o6 w w'∧L8 (B5 w' N) a v:=co3 hv hN cI7 rfl ah0
theorem At.st_v{h:Hp}{a:Addr}{x:St}(ha:At h a x):∃sv,SV h sv x∧(∀w,B4 h (d7 w)→(Instr.loadAt 47 (.pointer (some a))).run prog w = .ok sv w)∧(∀(S:World→Prop) (w0:World),S w0→(∀w,S w→B4 h (d7 w))→∀K f d w,B8 prog S (Instr.loadAt 47 (.pointer (some a))) K f d w=K (A5 f d sv) w):=ha.sv2 bb0 bb5 aR3 ah0
theorem ai6{h:Hp}{v:Value}{x:St}{w:World}(hv:SV h v x)(hw:B4 h (d7 w)):∃a w',(Instr.box 47 v).run prog w = .ok (.pointer (some a)) w'∧o6 w w'∧At (d7 w') a x:=bo2 hv hw
theorem aR8{h:Hp}{v:Value}{x:St}{w:World}(hv:SV h v x)(hw:B4 h (d7 w)):∃a wz w',(Instr.alloc 47 true (.tuple #[])).run prog w = .ok (.pointer (some a)) wz∧(Instr.storeAt 47 (.pointer (some a)) v).run prog wz = .ok () w'∧o6 w w'∧At (d7 w') a x:=bn3 hv hw cI7 rfl ah0
theorem cb1{h:Hp}{cs:List Value}{x:Pr}:z7.enc h cs x→∃v_params v_vars v_body v_fin,cs=([o7 x.name]:List Value)++([v_params]:List Value)++([v_vars]:List Value)++([v_body]:List Value)++([v_fin]:List Value)∧R h v_params x.params∧R h v_vars x.vars∧R h v_body x.body∧R h v_fin x.fin:=by
 rintro⟨v1,v2,v3,v4,rfl,h1,h2,h3,h4⟩;exact⟨v1,v2,v3,v4,rfl,h1,h2,h3,h4⟩
theorem At.pr{h:Hp}{a:Addr}{x:Pr}(ha:At h a x):∃v_params v_vars v_body v_fin,R h v_params x.params∧R h v_vars x.vars∧R h v_body x.body∧R h v_fin x.fin∧(∀w,B4 h (d7 w)→(Instr.loadAt 9 (.pointer (some a))).run prog w = .ok (o7 x.name) w∧(Instr.loadAt 51 (.pointer (some (a.add 1)))).run prog w = .ok (v_params) w∧(Instr.loadAt 22 (.pointer (some (a.add 2)))).run prog w = .ok (v_vars) w∧(Instr.loadAt 45 (.pointer (some (a.add 3)))).run prog w = .ok (v_body) w∧(Instr.loadAt 22 (.pointer (some (a.add 4)))).run prog w = .ok (v_fin) w)∧(∀(S:World→Prop) (w0:World),S w0→(∀w,S w→B4 h (d7 w))→(∀K f d w,B8 prog S (Instr.loadAt 9 (.pointer (some a))) K f d w=K (A5 f d (o7 x.name)) w)∧(∀K f d w,B8 prog S (Instr.loadAt 51 (.pointer (some (a.add 1)))) K f d w=K (A5 f d (v_params)) w)∧(∀K f d w,B8 prog S (Instr.loadAt 22 (.pointer (some (a.add 2)))) K f d w=K (A5 f d (v_vars)) w)∧(∀K f d w,B8 prog S (Instr.loadAt 45 (.pointer (some (a.add 3)))) K f d w=K (A5 f d (v_body)) w)∧(∀K f d w,B8 prog S (Instr.loadAt 22 (.pointer (some (a.add 4)))) K f d w=K (A5 f d (v_fin)) w)):=by
 obtain⟨cs,he,hc⟩:=ha;obtain⟨v_params,v_vars,v_body,v_fin,rfl,h_params,h_vars,h_body,h_fin⟩:=cb1 he;exact⟨_,_,_,_,h_params,h_vars,h_body,h_fin,fun w hw=>⟨E0 hc rfl U4 w hw,v8 hc (o:=1) rfl bN9 w hw,v8 hc (o:=2) rfl M4 w hw,v8 hc (o:=3) rfl au1 w hw,v8 hc (o:=4) rfl M4 w hw⟩,fun S w0 hS hw=>⟨fun K f d w=>A0 hS fun w' hw'=>E0 hc rfl U4 w' (hw w' hw'),fun K f d w=>A0 hS fun w' hw'=>v8 hc (o:=1) rfl bN9 w' (hw w' hw'),fun K f d w=>A0 hS fun w' hw'=>v8 hc (o:=2) rfl M4 w' (hw w' hw'),fun K f d w=>A0 hS fun w' hw'=>v8 hc (o:=3) rfl au1 w' (hw w' hw'),fun K f d w=>A0 hS fun w' hw'=>v8 hc (o:=4) rfl M4 w' (hw w' hw')⟩⟩
theorem L8.pr{h k:Hp}{a:Addr}{v:Value}{x:Pr}(hv:SV h v x)(ha:L8 k a v):∃v_params v_vars v_body v_fin,R h v_params x.params∧R h v_vars x.vars∧R h v_body x.body∧R h v_fin x.fin∧(∀w,B4 k (d7 w)→(Instr.loadAt 9 (.pointer (some a))).run prog w = .ok (o7 x.name) w∧(Instr.loadAt 51 (.pointer (some (a.add 1)))).run prog w = .ok (v_params) w∧(Instr.loadAt 22 (.pointer (some (a.add 2)))).run prog w = .ok (v_vars) w∧(Instr.loadAt 45 (.pointer (some (a.add 3)))).run prog w = .ok (v_body) w∧(Instr.loadAt 22 (.pointer (some (a.add 4)))).run prog w = .ok (v_fin) w)∧(∀(S:World→Prop) (w0:World),S w0→(∀w,S w→B4 k (d7 w))→(∀K f d w,B8 prog S (Instr.loadAt 9 (.pointer (some a))) K f d w=K (A5 f d (o7 x.name)) w)∧(∀K f d w,B8 prog S (Instr.loadAt 51 (.pointer (some (a.add 1)))) K f d w=K (A5 f d (v_params)) w)∧(∀K f d w,B8 prog S (Instr.loadAt 22 (.pointer (some (a.add 2)))) K f d w=K (A5 f d (v_vars)) w)∧(∀K f d w,B8 prog S (Instr.loadAt 45 (.pointer (some (a.add 3)))) K f d w=K (A5 f d (v_body)) w)∧(∀K f d w,B8 prog S (Instr.loadAt 22 (.pointer (some (a.add 4)))) K f d w=K (A5 f d (v_fin)) w)):=by
 obtain⟨cs,rfl,he⟩:=hv;obtain⟨cs2,e2,hc⟩:=ha;obtain rfl:=ai5 e2;obtain⟨v_params,v_vars,v_body,v_fin,rfl,h_params,h_vars,h_body,h_fin⟩:=cb1 he;exact⟨_,_,_,_,h_params,h_vars,h_body,h_fin,fun w hw=>⟨E0 hc rfl U4 w hw,v8 hc (o:=1) rfl bN9 w hw,v8 hc (o:=2) rfl M4 w hw,v8 hc (o:=3) rfl au1 w hw,v8 hc (o:=4) rfl M4 w hw⟩,fun S w0 hS hw=>⟨fun K f d w=>A0 hS fun w' hw'=>E0 hc rfl U4 w' (hw w' hw'),fun K f d w=>A0 hS fun w' hw'=>v8 hc (o:=1) rfl bN9 w' (hw w' hw'),fun K f d w=>A0 hS fun w' hw'=>v8 hc (o:=2) rfl M4 w' (hw w' hw'),fun K f d w=>A0 hS fun w' hw'=>v8 hc (o:=3) rfl au1 w' (hw w' hw'),fun K f d w=>A0 hS fun w' hw'=>v8 hc (o:=4) rfl M4 w' (hw w' hw')⟩⟩
theorem L8.pr_v{h k:Hp}{a:Addr}{v:Value}{x:Pr}(hv:SV h v x)(ha:L8 k a v):(∀w,B4 k (d7 w)→(Instr.loadAt 53 (.pointer (some a))).run prog w = .ok v w)∧(∀(S:World→Prop) (w0:World),S w0→(∀w,S w→B4 k (d7 w))→∀K f d w,B8 prog S (Instr.loadAt 53 (.pointer (some a))) K f d w=K (A5 f d v) w):=ha.whole hv ao0 ao4 ao1 O1
theorem cL5{h:Hp}{v:Value}{x:Pr}{w:World}(N:Nat→Prop)(hv:SV h v x)(hN:∀b,N b→b<w.heap.size):∃a w',(Instr.box 53 v).run prog w = .ok (.pointer (some a)) w'∧o6 w w'∧L8 (B5 w' N) a v:=ch4 hv hN
theorem aR9{h:Hp}{v:Value}{x:Pr}{w:World}(N:Nat→Prop)(hv:SV h v x)(hN:∀b,N b→b<w.heap.size):∃a wz w',(Instr.alloc 53 true (.tuple #[])).run prog w = .ok (.pointer (some a)) wz∧(Instr.storeAt 53 (.pointer (some a)) v).run prog wz = .ok () w'∧o6 w w'∧L8 (B5 w' N) a v:=co3 hv hN cI8 rfl O1
theorem bc8{h:Hp}{v:Value}{x:Pr}{w:World}(hv:SV h v x)(hw:B4 h (d7 w)):∃a w',(Instr.box 53 v).run prog w = .ok (.pointer (some a)) w'∧o6 w w'∧At (d7 w') a x:=bo2 hv hw
theorem aG7{h:Hp}{v:Value}{x:Pr}{w:World}(hv:SV h v x)(hw:B4 h (d7 w)):∃a wz w',(Instr.alloc 53 true (.tuple #[])).run prog w = .ok (.pointer (some a)) wz∧(Instr.storeAt 53 (.pointer (some a)) v).run prog wz = .ok () w'∧o6 w w'∧At (d7 w') a x:=bn3 hv hw cI8 rfl O1
theorem bz1{h:Hp}{cs:List Value}{x:Pg}:z7.enc h cs x→∃v_globals v_procs,cs=([v_globals]:List Value)++([v_procs]:List Value)∧R h v_globals x.globals∧R h v_procs x.procs:=by
 rintro⟨v1,v2,rfl,h1,h2⟩;exact⟨v1,v2,rfl,h1,h2⟩
theorem At.pg{h:Hp}{a:Addr}{x:Pg}(ha:At h a x):∃v_globals v_procs,R h v_globals x.globals∧R h v_procs x.procs∧(∀w,B4 h (d7 w)→(Instr.loadAt 22 (.pointer (some a))).run prog w = .ok (v_globals) w∧(Instr.loadAt 23 (.pointer (some (a.add 1)))).run prog w = .ok (v_procs) w)∧(∀(S:World→Prop) (w0:World),S w0→(∀w,S w→B4 h (d7 w))→(∀K f d w,B8 prog S (Instr.loadAt 22 (.pointer (some a))) K f d w=K (A5 f d (v_globals)) w)∧(∀K f d w,B8 prog S (Instr.loadAt 23 (.pointer (some (a.add 1)))) K f d w=K (A5 f d (v_procs)) w)):=by
 obtain⟨cs,he,hc⟩:=ha;obtain⟨v_globals,v_procs,rfl,h_globals,h_procs⟩:=bz1 he;exact⟨_,_,h_globals,h_procs,fun w hw=>⟨E0 hc rfl M4 w hw,v8 hc (o:=1) rfl bw0 w hw⟩,fun S w0 hS hw=>⟨fun K f d w=>A0 hS fun w' hw'=>E0 hc rfl M4 w' (hw w' hw'),fun K f d w=>A0 hS fun w' hw'=>v8 hc (o:=1) rfl bw0 w' (hw w' hw')⟩⟩
theorem L8.pg{h k:Hp}{a:Addr}{v:Value}{x:Pg}(hv:SV h v x)(ha:L8 k a v):∃v_globals v_procs,R h v_globals x.globals∧R h v_procs x.procs∧(∀w,B4 k (d7 w)→(Instr.loadAt 22 (.pointer (some a))).run prog w = .ok (v_globals) w∧(Instr.loadAt 23 (.pointer (some (a.add 1)))).run prog w = .ok (v_procs) w)∧(∀(S:World→Prop) (w0:World),S w0→(∀w,S w→B4 k (d7 w))→(∀K f d w,B8 prog S (Instr.loadAt 22 (.pointer (some a))) K f d w=K (A5 f d (v_globals)) w)∧(∀K f d w,B8 prog S (Instr.loadAt 23 (.pointer (some (a.add 1)))) K f d w=K (A5 f d (v_procs)) w)):=by
 obtain⟨cs,rfl,he⟩:=hv;obtain⟨cs2,e2,hc⟩:=ha;obtain rfl:=ai5 e2;obtain⟨v_globals,v_procs,rfl,h_globals,h_procs⟩:=bz1 he;exact⟨_,_,h_globals,h_procs,fun w hw=>⟨E0 hc rfl M4 w hw,v8 hc (o:=1) rfl bw0 w hw⟩,fun S w0 hS hw=>⟨fun K f d w=>A0 hS fun w' hw'=>E0 hc rfl M4 w' (hw w' hw'),fun K f d w=>A0 hS fun w' hw'=>v8 hc (o:=1) rfl bw0 w' (hw w' hw')⟩⟩
theorem L8.pg_v{h k:Hp}{a:Addr}{v:Value}{x:Pg}(hv:SV h v x)(ha:L8 k a v):(∀w,B4 k (d7 w)→(Instr.loadAt 25 (.pointer (some a))).run prog w = .ok v w)∧(∀(S:World→Prop) (w0:World),S w0→(∀w,S w→B4 k (d7 w))→∀K f d w,B8 prog S (Instr.loadAt 25 (.pointer (some a))) K f d w=K (A5 f d v) w):=ha.whole hv ce3 ce8 ce5 bw3
theorem ab7{h:Hp}{v:Value}{x:Pg}{w:World}(N:Nat→Prop)(hv:SV h v x)(hN:∀b,N b→b<w.heap.size):∃a w',(Instr.box 25 v).run prog w = .ok (.pointer (some a)) w'∧o6 w w'∧L8 (B5 w' N) a v:=ch4 hv hN
theorem At.pg_v{h:Hp}{a:Addr}{x:Pg}(ha:At h a x):∃sv,SV h sv x∧(∀w,B4 h (d7 w)→(Instr.loadAt 25 (.pointer (some a))).run prog w = .ok sv w)∧(∀(S:World→Prop) (w0:World),S w0→(∀w,S w→B4 h (d7 w))→∀K f d w,B8 prog S (Instr.loadAt 25 (.pointer (some a))) K f d w=K (A5 f d sv) w):=ha.sv2 ce3 ce8 ce5 bw3
theorem U0{h:Hp}{v:Value}{x:Pg}{w:World}(hv:SV h v x)(hw:B4 h (d7 w)):∃a w',(Instr.box 25 v).run prog w = .ok (.pointer (some a)) w'∧o6 w w'∧At (d7 w') a x:=bo2 hv hw
theorem cV1{h:Hp}{v:Value}{x:Pg}{w:World}(hv:SV h v x)(hw:B4 h (d7 w)):∃a wz w',(Instr.alloc 25 true (.tuple #[])).run prog w = .ok (.pointer (some a)) wz∧(Instr.storeAt 25 (.pointer (some a)) v).run prog wz = .ok () w'∧o6 w w'∧At (d7 w') a x:=bn3 hv hw da1 rfl bw3
theorem aE5{h:Hp}{cs:List Value}{x:It}:z7.enc h cs x→∃c_s,cs=c_s++([.int .i64 x.proc]:List Value)++([.int .i64 x.up]:List Value)++([.int .i64 x.next]:List Value)++([.int .i64 x.loop]:List Value)∧z7.enc h c_s x.s:=by
 rintro⟨c,rfl,h1⟩;exact⟨c,by simp,h1⟩
theorem At.it{h:Hp}{a:Addr}{x:It}(ha:At h a x):At h a x.s∧(∀w,B4 h (d7 w)→(Instr.loadAt 3 (.pointer (some (a.add 13)))).run prog w = .ok (.int .i64 x.proc) w∧(Instr.loadAt 3 (.pointer (some (a.add 14)))).run prog w = .ok (.int .i64 x.up) w∧(Instr.loadAt 3 (.pointer (some (a.add 15)))).run prog w = .ok (.int .i64 x.next) w∧(Instr.loadAt 3 (.pointer (some (a.add 16)))).run prog w = .ok (.int .i64 x.loop) w)∧(∀(S:World→Prop) (w0:World),S w0→(∀w,S w→B4 h (d7 w))→(∀K f d w,B8 prog S (Instr.loadAt 3 (.pointer (some (a.add 13)))) K f d w=K (A5 f d (.int .i64 x.proc)) w)∧(∀K f d w,B8 prog S (Instr.loadAt 3 (.pointer (some (a.add 14)))) K f d w=K (A5 f d (.int .i64 x.up)) w)∧(∀K f d w,B8 prog S (Instr.loadAt 3 (.pointer (some (a.add 15)))) K f d w=K (A5 f d (.int .i64 x.next)) w)∧(∀K f d w,B8 prog S (Instr.loadAt 3 (.pointer (some (a.add 16)))) K f d w=K (A5 f d (.int .i64 x.loop)) w)):=by
 obtain⟨cs,he,hc⟩:=ha;obtain⟨c_s,rfl,h_s⟩:=aE5 he;obtain⟨a_s0,a_s1,a_s2,a_s3,a_s4,a_s5,a_s6,a_s7,a_s8,a_s9,a_s10,a_s11,a_s12,rfl⟩:=bi7 (z7.len h_s);exact⟨be7 hc h_s (fun j u hj=>by
  match j,hj with
  | 0,hj=>exact hj
  | 1,hj=>exact hj
  | 2,hj=>exact hj
  | 3,hj=>exact hj
  | 4,hj=>exact hj
  | 5,hj=>exact hj
  | 6,hj=>exact hj
  | 7,hj=>exact hj
  | 8,hj=>exact hj
  | 9,hj=>exact hj
  | 10,hj=>exact hj
  | 11,hj=>exact hj
  | 12,hj=>exact hj
  | m+13,hj=>simp at hj),fun w hw=>⟨v8 hc (o:=13) rfl G3 w hw,v8 hc (o:=14) rfl G3 w hw,v8 hc (o:=15) rfl G3 w hw,v8 hc (o:=16) rfl G3 w hw⟩,fun S w0 hS hw=>⟨fun K f d w=>A0 hS fun w' hw'=>v8 hc (o:=13) rfl G3 w' (hw w' hw'),fun K f d w=>A0 hS fun w' hw'=>v8 hc (o:=14) rfl G3 w' (hw w' hw'),fun K f d w=>A0 hS fun w' hw'=>v8 hc (o:=15) rfl G3 w' (hw w' hw'),fun K f d w=>A0 hS fun w' hw'=>v8 hc (o:=16) rfl G3 w' (hw w' hw')⟩⟩
theorem L8.it{h k:Hp}{a:Addr}{v:Value}{x:It}(hv:SV h v x)(ha:L8 k a v):∃u_s,SV h u_s x.s∧L8 k a u_s∧(∀w,B4 k (d7 w)→(Instr.loadAt 3 (.pointer (some (a.add 13)))).run prog w = .ok (.int .i64 x.proc) w∧(Instr.loadAt 3 (.pointer (some (a.add 14)))).run prog w = .ok (.int .i64 x.up) w∧(Instr.loadAt 3 (.pointer (some (a.add 15)))).run prog w = .ok (.int .i64 x.next) w∧(Instr.loadAt 3 (.pointer (some (a.add 16)))).run prog w = .ok (.int .i64 x.loop) w)∧(∀(S:World→Prop) (w0:World),S w0→(∀w,S w→B4 k (d7 w))→(∀K f d w,B8 prog S (Instr.loadAt 3 (.pointer (some (a.add 13)))) K f d w=K (A5 f d (.int .i64 x.proc)) w)∧(∀K f d w,B8 prog S (Instr.loadAt 3 (.pointer (some (a.add 14)))) K f d w=K (A5 f d (.int .i64 x.up)) w)∧(∀K f d w,B8 prog S (Instr.loadAt 3 (.pointer (some (a.add 15)))) K f d w=K (A5 f d (.int .i64 x.next)) w)∧(∀K f d w,B8 prog S (Instr.loadAt 3 (.pointer (some (a.add 16)))) K f d w=K (A5 f d (.int .i64 x.loop)) w)):=by
 obtain⟨cs,rfl,he⟩:=hv;obtain⟨cs2,e2,hc⟩:=ha;obtain rfl:=ai5 e2;obtain⟨c_s,rfl,h_s⟩:=aE5 he;obtain⟨a_s0,a_s1,a_s2,a_s3,a_s4,a_s5,a_s6,a_s7,a_s8,a_s9,a_s10,a_s11,a_s12,rfl⟩:=bi7 (z7.len h_s);exact⟨_,⟨_,rfl,h_s⟩,ch1 hc (fun j u hj=>by
  match j,hj with
  | 0,hj=>exact hj
  | 1,hj=>exact hj
  | 2,hj=>exact hj
  | 3,hj=>exact hj
  | 4,hj=>exact hj
  | 5,hj=>exact hj
  | 6,hj=>exact hj
  | 7,hj=>exact hj
  | 8,hj=>exact hj
  | 9,hj=>exact hj
  | 10,hj=>exact hj
  | 11,hj=>exact hj
  | 12,hj=>exact hj
  | m+13,hj=>simp at hj),fun w hw=>⟨v8 hc (o:=13) rfl G3 w hw,v8 hc (o:=14) rfl G3 w hw,v8 hc (o:=15) rfl G3 w hw,v8 hc (o:=16) rfl G3 w hw⟩,fun S w0 hS hw=>⟨fun K f d w=>A0 hS fun w' hw'=>v8 hc (o:=13) rfl G3 w' (hw w' hw'),fun K f d w=>A0 hS fun w' hw'=>v8 hc (o:=14) rfl G3 w' (hw w' hw'),fun K f d w=>A0 hS fun w' hw'=>v8 hc (o:=15) rfl G3 w' (hw w' hw'),fun K f d w=>A0 hS fun w' hw'=>v8 hc (o:=16) rfl G3 w' (hw w' hw')⟩⟩
theorem L8.it_v{h k:Hp}{a:Addr}{v:Value}{x:It}(hv:SV h v x)(ha:L8 k a v):(∀w,B4 k (d7 w)→(Instr.loadAt 127 (.pointer (some a))).run prog w = .ok v w)∧(∀(S:World→Prop) (w0:World),S w0→(∀w,S w→B4 k (d7 w))→∀K f d w,B8 prog S (Instr.loadAt 127 (.pointer (some a))) K f d w=K (A5 f d v) w):=ha.whole hv X9 Y1 Y0 I9
theorem cL4{h:Hp}{v:Value}{x:It}{w:World}(N:Nat→Prop)(hv:SV h v x)(hN:∀b,N b→b<w.heap.size):∃a w',(Instr.box 127 v).run prog w = .ok (.pointer (some a)) w'∧o6 w w'∧L8 (B5 w' N) a v:=ch4 hv hN
theorem aG8{h:Hp}{v:Value}{x:It}{w:World}(N:Nat→Prop)(hv:SV h v x)(hN:∀b,N b→b<w.heap.size):∃a wz w',(Instr.alloc 127 true (.tuple #[])).run prog w = .ok (.pointer (some a)) wz∧(Instr.storeAt 127 (.pointer (some a)) v).run prog wz = .ok () w'∧o6 w w'∧L8 (B5 w' N) a v:=co3 hv hN bY1 rfl I9
theorem bZ8{h:Hp}{v:Value}{x:It}{w:World}(hv:SV h v x)(hw:B4 h (d7 w)):∃a w',(Instr.box 127 v).run prog w = .ok (.pointer (some a)) w'∧o6 w w'∧At (d7 w') a x:=bo2 hv hw
theorem ax8{h:Hp}{v:Value}{x:It}{w:World}(hv:SV h v x)(hw:B4 h (d7 w)):∃a wz w',(Instr.alloc 127 true (.tuple #[])).run prog w = .ok (.pointer (some a)) wz∧(Instr.storeAt 127 (.pointer (some a)) v).run prog wz = .ok () w'∧o6 w w'∧At (d7 w') a x:=bn3 hv hw bY1 rfl I9
theorem cN0{h:Hp}{cs:List Value}{x:Sh}:z7.enc h cs x→∃c_p v_l v_lo v_hi,cs=c_p++([v_l]:List Value)++([v_lo]:List Value)++([v_hi]:List Value)∧z7.enc h c_p x.p∧R h v_l x.l∧R h v_lo x.lo∧R h v_hi x.hi:=by
 rintro⟨c,v1,v2,v3,rfl,h1,h2,h3,h4⟩;exact⟨c,v1,v2,v3,by simp,h1,h2,h3,h4⟩
theorem At.sh{h:Hp}{a:Addr}{x:Sh}(ha:At h a x):∃v_l v_lo v_hi,R h v_l x.l∧R h v_lo x.lo∧R h v_hi x.hi∧At h a x.p∧(∀w,B4 h (d7 w)→(Instr.loadAt 117 (.pointer (some (a.add 2)))).run prog w = .ok (v_l) w∧(Instr.loadAt 118 (.pointer (some (a.add 3)))).run prog w = .ok (v_lo) w∧(Instr.loadAt 118 (.pointer (some (a.add 4)))).run prog w = .ok (v_hi) w)∧(∀(S:World→Prop) (w0:World),S w0→(∀w,S w→B4 h (d7 w))→(∀K f d w,B8 prog S (Instr.loadAt 117 (.pointer (some (a.add 2)))) K f d w=K (A5 f d (v_l)) w)∧(∀K f d w,B8 prog S (Instr.loadAt 118 (.pointer (some (a.add 3)))) K f d w=K (A5 f d (v_lo)) w)∧(∀K f d w,B8 prog S (Instr.loadAt 118 (.pointer (some (a.add 4)))) K f d w=K (A5 f d (v_hi)) w)):=by
 obtain⟨cs,he,hc⟩:=ha;obtain⟨c_p,v_l,v_lo,v_hi,rfl,h_p,h_l,h_lo,h_hi⟩:=cN0 he;obtain⟨a_p0,a_p1,rfl⟩:=dF5 (z7.len h_p);exact⟨_,_,_,h_l,h_lo,h_hi,be7 hc h_p (fun j u hj=>by
  match j,hj with
  | 0,hj=>exact hj
  | 1,hj=>exact hj
  | m+2,hj=>simp at hj),fun w hw=>⟨v8 hc (o:=2) rfl aL9 w hw,v8 hc (o:=3) rfl O6 w hw,v8 hc (o:=4) rfl O6 w hw⟩,fun S w0 hS hw=>⟨fun K f d w=>A0 hS fun w' hw'=>v8 hc (o:=2) rfl aL9 w' (hw w' hw'),fun K f d w=>A0 hS fun w' hw'=>v8 hc (o:=3) rfl O6 w' (hw w' hw'),fun K f d w=>A0 hS fun w' hw'=>v8 hc (o:=4) rfl O6 w' (hw w' hw')⟩⟩
section
variable {P:Program} {w:World} {h:Hp} {t T sz by_:Nat} {v:Value}
theorem an1{α:Type}[z7 α]{e:TypeId}(hs:F2 P t T sz by_=true)(hsz:z7.sz α=sz){xs ys:List α}(ho:A9 h w T v xs){u:Value}(hu:R h u ys)
  (hl:xs.length+ys.length≤1000000000000) (hb:(xs.length+ys.length)*by_≤140737488355328) (hw:B4 h (d7 w)) :
  ∃v' w',(Builtin.append_ #[t,t] e #[v,u]).run P w = .ok v' w'∧A9 h w' T v' (xs++ys)∧o9 (A3 v) w w'∧F1 w v v':=by
 obtain⟨h1,⟨z,hz,hzs⟩,h3,h4,h5,h6⟩:=P5 hs;obtain⟨i,hi,hiz⟩:=t8 hz;have hby:i.bytes=by_:=by rw[←h4,ar9 hi]
 have hsi:i.size=sz:=by rw[←h3,C7 hi]
 obtain⟨a,n,c,he,hn,hnc,es,hes,hce⟩:=hu;simp at he;subst he;have ht:=K8 h1;by_cases hy:ys=[]
 ·subst hy;refine⟨v,w,?_,by simpa using ho,o9.refl _,fun b hb=>.inl hb⟩;have hn0:n=0:=by simpa using hn
  subst hn0;rcases ho with⟨rfl,rfl⟩|⟨b,c',cur,rfl,k1,k2,k3,k4,k5,k6⟩
  ·cases a<;>simp[Builtin.append_,run_underlying ht,sizeOf,typeInfo,hi,Builtin.lenOf,Builtin.firstCells,loadCells,loadCellsFrom]
  ·cases a<;>simp[Builtin.append_,run_underlying ht,sizeOf,typeInfo,hi,Builtin.lenOf,Builtin.firstCells,loadCells,loadCellsFrom,k3,storeCells]
 ·have hne:es≠[]:=by
   intro e;have:=J7 hes;rw[e]at this;have hp:0<ys.length:=List.length_pos_iff.2 hy;have:=z7.pos (α:=α);have:=Nat.mul_pos hp this;simp at *;omega
  obtain⟨x0,hx0⟩:∃x0,es[0]?=some x0:=by
   cases es with
   | nil=>exact absurd rfl hne
   | cons x _=>exact⟨x,rfl⟩
  obtain⟨ad,rfl,_⟩:=hce 0 x0 hx0;exact aK9 (e:=e) ht hi hiz (by rw[hsi,hsz]) (by rw[hzs,hsi]) ho (ad:=ad) hn hes (fun j u hj=>by
   obtain⟨ad',e',hc⟩:=hce j u hj;obtain rfl:=ex1 e';exact F9 hw hc) hy (by simp only[maxLen];omega) (by rw[hby];exact hb) hw
theorem dF6{α:Type}[z7 α](hs:F2 P t T sz by_=true)(hw:B4 h (d7 w)):
  ∃v w',(Instr.buildSlice t 0 #[]).run P w = .ok v w'∧A9 h w' T v ([]:List α)∧o6 w w'∧(∀b,A3 v b→w.heap.size≤b):=by
 obtain⟨h1,⟨z,hz,hzs⟩,h3,h4,h5,h6⟩:=P5 hs;obtain⟨i,hi,hiz⟩:=t8 hz;refine⟨.slice (some ⟨w.heap.size,0,none⟩) 0 0,w.alloc (.cells #[] T),?_,.inr ⟨w.heap.size,0,#[],rfl,av4 hw (ew8 _),ez5 w _,by simp,by simp,by simp,by simp[N0]⟩,o6.alloc _ _,fun b hb=>by simp[A3,Value.ownBlock]at hb;omega⟩;unfold Instr.buildSlice;simp only[ex6,F5,K8 h1,ew9,N4 (show(P.info? T).isSome=true by rw[hi];rfl),Sem.run_ite,Nat.zero_mul,ey9];rw[if_neg (by decide),if_pos trivial];have e0:∀(g:Nat→Value),(Array.range 0).map g=#[]:=fun g=>by simp
 simp only[e0,Instr.fill];rfl
end
section
variable {P:Program} {h k:Hp} {w:World} {t T sz by_:Nat} {v u:Value}
theorem ag8{α:Type}[G7 α]{e:TypeId}(hs:F2 P t T 1 by_=true){xs ys:List α}(ho:A9 h w T v xs)(hu:R k u ys)(hk:B4 k (d7 w))(h63:xs.length+ys.length≤1000000000000)(hb:(xs.length+ys.length)*by_≤140737488355328)(hw:B4 h (d7 w)):
  ∃v' w',(Builtin.append_ #[t,t] e #[v,u]).run P w = .ok v' w'∧A9 h w' T v' (xs++ys)∧o9 (A3 v) w w'∧F1 w v v':=by
 obtain⟨h1,⟨z,hz,hzs⟩,h3,h4,h5,h6⟩:=P5 hs;obtain⟨i,hi,hiz⟩:=t8 hz;have hby:i.bytes=by_:=by rw[←h4,ar9 hi]
 have hsi:i.size=1:=by rw[←h3,C7 hi]
 by_cases hy:ys=[]
 ·subst hy;obtain⟨a,n,c,he,hn,hnc,es,hes,hce⟩:=hu;have hu':R h u ([]:List α):=⟨a,n,c,he,hn,hnc,[],rfl,fun j u hj=>by simp at hj⟩;exact an1 hs rfl ho hu' h63 hb hw
 ·obtain⟨a,n,c,he,hn,hnc,es,hes,hce⟩:=hu;simp at he;subst he;have hne:es≠[]:=by
   intro e;have:=J7 hes;rw[e]at this;have hp:0<ys.length:=List.length_pos_iff.2 hy;have h7:(z7.sz α)=1:=rfl;rw[h7]at this;simp at this;omega
  obtain⟨x0,hx0⟩:∃x0,es[0]?=some x0:=by
   cases es with
   | nil=>exact absurd rfl hne
   | cons x _=>exact⟨x,rfl⟩
  obtain⟨ad,rfl,_⟩:=hce 0 x0 hx0;exact aK9 (e:=e) (K8 h1) hi hiz (by rw[hsi];rfl) (by rw[hzs,hsi]) ho (ad:=ad) hn (aT2 hes) (fun j u hj=>by
   obtain⟨ad',e',hc⟩:=hce j u hj;obtain rfl:=ex1 e';exact F9 hk hc) hy (by simp only[maxLen];omega) (by rw[hby];exact hb) hw
end
section
variable {P:Program} {K:Fr→World→Prop} {f:Fr} {w:World} {d:Option Nat} {ty:TypeId} {pos:String} {aft:Array Edge} {S:World→Prop}
def be9(P:Program)(g:Value)(args:List Value)(w:World)(K:Fr→World→Prop)(f:Fr)(d:Option Nat):Prop:=match g with
 | .func (.func k) first cap=>ar2 P k (first.toList++args++cap.toList) w K f d
 | _=>False
theorem dD6{k:Nat}{first cap:Array Value}{args:List Value}:be9 P (.func (.func k) first cap) args w K f d=ar2 P k (first.toList++args++cap.toList) w K f d:=propext eC0
theorem dG5{j:Nat}{asz:Array Operand}{ts:Array TypeId}:B0 P none ⟨d,.call {callee:=.value (.tmp j),args:=asz,argTypes:=ts},ty,pos,aft,none⟩ K f w=be9 P (f j) (asz.toList.map (ev f)) w K f d:=by
 simp only[B0,ap9,X6,bc0,ev,aI1,be9]
 all_goals (generalize f j=g;cases g<;>try rfl)
theorem dG2{j:Nat}{asz:Array Operand}{ts:Array TypeId}:B0 P (some S) ⟨d,.call {callee:=.value (.tmp j),args:=asz,argTypes:=ts},ty,pos,aft,none⟩ K f w=be9 P (f j) (asz.toList.map (ev f)) w (F7 S K) f d:=by
 simp only[B0,ap9,X6,bc0,ev,aI1,be9]
 all_goals (generalize f j=g;cases g<;>try rfl)
end
theorem dD9{P:Program}{b d:Code}{Q:Exit→Fr→World→Prop}{f:Fr}{w:World}(keep:List Nat)(I:Fr→World→Prop)(hkp:keep.all (fun i=>!(wrC b).contains i)=true)
  (h1:CW P b (ab3 I Q) f w) (h2:∀f' w',(∀i∈keep,f' i=f i)→I f' w'→CW P d Q f' w'):CW P (.seq b d) Q f w:=by
 rw[bd8];refine co9 b (ab3 I Q) _ f w (fun e f' w' hf h=>?_) h1;have hk':∀i∈keep,f' i=f i:=fun i hi=>hf i fun hm=>by
  have:=eE2.1 hkp i hi;simp[hm]at this
 cases e
 case normal=>exact h2 f' w' hk' h
 all_goals exact h
def av7(c:UInt8):Bool:=decide (97≤c.toNat)&&decide (c.toNat≤122)
def by9(c:UInt8):Bool:=decide (48≤c.toNat)&&decide (c.toNat≤57)
def Z3(c:UInt8):Bool:=av7 c||by9 c
def bY5:List A4:=[ofA #[103,108,111,98,97,108],ofA #[112,114,111,99],ofA #[118,97,114],ofA #[114,101,102],ofA #[105,102],ofA #[101,108,115,101],ofA #[119,104,105,108,101],ofA #[98,114,101,97,107],ofA #[99,111,110,116,105,110,117,101],ofA #[114,101,116,117,114,110],ofA #[103,111,116,111],ofA #[114,101,97,100],ofA #[112,114,105,110,116]]
def bO7(s:A4):Bool:=bY5.contains s
def N9(s:A4):Bool:=match s.b with
 | []=>false
 | c::l=>decide (l.length<8)&&av7 c&&l.all Z3 && !bO7 s
def Z9(l:List A4):Bool:=l.all N9
def as5(op:Int):Int:=if op=1∨op=2 then 0 else if op=3∨op=4 then 1 else if 5≤op∧op≤17 then 2 else -1
def W7:Nat→Ex→Bool
 | 0,_=>false
 | n+1,x=>if(x.kids.length:Int)≠as5 x.op then false
   else if x.op=1 then decide (0≤x.n)&&decide (x.name=e0)
   else if x.op=2 then decide (x.n=0)&&N9 x.name
   else if x.n≠0∨x.name≠e0 then false
   else x.kids.all (W7 n)
def cz9(x:Ex):Bool:=decide (x.op=0)&&decide (x.n=0)&&decide (x.name=e0)&&decide (x.kids.length=0)
def U8(s:A4)(b:Bool):Bool:=(b&&N9 s)||(!b&&decide (s=e0))
def af2(x:Ex)(b:Bool):Bool:=(b&&W7 20 x)||(!b&&cz9 x)
def aE8(l:List Ar):Bool:=l.all fun a=>U8 a.name a.ref&&af2 a.x (!a.ref)
structure Fl where
 name:Bool
 proc:Bool
 x:Bool
 has:Bool
 thn:Bool
 els:Bool
def U1(s:St):Option Fl:=
 if s.kind=1 then some ⟨true,false,true,s.has,false,false⟩
 else if s.kind=2∨s.kind=10 then some ⟨true,false,false,s.has,false,false⟩
 else if s.kind=3 then some ⟨false,false,true,s.has,false,false⟩
 else if s.kind=4 then some ⟨decide (s.name≠e0),true,false,s.has,false,false⟩
 else if s.kind=5 then some ⟨false,false,true,s.has,true,true⟩
 else if s.kind=6 then some ⟨false,false,true,s.has,true,false⟩
 else if s.kind=9 then some ⟨false,false,s.has,false,false,false⟩
 else if s.kind=7∨s.kind=8 then some ⟨false,false,false,s.has,false,false⟩
 else none
def R8(s:St):Bool:=match U1 s with
 | none=>false
 | some k=>!(k.has||(!k.thn&&decide (0<s.thn.length))||(!k.els&&decide (0<s.els.length))||(!decide (s.kind=4)&&decide (0<s.args.length))) &&
   U8 s.name k.name&&U8 s.proc k.proc&&af2 s.x k.x&&aE8 s.args
def I5:Nat→List St→Int→Option Int
 | 0,l,n=>if l.length=0 then some n else none
 | d+1,l,n=>l.foldlM (fun n s=>if n+1>200∨s.id≠n+1∨Z9 s.labels=false∨R8 s=false then none else(I5 d s.thn (n+1)).bind fun m=>I5 d s.els m) n
def S6(f:Pr)(n:Int):Option Int:=
 if f.params.length>8∨f.vars.length>16∨N9 f.name=false∨Z9 f.vars=false∨Z9 f.fin=false∨(f.params.all fun a=>N9 a.name)=false then none else I5 12 f.body n
def N1(p:Pg):Bool:=decide (p.globals.length≤16)&&decide (p.procs.length≤16)&&Z9 p.globals&&(p.procs.foldlM (fun n f=>S6 f n) 0).isSome
mutual
def af5:Ex→List A4→List A4
 | .mk op _ name kids,out=>aj1 kids (if op=2∧out.contains name=false then out++[name]else out)
def aj1:List Ex→List A4→List A4
 | [],out=>out
 | x::xs,out=>aj1 xs (af5 x out)
end
def aa0(x:Ex):List A4:=if W7 20 x then af5 x []else[]
mutual
def Y6:St→Nat
 | .mk _ _ _ _ _ _ _ _ thn els=>1+A7 thn+A7 els
def A7:List St→Nat
 | []=>0
 | t::l=>Y6 t+A7 l
end
theorem at8(t:St):Y6 t=1+A7 t.thn+A7 t.els:=by
 cases t;simp only[Y6,St.thn,St.els]
theorem bv6(t:St):0<Y6 t:=by rw[at8];omega
theorem bR1:∀{l:List St} {t:St},t∈l→Y6 t≤A7 l
 | s::l,t,h=>by
  rw[A7];rcases ex3.1 h with rfl|h
  ·omega
  ·have:=bR1 h;omega
theorem aK1:∀(l m:List St),A7 (l++m)=A7 l+A7 m
 | [],m=>by simp[A7]
 | s::l,m=>by rw[eG2,A7,A7,aK1 l m];omega
theorem R6:∀(l:List St),l.length≤A7 l
 | []=>by simp
 | s::l=>by have:=R6 l;have:=bv6 s;rw[A7,ex7];omega
def wtT(s:A4):Nat:=1+s.b.length
def au3:List A4→Nat
 | []=>0
 | s::l=>wtT s+au3 l
mutual
def R2:Ex→Nat
 | .mk _ _ name kids=>wtT name+ao6 kids
def ao6:List Ex→Nat
 | []=>0
 | x::l=>R2 x+ao6 l
end
def ah5(a:Ar):Nat:=R2 a.x+wtT a.name
def Y7:List Ar→Nat
 | []=>0
 | a::l=>ah5 a+Y7 l
mutual
def O5:St→Nat
 | .mk _ _ labels name proc x _ args thn els=>R2 x+au3 labels+wtT name+wtT proc+Y7 args+G6 thn+G6 els
def G6:List St→Nat
 | []=>0
 | x::l=>O5 x+G6 l
end
def bn8:List Pa→Nat
 | []=>0
 | a::l=>wtT a.name+bn8 l
def T8(f:Pr):Nat:=wtT f.name+au3 f.vars+au3 f.fin+bn8 f.params+G6 f.body
def az2:List Pr→Nat
 | []=>0
 | f::l=>T8 f+az2 l
def C8(p:Pg):Nat:=au3 p.globals+az2 p.procs
theorem S8:∀(l:List A4),l.length≤au3 l
 | []=>by simp[au3]
 | s::l=>by have:=S8 l;simp only[au3,wtT,ex7];omega
theorem aD8(x:Ex):1≤R2 x:=by cases x;simp only[R2,wtT];omega
theorem bw9:∀(l:List Ex),l.length≤ao6 l
 | []=>by simp[ao6]
 | s::l=>by have:=bw9 l;have:=aD8 s;simp only[ao6,ex7];omega
theorem aW6:∀{l:List Ex} {s:Ex},s∈l→R2 s≤ao6 l
 | t::l,s,h=>by
  simp only[ao6];rcases ex3.1 h with rfl|h
  ·omega
  ·have:=aW6 h;omega
theorem bD5(x:Ex):R2 x=wtT x.name+ao6 x.kids:=by cases x;simp only[R2,Ex.name,Ex.kids]
theorem al1:∀(l:List Ar),l.length≤Y7 l
 | []=>by simp[Y7]
 | s::l=>by have:=al1 l;have:=aD8 s.x;simp only[Y7,ah5,ex7];omega
theorem aG9:∀{l:List Ar} {s:Ar},s∈l→ah5 s≤Y7 l
 | t::l,s,h=>by
  simp only[Y7];rcases ex3.1 h with rfl|h
  ·omega
  ·have:=aG9 h;omega
theorem P8(s:St):O5 s=R2 s.x+au3 s.labels+wtT s.name+wtT s.proc+Y7 s.args+G6 s.thn+G6 s.els:=by
 cases s;simp only[O5,St.x,St.labels,St.name,St.proc,St.args,St.thn,St.els]
theorem bO8(s:St):3≤O5 s:=by rw[P8];have:=aD8 s.x;simp only[wtT];omega
theorem bx4:∀(l:List St),3*l.length≤G6 l
 | []=>by simp[G6]
 | s::l=>by have:=bx4 l;have:=bO8 s;simp only[G6,ex7];omega
theorem af4:∀{l:List St} {s:St},s∈l→O5 s≤G6 l
 | t::l,s,h=>by
  simp only[G6];rcases ex3.1 h with rfl|h
  ·omega
  ·have:=af4 h;omega
theorem af3:∀(l:List Pa),l.length≤bn8 l
 | []=>by simp[bn8]
 | s::l=>by have:=af3 l;simp only[bn8,wtT,ex7];omega
theorem ab4:∀(l:List Pr),l.length≤az2 l
 | []=>by simp[az2]
 | s::l=>by have:=ab4 l;simp only[az2,T8,wtT,ex7];omega
theorem al2:∀{l:List Pr} {s:Pr},s∈l→T8 s≤az2 l
 | t::l,s,h=>by
  simp only[az2];rcases ex3.1 h with rfl|h
  ·omega
  ·have:=al2 h;omega
mutual
theorem bx3:∀(s:St),3*Y6 s≤O5 s
 | .mk _ _ labels name proc x _ args thn els=>by
  have h1:=ao7 thn;have h2:=ao7 els;have h3:=aD8 x;simp only[Y6,O5,wtT];omega
theorem ao7:∀(l:List St),3*A7 l≤G6 l
 | []=>by simp[A7,G6]
 | s::l=>by
  have h1:=bx3 s;have h2:=ao7 l;simp only[A7,G6];omega
end
end Go.Proofs.YtdgicngfmfldmaaGreat
