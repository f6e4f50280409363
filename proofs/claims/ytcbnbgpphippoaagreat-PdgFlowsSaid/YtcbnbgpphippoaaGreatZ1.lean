/- pdgFlows.proved: for every input the law returns true. No condition. Part 1 of 7. -/
import Derived.Calls
import Derived.IntWalk
import Derived.KernelRfl
import Derived.Laws.AppendOwn
import Derived.Laws.CopyRow
import Derived.Laws.Entries
import Derived.Laws.Sem
import Derived.Laws.Strings
import Derived.Orders
import Derived.OrdersHeld
import Derived.StillTail
import Derived.Test.YtcbnbgpphippoaaGreatProg
set_option maxRecDepth 1000000
set_option maxHeartbeats 8000000
set_option linter.unusedVariables false
set_option linter.unusedSimpArgs false
set_option linter.unnecessarySimpa false
set_option linter.defProp false
namespace Go.Proofs.YtcbnbgpphippoaaGreat
open Go Tryz
def ex0:=@Array.getElem?_eq_some_iff
def ey9:=@Bool.and_eq_true
def eD3:=@Bool.false_eq_true
def eJ0:=@Bool.or_eq_true
def eI4:=@List.all_eq_true
def eF1:=@List.getElem?_drop
def ey7:=@List.length_cons
def eI3:=@List.mem_of_mem_drop
def eF8:=@Nat.add_assoc
def ex9:=@Nat.le_refl
def eA1:=@Nat.lt_or_ge
def eA7:=@decide_eq_true_eq
def eE5:=@if_false
def eC9:=@if_true
abbrev Fr:=Nat→Value
def Z5(a:Act):Fr:=fun i=>a.tmps.getD i undef
def p7(f:Fr)(d:Nat)(v:Value):Fr:=fun i=>if i=d then v else f i
theorem eq6{f:Fr}{d:Nat}{v:Value}{i:Nat}:p7 f d v i=if i=d then v else f i:=rfl
def A7(f:Fr):Option Nat→Value→Fr
 | some d,v=>p7 f d v
 | none,_=>f
def okd(n:Nat):Option Nat→Bool
 | some d=>decide (d<n)
 | none=>true
def ev(f:Fr):Operand→Value
 | .tmp t=>f t
 | .const v=>v
 | .global g=>.pointer (some ⟨g,0,none⟩)
 | .func g=>.func (.func g) #[] #[]
theorem by4(a:Act):a.eval=ev (Z5 a):=by
 funext x;cases x<;>rfl
theorem aP8(a:Act)(d:Option Nat)(v:Value):(a.put d v).tmps.size=a.tmps.size:=by
 cases d<;>simp[Act.put]
theorem aw9(a:Act)(d:Option Nat)(v:Value):(a.put d v).defers=a.defers:=by
 cases d<;>simp[Act.put]
theorem aN7(a:Act)(d:Option Nat)(v:Value)(h:okd a.tmps.size d=true):Z5 (a.put d v)=A7 (Z5 a) d v:=by
 cases d with
 | none=>rfl
 | some d=>
  have hd:d<a.tmps.size:=by simpa[okd]using h
  funext i
  simp only[Z5,Act.put,A7,p7,Array.getD_eq_getD_getElem?,Array.getElem?_setIfInBounds];by_cases hi:i=d
  ·subst hi;simp[hd]
  ·have:¬d=i:=fun e=>hi e.symm;simp[hi,this]
def aH5(ops:Array Oper)(f:Fr)(j:Nat):Option Bool:=
 match(ops[j]?).bind (·.dst)with
 | some d=>match f d with
   | .bool b=>some b
   | _=>none
 | none=>none
theorem ak5(ops:Array Oper)(a:Act):yielded ops a.tmps=aH5 ops (Z5 a):=by
 funext j
 unfold yielded aH5;cases h:(ops[j]?).bind (·.dst)with
 | none=>simp
 | some d=>
  simp only[Option.bind_some,Z5,Array.getD_eq_getD_getElem?];cases h2:a.tmps[d]? with
  | none=>simp[undef]
  | some v=>cases v<;>rfl
def M9(P:Program)(o:Oper)(K:Fr→World→Prop)(f:Fr)(w:World):Prop:=
 match(execOp (ev f) o).run P w with
 | .ok (.value v) w'=>K (A7 f o.dst v) w'
 | .ok .skip w'=>K (A7 f o.dst undef) w'
 | .ok (.enter g args) w'=>Calls P g args w' fun e w''=>∃v,e = .returned v∧K (A7 f o.dst v) w''
 | _=>False
theorem af0{P:Program}{o:Oper}{K K':Fr→World→Prop}{f:Fr}{w:World}(h:∀f w,K f w→K' f w)(hs:M9 P o K f w):M9 P o K' f w:=by
 unfold M9 at *;generalize(execOp (ev f) o).run P w=r at *;cases r with
 | halt x w'=>exact hs
 | ok n w'=>
  cases n
  case value v=>exact h _ _ hs
  case skip=>exact h _ _ hs
  case enter g args=>exact Calls.mono hs fun e w'' ⟨v,he,hk⟩=>⟨v,he,h _ _ hk⟩
  all_goals exact hs
def bl3(P:Program)(S:World→Prop)(o:Oper)(f:Fr)(v:Value):Prop:=
 ∀w,S w→(execOp (ev f) o).run P w = .ok (.value v) w
def lft(n:Nat)(Q:Exit→Fr→World→Prop):Exit→Act→World→Prop:=fun e a w=>
 a.tmps.size=n∧a.defers=[]∧Q e (Z5 a) w
theorem bc0{P:Program}{o:Oper}{K:Fr→World→Prop}{a:Act}{w:World}{n:Nat}{Q:Exit→Act→World→Prop}
  {K':Act→World→Prop} (hn:a.tmps.size=n) (hd:a.defers=[]) (ho:okd n o.dst=true)
  (hK:∀a' w',a'.tmps.size=n→a'.defers=[]→K (Z5 a') w'→K' a' w') (hs:M9 P o K (Z5 a) w):o.wp P a w K' Q:=by
 unfold M9 at hs;unfold Oper.wp;rw[by4];generalize(execOp (ev (Z5 a)) o).run P w=r at *;have key:∀v w',K (A7 (Z5 a) o.dst v) w'→K' (a.put o.dst v) w':=fun v w' h=>
  hK _ _ (by rw[aP8];exact hn) (by rw[aw9];exact hd) (by rw[aN7 _ _ _ (by rw[hn];exact ho)];exact h)
 cases r with
 | halt x w'=>exact hs.elim
 | ok n w'=>
  cases n
  case value v=>exact key _ _ hs
  case skip=>exact key _ _ hs
  case enter g args=>exact Calls.mono hs fun e w'' ⟨v,he,hk⟩=>by subst he;exact key _ _ hk
  all_goals exact hs.elim
def Run(P:Program)(ops:Array Oper):List Oper→(Fr→World→Prop)→Fr→World→Prop
 | [],K,f,w=>K f w
 | o::l,K,f,w=>if Region.wanted o (aH5 ops f)then M9 P o (Run P ops l K) f w else Run P ops l K (A7 f o.dst undef) w
def ct9(n:Nat)(ops:Array Oper):Bool:=ops.all fun o=>okd n o.dst
theorem ar3{P:Program}{ops:Array Oper}{n:Nat}{Q:Exit→Fr→World→Prop}:∀(l:List Oper) (a:Act) (w:World),(∀o∈l,okd n o.dst=true) →
  a.tmps.size=n→a.defers=[]→Run P ops l (Q .normal) (Z5 a) w→wpList P ops (lft n Q) l a w
 | [],a,w,_,hn,hd,h=>⟨hn,hd,h⟩
 | o::l,a,w,ho,hn,hd,h=>by
  unfold Run at h;unfold wpList;rw[ak5];split
  ·rename_i hw;rw[if_pos hw]at h;exact .inl (bc0 hn hd (ho o (by simp)) (fun a' w' hn' hd' h'=>ar3 l a' w' (fun o' h''=>ho o' (by simp[h''])) hn' hd' h') h)
  ·rename_i hw;rw[if_neg hw]at h;exact ar3 l _ _ (fun o' h''=>ho o' (by simp[h''])) (by rw[aP8];exact hn) (by rw[aw9];exact hd)
    (by rw[aN7 _ _ _ (by rw[hn];exact ho o (by simp))];exact h)
def flt:Op→Bool
 | .move _ | .assign _ | .pick .. | .load .. | .nilCheck _ | .binOp .. | .unOp .. | .convert .. | .makeFunc .. | .slice .. | .fieldAddr .. | .field .. | .indexAddr .. | .index .. | .lookup .. | .extract ..=>true
 | .call {callee:=.builtin b,..}=>match b with
   | .len | .cap | .min | .max=>true
   | _=>false
 | _=>false
inductive aA4 where
 | nil
 | op (i:Nat) (r:aA4)
 | fork (rs:List Nat) (k:Nat→aA4)
def ap4(P:Program)(ops:Array Oper)(S:World→Prop):aA4→(Fr→World→Prop)→Fr→World→Prop
 | .nil,K,f,w=>K f w
 | .op i l,K,f,w=>
  match ops[i]? with
  | none=>False
  | some o=>
   if Region.wanted o (aH5 ops f)then
    if flt o.op then ∃v,bl3 P S o f v∧ap4 P ops S l K (A7 f o.dst v) w
    else M9 P o (fun f' w'=>S w'∧ap4 P ops S l K f' w') f w
   else ap4 P ops S l K (A7 f o.dst undef) w
 | .fork rs k,K,f,w=>∀i∈rs,
   match ops[i]? with
   | none=>False
   | some o=>
    if Region.wanted o (aH5 ops f)then M9 P o (fun f' w'=>S w'∧ap4 P ops S (k i) K f' w') f w
    else ap4 P ops S (k i) K (A7 f o.dst undef) w
def aP1(ops:Array Oper)(n:Nat):Nat→aA4→Array Bool→Bool
 | 0,.nil,listed=>Region.seqB .any ops (ops.size-n) n listed
 | m+1,.op i l,listed=>decide (i<n)&&(match ops[i]? with
   | none=>false
   | some o=>(if flt o.op then(Region.ready .any ops listed).contains i&&Region.free .any ops listed i else decide (Region.ready .any ops listed=[i]))) &&
  aP1 ops n m l (listed.setIfInBounds i true)
 | m+1,.fork rs k,listed=>decide (Region.ready .any ops listed=rs) && !rs.isEmpty&&rs.all fun i=>decide (i<n)&&aP1 ops n m (k i) (listed.setIfInBounds i true)
 | _,_,_=>false
def bK6(ops:Array Oper)(n:Nat)(ord:aA4):Bool:=
 Region.noSelect ops&&(decide (n=ops.size)||(decide (n<ops.size)&&Region.sinkB .any ops n&&Region.chainB .any ops n)) &&
 aP1 ops n n ord (Array.replicate ops.size false)
section
variable {P:Program} {ops:Array Oper} {Q:Exit→Act→World→Prop} {S:World→Prop}
def aM0(P:Program)(ops:Array Oper)(Q:Exit→Act→World→Prop)(S:World→Prop)(n:Nat):Nat→Array Bool→Act→World→Prop
 | 0,listed,a,w=>Region.ready .any ops listed=[]∧Q .normal a w
 | fuel+1,listed,a,w=>
  (Region.ready .any ops listed=[]→Q .normal a w) ∧
  ∀i∈Region.ready .any ops listed,wpOp P ops Q i (fun a' w'=>(i<n→S w')∧aM0 P ops Q S n fuel (listed.setIfInBounds i true) a' w') a w
theorem bm9{n:Nat}:∀(fuel:Nat) (listed:Array Bool) (a:Act) (w:World),aM0 P ops Q S n fuel listed a w→wpAny P .any ops Q fuel listed a w
 | 0,_,_,_,h=>h
 | fuel+1,_,_,_,h=>⟨h.1,fun i hi=>wpOp_mono (fun a' w' h'=>bm9 fuel _ a' w' h'.2) (h.2 i hi)⟩
theorem bD0{n i:Nat}{oi:Oper}{v:Value}(hi:ops[i]?=some oi)(hsel:∀(j:Nat) (o:Oper) cs b,ops[j]?=some o→o.op ≠ .select cs b)
  (hQ:∀c a w,Q (.panic c) (a.put oi.dst v) w→Q (.panic c) a w) (hin:i<n)
  (htw:∀listed,HeadInv .any ops n listed→listed.getD i true=false→∀t,n≤t→t∉Region.ready .any ops listed) :
  ∀(fuel:Nat) (listed:Array Bool) (a:Act) (w:World),HeadInv .any ops n listed →
   (∀j oj,ops[j]?=some oj→j≠i→listed.getD j true=false→(∀e∈oj.after,Region.binds .any e=true→e.on≠i)→oi.apart ops oj=true) →
   i∈Region.ready .any ops listed→YieldsIf P ops S oi v a→S w →
   aM0 P ops Q S n fuel (listed.setIfInBounds i true) (a.put oi.dst v) w→aM0 P ops Q S n (fuel+1) listed a w:=by
 intro fuel
 induction fuel with
 | zero=>
  intro listed a w _ _ hr hy hS H;refine⟨fun h=>(by rw[h]at hr;cases hr),fun j hj=>?_⟩;by_cases hji:j=i
  ·subst hji;exact hy.wpOp hi hS ⟨fun _=>hS,H⟩
  ·have:=ready_mono hj hji;rw[H.1]at this;cases this
 | succ fuel ih=>
  intro listed a w inv hfree hr hy hS H;refine⟨fun h=>(by rw[h]at hr;cases hr),fun j hj=>?_⟩;by_cases hji:j=i
  ·subst hji;exact hy.wpOp hi hS ⟨fun _=>hS,H⟩
  ·have h1:=H.2 j (ready_mono hj hji);obtain⟨hjun,oj,hoj,hall⟩:=mem_ready.1 hj;have hiun:=(mem_ready.1 hr).1;have hjn:j<n:=by
    rcases eA1 j n with h|h
    ·exact h
    ·exact absurd hj (htw listed inv hiun j h)
   have hnot:∀e∈oj.after,Region.binds .any e=true→e.on≠i:=fun e he hb heq=>by
    have h1:=hall e he hb;rw[heq,getD_both hiun]at h1;cases h1
   have h2:=wpOp_putIf hoj (hfree j oj hoj hji hjun hnot) (fun cs b=>hsel i oi cs b hi) (fun cs b=>hsel j oj cs b hoj) hQ hy h1;have hfree':∀k ok,ops[k]?=some ok→k≠i→(listed.setIfInBounds j true).getD k true=false →
     (∀e∈ok.after,Region.binds .any e=true→e.on≠i)→oi.apart ops ok=true:=fun k ok hk hki hun hno=>by
    refine hfree k ok hk hki ?_ hno;by_cases hjk:j=k
    ·subst hjk;exact hjun
    ·rw[getD_set_ne true hjk]at hun;exact hun
   refine wpOp_mono (fun a' w' h3=>⟨h3.2.1,ih (listed.setIfInBounds j true) a' w' (inv.set hj hjn) hfree' (ready_mono hr (Ne.symm hji)) h3.1 (h3.2.1 hjn) ?_⟩) h2;rw[Array.setIfInBounds_comm _ _ hji];exact h3.2.2
theorem ar4{o:Oper}{i n:Nat}{K:Fr→World→Prop}{a:Act}{w:World}{K':Act→World→Prop}(hi:ops[i]?=some o)
  (hn:a.tmps.size=n) (hd:a.defers=[]) (ho:okd n o.dst=true) (hK:∀a' w',a'.tmps.size=n→a'.defers=[]→K (Z5 a') w'→K' a' w')
  (h:if Region.wanted o (aH5 ops (Z5 a))then M9 P o K (Z5 a) w else K (A7 (Z5 a) o.dst undef) w):wpOp P ops Q i K' a w:=by
 unfold wpOp;simp only[hi];rw[ak5];split
 ·rename_i hw;rw[if_pos hw]at h;exact .inl (bc0 hn hd ho hK h)
 ·rename_i hw;rw[if_neg hw]at h;exact hK _ _ (by rw[aP8];exact hn) (by rw[aw9];exact hd) (by rw[aN7 _ _ _ (by rw[hn];exact ho)];exact h)
theorem aJ2{n N:Nat}{Q:Exit→Fr→World→Prop}:∀(l:List Oper) (k:Nat) (listed:Array Bool) (a:Act) (w:World),(∀j,l[j]?=ops[k+j]?)→n≤k →
  (∀o∈l,okd N o.dst=true)→a.tmps.size=N→a.defers=[] →
  Region.seqB .any ops l.length k listed=true→Run P ops l (Q .normal) (Z5 a) w→aM0 P ops (lft N Q) S n l.length listed a w
 | [],_,_,_,_,_,_,_,hn,hd,hB,h=>⟨by simpa[Region.seqB]using hB,hn,hd,h⟩
 | o::l,k,listed,a,w,hl,hk,ho,hn,hd,hB,h=>by
  have h0:ops[k]?=some o:=by simpa using(hl 0).symm
  simp only[ey7,Region.seqB,ey9,eA7]at hB;refine⟨fun h1=>(by rw[hB.1]at h1;cases h1),fun i hi=>?_⟩;rw[hB.1]at hi;have hik:i=k:=by simpa using hi
  subst hik;refine ar4 h0 hn hd (ho o (by simp)) (K:=Run P ops l (Q .normal)) (fun a' w' hn' hd' h'=>⟨fun h=>by omega,?_⟩) (by unfold Run at h;exact h);exact aJ2 l (i+1) _ a' w' (fun j=>by have:=hl (j+1);simpa[eF8,Nat.add_comm 1 j]using this) (by omega) (fun o' h''=>ho o' (by simp[h''])) hn' hd' hB.2 h'
theorem bm8{n N:Nat}{Q:Exit→Fr→World→Prop}(hQ:∀c f w,¬Q (.panic c) f w)(hs:Region.noSelect ops=true)
  (htw:∀i,i<n→∀listed,HeadInv .any ops n listed→listed.getD i true=false→∀t,n≤t→t∉Region.ready .any ops listed) (hdst:∀o∈ops.toList,okd N o.dst=true) :
  ∀(m:Nat) (l:aA4) (listed:Array Bool) (a:Act) (w:World),HeadInv .any ops n listed→a.tmps.size=N→a.defers=[]→S w→aP1 ops n m l listed=true →
   ap4 P ops S l (Run P ops (ops.toList.drop n) (Q .normal)) (Z5 a) w→aM0 P ops (lft N Q) S n (m+(ops.size-n)) listed a w:=by
 have hmem:∀{i:Nat} {o:Oper},ops[i]?=some o→okd N o.dst=true:=by
  intro i o ho;have:=Array.mem_of_getElem? ho;exact hdst o (by simpa using this)
 intro m
 induction m with
 | zero=>
  intro l listed a w inv ha hd _ hB h;cases l
  case nil=>
   have:=aJ2 (S:=S) (n:=n) (N:=N) (Q:=Q) (P:=P) (ops:=ops) (ops.toList.drop n) n listed a w (fun j=>by simp[eF1]) (ex9 _)
    (fun o ho=>hdst o (eI3 ho)) ha hd (by simpa[aP1]using hB) h
   simpa using this
  all_goals (simp[aP1]at hB)
 | succ m ih=>
  intro l listed a w inv ha hd hS hB h;have e1:m+1+(ops.size-n)=(m+(ops.size-n))+1:=by omega
  rw[e1];cases l
  case nil=>simp[aP1]at hB
  case op i l=>
   simp only[aP1,ey9,eA7]at hB;obtain⟨⟨hin,hB1⟩,hB2⟩:=hB;simp only[ap4]at h;cases hoi:ops[i]? with
   | none=>simp[hoi]at h
   | some o=>
    simp only[hoi]at h hB1;have hod:=hmem hoi;by_cases hf:flt o.op=true
    ·simp only[hf,eC9,ey9]at h hB1;have hr:i∈Region.ready .any ops listed:=by simpa using hB1.1
     have step:∀v,YieldsIf P ops S o v a→ap4 P ops S l (Run P ops (ops.toList.drop n) (Q .normal)) (A7 (Z5 a) o.dst v) w →
       aM0 P ops (lft N Q) S n ((m+(ops.size-n))+1) listed a w:=fun v hy hK=>
      bD0 hoi (Region.noSelect_spec hs) (fun c a w hh=>absurd hh.2.2 (hQ _ _ _)) hin (htw i hin) _ listed a w inv (Region.free_spec hoi hB1.2) hr hy hS
       (ih l _ _ w (inv.set hr hin) (by rw[aP8];exact ha) (by rw[aw9];exact hd) hS hB2 (by rw[aN7 _ _ _ (by rw[ha];exact hod)];exact hK))
     by_cases hw:Region.wanted o (aH5 ops (Z5 a))=true
     ·rw[if_pos hw]at h;obtain⟨v,hv,hK⟩:=h;refine step v (.inl ⟨by rw[ak5];exact hw,fun w' hw'=>?_⟩) hK;rw[by4];exact hv w' hw'
     ·rw[if_neg hw]at h;exact step undef (.inr ⟨by rw[ak5];simpa using hw,rfl⟩) h
    ·simp only[hf,eD3,eE5,eA7]at h hB1;have hr:i∈Region.ready .any ops listed:=by rw[hB1];simp
     refine⟨fun h1=>(by rw[hB1]at h1;cases h1),fun j hj=>?_⟩;rw[hB1]at hj;have hji:j=i:=by simpa using hj
     subst hji;refine ar4 hoi ha hd hod (K:=fun f' w'=>S w'∧ap4 P ops S l (Run P ops (ops.toList.drop n) (Q .normal)) f' w') (fun a' w' ha' hd' h'=>⟨fun _=>h'.1,?_⟩) ?_
     ·exact ih l _ a' w' (inv.set hr hin) ha' hd' h'.1 hB2 h'.2
     ·split
      ·rename_i hw;rw[if_pos hw]at h;exact h
      ·rename_i hw;rw[if_neg hw]at h;exact⟨hS,h⟩
  case fork rs k=>
   simp only[aP1,ey9,eA7,eI4]at hB;obtain⟨⟨hrs,hne⟩,hall⟩:=hB;simp only[ap4]at h;refine⟨fun h1=>(by rw[hrs]at h1;subst h1;simp at hne),fun i hi=>?_⟩;have hi':i∈rs:=by rw[hrs]at hi;exact hi
   have h2:=h i hi';obtain⟨hin,hB2⟩:=hall i hi';cases hoi:ops[i]? with
   | none=>simp[hoi]at h2
   | some o=>
    simp only[hoi]at h2;refine ar4 hoi ha hd (hmem hoi) (K:=fun f' w'=>S w'∧ap4 P ops S (k i) (Run P ops (ops.toList.drop n) (Q .normal)) f' w') (fun a' w' ha' hd' h'=>⟨fun _=>h'.1,?_⟩) ?_
    ·exact ih (k i) _ a' w' (inv.set hi hin) ha' hd' h'.1 hB2 h'.2
    ·split
     ·rename_i hw;rw[if_pos hw]at h2;exact h2
     ·rename_i hw;rw[if_neg hw]at h2;exact⟨hS,h2⟩
theorem bn0{id n N:Nat}{ord:aA4}{Q:Exit→Fr→World→Prop}{a:Act}{w:World}(hm:P.follows .mixedOrders=true)(hQ:∀c f w,¬Q (.panic c) f w)
  (hok:bK6 ops n ord=true) (hdst:ct9 N ops=true) (ha:a.tmps.size=N) (hd:a.defers=[]) (hS:S w.drew)
  (h:ap4 P ops S ord (Run P ops (ops.toList.drop n) (Q .normal)) (Z5 a) w.drew):(Code.region id ops true).wp P (lft N Q) a w:=by
 simp only[bK6,ey9]at hok;obtain⟨⟨hs,hsz⟩,hord⟩:=hok;have hn:n≤ops.size:=by
  simp only[eJ0,eA7,ey9]at hsz;omega
 have inv0:HeadInv .any ops n (Array.replicate ops.size false):=
  ⟨by simp,fun j oj _ hl=>(by rw[getD_replicate_false]at hl;cases hl),fun t _ ht=>getD_in (by simpa using ht) (getD_replicate_false _ _)⟩
 have htw:∀i,i<n→∀listed,HeadInv .any ops n listed→listed.getD i true=false→∀t,n≤t→t∉Region.ready .any ops listed:=by
  intro i hi listed inv hun t ht hr;simp only[eJ0,eA7,ey9]at hsz;rcases hsz with h1|⟨⟨h1,h2⟩,h3⟩
  ·obtain⟨_,ot,hot,_⟩:=mem_ready.1 hr;have:=(ex0.1 hot).1;omega
  ·exact tail_waits h2 h3 h1 inv _ i rfl hi hun t ht hr
 refine wp_region_any hm (bm9 (S:=S) (n:=n) _ _ _ _ ?_);have hd':∀o∈ops.toList,okd N o.dst=true:=by
  intro o ho;have:=Array.all_eq_true'.1 hdst o (by simpa using ho);exact this
 have:=bm8 (S:=S) hQ hs htw hd' n ord _ a w.drew inv0 ha hd hS hord h
 rwa [show n+(ops.size-n)=ops.size by omega]at this
end
def eD2:=@List.getElem?_eq_none
def eB1:=@List.map_cons
def eC2:=@Option.isSome_iff_exists
def eC3:=@Option.map_some
def ey4:=@Option.some.inj
def eH7:=@Option.some.injEq
def ey0:=@Result.andThen_ok
def ey8:=@Sem.run_bind
def eA0:=@Sem.run_pure
def A8(P:Program)(t:TypeId):Option TypeId:=match P.underlying t with
 | some (.slice e)=>some e
 | _=>none
def bB8(P:Program)(t:TypeId):Bool:=match P.underlying t with
 | some .string=>true
 | _=>false
def C4(P:Program)(t:TypeId):Option (Nat×TypeId):=match P.underlying t with
 | some (.array n e)=>some (n,e)
 | _=>none
def E5(P:Program)(t:TypeId):Nat:=((P.info? t).map (·.size)).getD 0
def G2(P:Program)(t:TypeId):Option Value:=(P.info? t).bind (·.zero)
def cs9(P:Program)(t:TypeId):Nat:=((P.info? t).map (·.bytes)).getD 0
def C1(P:Program)(t:TypeId):Bool:=match P.underlying t with
 | some (.struct _)=>true
 | some (.array _ _)=>true
 | none=>true
 | _=>false
def y5(P:Program)(s:TypeId)(i:Nat):Option (Nat×TypeId):=match P.underlying s with
 | some (.struct fs)=>match fs[i]? with
   | some fl=>if E5 P fl.type=0 then none else some (fl.offset,fl.type)
   | none=>none
 | _=>none
def H2(P:Program)(t:TypeId):Nat:=match P.underlying t with
 | some .bool=>1
 | some (.pointer _)=>2
 | some (.slice _)=>3
 | some (.map _ _)=>4
 | some (.func _ _ _)=>5
 | some (.interface _)=>6
 | _=>0
def az7(P:Program)(t:TypeId):Option IntKind:=match P.underlying t with
 | some (.int k)=>some k
 | _=>none
def E9(P:Program)(t:TypeId):Option (Array Value×List (Nat×Nat)):=match(P.info? t).bind (·.zero),P.underlying t with
 | some z,some (.struct fs)=>if fs.toList.all (fun fl=>(P.info? fl.type).isSome)then some (z.cells,fs.toList.map fun fl=>(fl.offset,E5 P fl.type))else none
 | some z,some (.array n e)=>if(P.info? e).isSome then some (z.cells,(List.range n).map fun i=>(i*E5 P e,E5 P e))else none
 | _,_=>none
def isS:Value→Bool
 | .slice _ _ _=>true
 | _=>false
def vlen:Value→Nat
 | .slice _ n _=>n
 | _=>0
def bJ7:Value→Bool
 | .slice none _ _=>true
 | _=>false
def vcap:Value→Nat
 | .slice _ _ c=>c
 | _=>0
def inS:Value→Nat→Bool
 | .slice (some _) n _,k=>decide (k<n)
 | _,_=>false
def H1:Value→Nat→Addr
 | .slice (some a) _ _,k=>a.add k
 | _,_=>default
def reS(v:Value)(l h sz:Nat):Value:=match v with
 | .slice a _ cap=>.slice (if cap=l then a else a.map (·.add (l*sz))) (h-l) (cap-l)
 | _=>undef
def E6(op:BinOp)(k:IntKind)(a b:Int):Option Value:=match op with
 | .add=>some (.int k (k.wrap (a+b)))
 | .sub=>some (.int k (k.wrap (a-b)))
 | .mul=>some (.int k (k.wrap (a*b)))
 | .quo=>if b=0 then none else some (.int k (k.wrap (a.tdiv b)))
 | .rem=>if b=0 then none else some (.int k (a.tmod b))
 | .eql=>some (.bool (a==b))
 | .neq=>some (.bool (a != b))
 | .lss=>some (.bool (a<b))
 | .leq=>some (.bool (a≤b))
 | .gtr=>some (.bool (a>b))
 | .geq=>some (.bool (a≥b))
 | .and=>some (.int k (k.wrap (BitVec.ofInt k.bits a &&& BitVec.ofInt k.bits b).toNat))
 | .or=>some (.int k (k.wrap (BitVec.ofInt k.bits a ||| BitVec.ofInt k.bits b).toNat))
 | .xor=>some (.int k (k.wrap (BitVec.ofInt k.bits a ^^^ BitVec.ofInt k.bits b).toNat))
 | .andNot=>some (.int k (k.wrap (BitVec.ofInt k.bits a &&& ~~~BitVec.ofInt k.bits b).toNat))
 | _=>none
def B9(P:Program)(op:BinOp)(t:TypeId):Value→Value→Option Value
 | .int k a,.int k' b=>match op with
   | .shl=>if b<0 then none else some (.int k (k.wrap (a*2 ^ (min b.toNat k.bits))))
   | .shr=>if b<0 then none else some (.int k (a.fdiv (2 ^ (min b.toNat k.bits))))
   | _=>if k=k' then E6 op k a b else none
 | .string a,.string b=>match op with
   | .eql=>some (.bool (a.toList==b.toList))
   | .neq=>some (.bool !(a.toList==b.toList))
   | .lss=>some (.bool (Op.bytesLess a.toList b.toList))
   | .leq=>some (.bool (Op.bytesLess a.toList b.toList||a.toList==b.toList))
   | .gtr=>some (.bool !(Op.bytesLess a.toList b.toList||a.toList==b.toList))
   | .geq=>some (.bool !(Op.bytesLess a.toList b.toList))
   | .add=>if((a.size+b.size:Nat):Int)>IntKind.i64.max then none else some (.string (a++b))
   | _=>none
 | .bool a,.bool b=>match op with
   | .eql=>if H2 P t=1 then some (.bool (a==b))else none
   | .neq=>if H2 P t=1 then some (.bool !(a==b))else none
   | _=>none
 | .pointer a,.pointer none=>match op with
   | .eql=>if H2 P t=2 then some (.bool a.isNone)else none
   | .neq=>if H2 P t=2 then some (.bool !a.isNone)else none
   | _=>none
 | a,.slice none 0 0=>match op with
   | .eql=>if isS a&&H2 P t==3 then some (.bool (bJ7 a))else none
   | .neq=>if isS a&&H2 P t==3 then some (.bool !(bJ7 a))else none
   | _=>none
 | _,_=>none
def unV(op:UnOp):Value→Option Value
 | .bool b=>match op with
   | .not=>some (.bool !b)
   | _=>none
 | .int k n=>match op with
   | .neg=>some (.int k (k.wrap (0-n)))
   | _=>none
 | _=>none
def by5(P:Program)(s:TypeId)(i:Nat):Value→Option Value
 | .pointer (some a)=>match y5 P s i with
   | some (o,_)=>some (.pointer (some (a.add o)))
   | none=>none
 | _=>none
def bu4(P:Program)(t:TypeId)(cs:Array Value)(o:Nat):Option Value:=
 if C1 P t then(if(P.info? t).isSome&&(P.underlying t).isSome then some (.agg (cs.extract o (o+E5 P t)))else none)else cs[o]?
def aB5(P:Program)(s:TypeId)(i:Nat):Value→Option Value
 | .agg cs=>match y5 P s i with
   | some (o,t)=>bu4 P t cs o
   | none=>none
 | _=>none
def v8(P:Program)(t:TypeId)(x:Value):Value→Option Value
 | .int _ n=>match A8 P t with
   | some e=>if(P.info? e).isSome&&decide (0≤n)&&inS x n.toNat then some (.pointer (some (H1 x (n.toNat*E5 P e))))else none
   | none=>match C4 P t,x with
     | some (len,e),.pointer (some a)=>if(P.info? e).isSome&&decide (0≤n)&&decide (n<len)then some (.pointer (some (a.add (n.toNat*E5 P e))))else none
     | _,_=>none
 | _=>none
def U4(P:Program)(t:TypeId)(x:Value):Value→Option Value
 | .int _ n=>match C4 P t,x with
   | some (len,e),.agg cs=>if(P.info? e).isSome&&decide (0≤n)&&decide (n<len)then bu4 P e cs (n.toNat*E5 P e)else none
   | none,.string s=>if bB8 P t&&decide (0≤n)then(s[n.toNat]?).map fun b=>.int .u8 b.toNat else none
   | _,_=>none
 | _=>none
def H5(P:Program)(t:TypeId)(x:Value)(lo hi:Option Value):Option Value:=
 match(match lo with|none=>some 0|some (.int _ n)=>some n|_=>none:Option Int),
  (match hi with|none=>some ((if isS x then vlen x else match x with | .string s=>s.size|_=>0:Nat):Int)|some (.int _ n)=>some n|_=>none:Option Int)with
 | some l,some h=>match A8 P t with
   | some e=>if(P.info? e).isSome&&isS x&&decide (0≤l)&&decide (l≤h)&&decide (h≤vcap x)then some (reS x l.toNat h.toNat (E5 P e))else none
   | none=>match x with
     | .string s=>if bB8 P t&&decide (0≤l)&&decide (l≤h)&&decide (h≤s.size)then some (.string (s.extract l.toNat h.toNat))else none
     | _=>none
 | _,_=>none
def O8(P:Program)(t:TypeId)(x:Value):Option Value:=
 if(A8 P t).isSome then(if isS x then some (.int .i64 (vlen x))else none)
 else match x with
  | .string s=>if bB8 P t then some (.int .i64 s.size)else none
  | _=>match C4 P t with
    | some (n,_)=>some (.int .i64 n)
    | none=>none
def cL5(P:Program)(t:TypeId)(x:Value):Option Value:=
 if(A8 P t).isSome&&isS x then some (.int .i64 (vcap x))else none
def aX7(P:Program)(s d:TypeId):Value→Option Value
 | .int _ n=>match az7 P d with
   | some k=>if(P.underlying s).isSome then some (.int k (k.wrap n))else none
   | none=>none
 | _=>none
def J3(pl:List (Nat×Nat))(cs:Array Value)(parts:List (Nat×Value)):Option (Array Value):=Instr.fill (fun i=>pl[i]?) cs parts
def C0(P:Program)(t:TypeId)(parts:List (Nat×Value)):Option Value:=
 match E9 P t with
 | some (z,pl)=>(J3 pl z parts).map .agg
 | none=>none
def cz6:Value→Value→Option Value
 | .int k x,.int _ y=>some (.int k (if y<x then y else x))
 | _,_=>none
def cz5:Value→Value→Option Value
 | .int k x,.int _ y=>some (.int k (if y>x then y else x))
 | _,_=>none
def ao1(P:Program)(f:Fr):Op→Option Value
 | .move x=>some (ev f x)
 | .assign x=>some (ev f x)
 | .pick c a b=>match ev f c with
   | .bool t=>some (if t then ev f a else ev f b)
   | _=>none
 | .binOp op t x y _=>B9 P op t (ev f x) (ev f y)
 | .unOp op _ x=>unV op (ev f x)
 | .fieldAddr s x i=>by5 P s i (ev f x)
 | .field s x i=>aB5 P s i (ev f x)
 | .indexAddr t x i=>v8 P t (ev f x) (ev f i)
 | .index t x i=>U4 P t (ev f x) (ev f i)
 | .slice t x lo hi none=>H5 P t (ev f x) (lo.map (ev f)) (hi.map (ev f))
 | .extract x i=>match ev f x with
   | .tuple vs=>vs[i]?
   | _=>none
 | .convert s d x=>aX7 P s d (ev f x)
 | .nilCheck x=>match ev f x with
   | .pointer (some a)=>some (.pointer (some a))
   | _=>none
 | .makeFunc fn first cap=>some (.func fn (first.map (ev f)) (cap.map (ev f)))
 | .build t parts=>C0 P t (parts.toList.map fun p=>(p.1,ev f p.2))
 | .call c=>match c.callee with
   | .builtin .len=>match c.args.toList,c.argTypes.toList with
     | [x],[t]=>O8 P t (ev f x)
     | _,_=>none
   | .builtin .cap=>match c.args.toList,c.argTypes.toList with
     | [x],[t]=>cL5 P t (ev f x)
     | _,_=>none
   | .builtin .min=>match c.args.toList with
     | [x,y]=>cz6 (ev f x) (ev f y)
     | _=>none
   | .builtin .max=>match c.args.toList with
     | [x,y]=>cz5 (ev f x) (ev f y)
     | _=>none
   | _=>none
 | _=>none
section
variable {P:Program}
theorem F3(t:TypeId)(w:World):(underlying t).run P w=match P.underlying t with
  | some d=>.ok d w
  | none=>.halt (.stuck "no such type") w:=by
 simp only[underlying,program,ey8,Sem.run,ey0];cases P.underlying t<;>rfl
theorem L5(t:TypeId)(w:World):(typeInfo t).run P w=match P.info? t with
  | some d=>.ok d w
  | none=>.halt (.stuck "no such type") w:=by
 simp only[typeInfo,program,ey8,Sem.run,ey0];cases P.info? t<;>rfl
theorem M8{t:TypeId}(h:(P.info? t).isSome=true)(w:World):(sizeOf t).run P w = .ok (E5 P t) w:=by
 obtain⟨i,hi⟩:=eC2.1 h;simp[sizeOf,L5,hi,E5]
theorem V8(t:TypeId)(h:(P.underlying t).isSome=true)(w:World):(isAgg t).run P w = .ok (C1 P t) w:=by
 obtain⟨i,hi⟩:=eC2.1 h;unfold isAgg C1;rw[ey8,F3,hi];cases i<;>rfl
theorem aR9{t:TypeId}(h:C1 P t=false):(P.underlying t).isSome=true:=by
 unfold C1 at h;cases hu:P.underlying t with
 | none=>simp[hu]at h
 | some d=>rfl
theorem bk0{t:TypeId}{cs:Array Value}{o:Nat}{v:Value}(h:bu4 P t cs o=some v)(w:World):(part t cs o).run P w = .ok v w:=by
 unfold bu4 at h;unfold part;by_cases ha:C1 P t=true
 ·rw[if_pos ha]at h;by_cases hi:((P.info? t).isSome&&(P.underlying t).isSome)=true
  ·rw[if_pos hi]at h;simp only[ey9]at hi;obtain rfl:=ey4 h;simp only[ey8,V8 t hi.2,ey0,ha,Sem.run_ite,eC9,M8 hi.1,eA0]
  ·rw[if_neg hi]at h;cases h
 ·have ha':C1 P t=false:=by simpa using ha
  rw[if_neg ha]at h;simp only[ey8,V8 t (aR9 ha'),ey0,ha',eD3,eE5,h,eA0]
theorem aV5{op:BinOp}{t:TypeId}{x y:Operand}{a b:Value}(h1:a ≠ .nilIface)(h2:∀cs,a ≠ .agg cs)(w:World):
  (eqGuard op t x y a b).run P w = .ok () w:=by
 unfold eqGuard;cases op<;>first|rfl|(cases a<;>first|rfl|exact absurd rfl h1|exact absurd rfl (h2 _))
theorem bP6{op:BinOp}{t:TypeId}{x y:Operand}{a b v:Value}(h:B9 P op t a b=some v)(w:World):
  (do eqGuard op t x y a b;binOp op t a b:Sem Value).run P w = .ok v w:=by
 have hg:(eqGuard op t x y a b).run P w = .ok () w:=by
  apply aV5
  ·rintro rfl;unfold B9 at h;split at h<;>first
    | (simp_all;done)
    | (split at h<;>simp_all [isS])
  ·rintro cs rfl;unfold B9 at h;split at h<;>first
    | (simp_all;done)
    | (split at h<;>simp_all [isS])
 rw[ey8,hg,ey0];unfold B9 at h;split at h
 ·split at h
  ·split at h
   ·cases h
   ·rename_i hb;obtain rfl:=ey4 h;simp[binOp,Op.shift,hb]
  ·split at h
   ·cases h
   ·rename_i hb;obtain rfl:=ey4 h;simp[binOp,Op.shift,hb]
  ·rename_i h1 h2;split at h
   ·rename_i hk;subst hk;unfold E6 at h;cases op<;>simp only[eH7]at h <;>
     first
     | (subst h;simp[binOp,Op.intArith,Op.intCmp,Op.intBits])
     | (split at h<;>first|(rename_i hb;obtain rfl:=ey4 h;simp[binOp,Op.intDiv,hb];done)|(cases h;done))
     | (exact absurd rfl (by assumption))
     | cases h
   ·cases h
 ·split at h<;>first
   | (obtain rfl:=ey4 h;simp[binOp,Op.stringOp])
   | (split at h<;>first|(rename_i hb;obtain rfl:=ey4 h;simp only[binOp,Op.stringOp];rw[if_neg hb];rfl)|(cases h;done))
   | cases h
 ·have key:∀{p q:Bool},H2 P t=1→(Op.equal t (.bool p) (.bool q)).run P w = .ok (p==q) w:=by
   intro p q ht;unfold H2 at ht;unfold Op.equal Op.maxDepth Op.equalIn;rw[ey8,F3];cases hu:P.underlying t with
   | none=>simp[hu]at ht
   | some d=>cases d<;>simp[hu]at ht ⊢
  split at h<;>first
   | (split at h
      ·rename_i ht;obtain rfl:=ey4 h;simp[binOp,key ht]
      ·cases h)
   | cases h
 ·have key:∀{p:Option Addr},H2 P t=2→(Op.equal t (.pointer p) (.pointer none)).run P w = .ok p.isNone w:=by
   intro p ht;unfold H2 at ht;unfold Op.equal Op.maxDepth Op.equalIn;rw[ey8,F3];cases hu:P.underlying t with
   | none=>simp[hu]at ht
   | some d=>cases d<;>simp[hu]at ht ⊢<;> (cases p<;>rfl)
  split at h<;>first
   | (split at h
      ·rename_i ht;obtain rfl:=ey4 h;simp[binOp,key ht]
      ·cases h)
   | cases h
 ·have key:isS a=true→H2 P t=3→(Op.equal t a (.slice none 0 0)).run P w = .ok (bJ7 a) w:=by
   intro hs ht;cases a
   case slice p n c=>
    unfold H2 at ht;unfold Op.equal Op.maxDepth Op.equalIn;rw[ey8,F3];cases hu:P.underlying t with
    | none=>simp[hu]at ht
    | some d=>cases d<;>simp[hu]at ht ⊢<;> (cases p<;>rfl)
   all_goals (simp[isS]at hs)
  have hop:isS a=true→binOp .eql t a (.slice none 0 0)=(do pure (.bool (←Op.equal t a (.slice none 0 0))))∧binOp .neq t a (.slice none 0 0)=(do pure (.bool (!(←Op.equal t a (.slice none 0 0))))):=by
   intro hs;cases a
   case slice p n c=>exact⟨rfl,rfl⟩
   all_goals (simp[isS]at hs)
  split at h<;>first
   | (split at h
      ·rename_i ht;simp only[ey9,beq_iff_eq]at ht;obtain rfl:=ey4 h
       first|rw[(hop ht.1).1]|rw[(hop ht.1).2]
       simp[key ht.1 ht.2]
      ·cases h)
   | cases h
 ·cases h
theorem J7{t e:TypeId}(h:A8 P t=some e):P.underlying t=some (.slice e):=by
 unfold A8 at h;cases hu:P.underlying t with
 | none=>simp[hu]at h
 | some d=>cases d<;>simp[hu]at h;subst h;rfl
theorem aS7{t e:TypeId}{n:Nat}(h:C4 P t=some (n,e)):P.underlying t=some (.array n e):=by
 unfold C4 at h;cases hu:P.underlying t with
 | none=>simp[hu]at h
 | some d=>cases d<;>simp[hu]at h;obtain⟨rfl,rfl⟩:=h;rfl
theorem aG6{t:TypeId}(h:bB8 P t=true):P.underlying t=some .string:=by
 unfold bB8 at h;cases hu:P.underlying t with
 | none=>simp[hu]at h
 | some d=>cases d<;>simp[hu]at h;rfl
theorem bW1{t:TypeId}(h:¬E5 P t=0):(P.info? t).isSome=true:=by
 unfold E5 at h;cases hi:P.info? t with
 | none=>simp[hi]at h
 | some i=>rfl
theorem aY3{s:TypeId}{i o t:Nat}(h:y5 P s i=some (o,t)):∃fs fl,P.underlying s=some (.struct fs)∧fs[i]?=some fl∧¬E5 P t=0∧fl.offset=o∧fl.type=t:=by
 unfold y5 at h;cases hu:P.underlying s with
 | none=>simp[hu]at h
 | some d=>
  cases d
  case struct fs=>
   simp only[hu]at h;cases hf:fs[i]? with
   | none=>simp[hf]at h
   | some fl=>
    simp only[hf]at h;split at h
    ·cases h
    ·rename_i hz;simp only[eH7,Prod.mk.injEq]at h;obtain⟨rfl,rfl⟩:=h;exact⟨fs,fl,rfl,hf,hz,rfl,rfl⟩
  all_goals simp[hu]at h
theorem by6{s i:Nat}{x v:Value}(h:by5 P s i x=some v)(w:World):(Instr.fieldAt s x i).run P w = .ok v w:=by
 unfold by5 at h;split at h
 ·split at h
  ·rename_i a o t hf;obtain⟨fs,fl,h1,h2,h3,h4,h5⟩:=aY3 hf;obtain rfl:=ey4 h;subst h4 h5;unfold Instr.fieldAt;rw[ey8,F3,h1];simp only[ey0,h2,ey8,Instr.sureAddr,eA0,Go.fieldPlace,M8 (bW1 h3),Sem.run_ite];rw[if_neg h3];rfl
  ·cases h
 ·cases h
theorem bR1{s i:Nat}{x v:Value}(h:aB5 P s i x=some v)(w:World):(Instr.field s x i).run P w = .ok v w:=by
 unfold aB5 at h;split at h
 ·split at h
  ·rename_i cs o t hf;obtain⟨fs,fl,h1,h2,h3,h4,h5⟩:=aY3 hf;subst h4 h5;unfold Instr.field;rw[ey8,F3,h1];simp only[ey0,h2,ey8,asAgg,eA0,bk0 h]
  ·cases h
 ·cases h
theorem cy2{x:Value}{k:Nat}(h:inS x k=true):∃a n c,x = .slice (some a) n c∧k<n:=by
 unfold inS at h;split at h
 ·exact⟨_,_,_,rfl,by simpa using h⟩
 ·cases h
theorem bT1{t:Nat}{x i v:Value}(h:v8 P t x i=some v)(w:World):(Instr.indexAt t x i).run P w = .ok v w:=by
 unfold v8 at h;split at h
 ·rename_i k n;split at h
  ·rename_i e he;split at h
   ·rename_i hc;simp only[ey9,eA7]at hc;obtain⟨⟨hi,h0⟩,hin⟩:=hc;obtain⟨a,m,c,rfl,hlt⟩:=cy2 hin;obtain rfl:=ey4 h;unfold Instr.indexAt;simp only[asIntOf,ey8,eA0,ey0,F3,J7 he];have:0≤n∧n<(m:Int):=by omega
    simp only[this,and_self,eC9,ey8,M8 hi,ey0,eA0,H1]
   ·cases h
  ·split at h
   ·rename_i len e a he;split at h
    ·rename_i hc;simp only[ey9,eA7]at hc;obtain⟨⟨hi,h0⟩,hlt⟩:=hc;obtain rfl:=ey4 h;unfold Instr.indexAt;simp only[asIntOf,ey8,eA0,ey0,F3,aS7 he,Instr.sureAddr];have:0≤n∧n<(len:Int):=by omega
     simp only[this,and_self,eC9,ey8,M8 hi,ey0,eA0]
    ·cases h
   ·cases h
 ·cases h
theorem bz5{t:Nat}{x i v:Value}(h:U4 P t x i=some v)(w:World):(Instr.index t x i).run P w = .ok v w:=by
 unfold U4 at h;split at h
 ·rename_i k n;split at h
  ·rename_i len e cs he;split at h
   ·rename_i hc;simp only[ey9,eA7]at hc;obtain⟨⟨hi,h0⟩,hlt⟩:=hc;unfold Instr.index;simp only[asIntOf,ey8,eA0,ey0,F3,aS7 he];have:0≤n∧n<(len:Int):=by omega
    simp only[this,and_self,eC9,ey8,M8 hi,ey0,bk0 h]
   ·cases h
  ·rename_i s he;split at h
   ·rename_i hc;simp only[ey9,eA7]at hc;obtain⟨hs,h0⟩:=hc;unfold Instr.index;simp only[asIntOf,ey8,eA0,ey0,F3,aG6 hs,h0,eC9];cases hb:s[n.toNat]? with
    | none=>simp[hb]at h
    | some b=>
     simp only[hb,eC3,eH7]at h;subst h;rfl
   ·cases h
  ·cases h
 ·cases h
theorem bT6{t:TypeId}{x v:Value}{ty:TypeId}(h:O8 P t x=some v)(w:World):(Builtin.len_ #[t] ty #[x]).run P w = .ok v w:=by
 unfold O8 at h;split at h
 ·rename_i he;obtain⟨e,he⟩:=eC2.1 he;split at h
  ·rename_i hs;obtain rfl:=ey4 h;cases x
   case slice a n c=>simp[Builtin.len_,F3,J7 he,vlen,goInt]
   all_goals simp[isS]at hs
  ·cases h
 ·split at h
  ·rename_i s;split at h
   ·rename_i hs;obtain rfl:=ey4 h;simp[Builtin.len_,F3,aG6 hs,goInt]
   ·cases h
  ·rename_i hns;split at h
   ·rename_i n e he;obtain rfl:=ey4 h;cases x<;>simp[Builtin.len_,F3,aS7 he,goInt]
   ·cases h
theorem bQ1{t:TypeId}{x v:Value}{ty:TypeId}(h:cL5 P t x=some v)(w:World):(Builtin.cap_ #[t] ty #[x]).run P w = .ok v w:=by
 unfold cL5 at h;split at h
 ·rename_i hc;simp only[ey9]at hc;obtain⟨e,he⟩:=eC2.1 hc.1;obtain rfl:=ey4 h;cases x
  case slice a n c=>simp[Builtin.cap_,F3,J7 he,vcap,goInt]
  all_goals (simp[isS]at hc)
 ·cases h
theorem bF0{s d:TypeId}{x v:Value}(h:aX7 P s d x=some v)(w:World):(convert s d x).run P w = .ok v w:=by
 unfold aX7 at h;split at h
 ·split at h
  ·rename_i k hk;split at h
   ·rename_i hs;obtain rfl:=ey4 h;obtain⟨sd,hsd⟩:=eC2.1 hs;have hd:P.underlying d=some (.int k):=by
     unfold az7 at hk;cases hu:P.underlying d with
     | none=>simp[hu]at hk
     | some dd=>cases dd<;>simp[hu]at hk;subst hk;rfl
    unfold convert;simp only[ey8,F3,hsd,hd,ey0,Conv.intToInt,eA0]
   ·cases h
  ·cases h
 ·cases h
theorem bx3{t:TypeId}{parts:List (Nat×Value)}{v:Value}(h:C0 P t parts=some v)(w:World):(Instr.build t parts.toArray).run P w = .ok v w:=by
 unfold C0 at h;cases hb:E9 P t with
 | none=>simp[hb]at h
 | some zp=>
  obtain⟨z,pl⟩:=zp;simp only[hb]at h;unfold E9 at hb;have hmap:∀(fs:List Field),(fs.all fun fl=>(P.info? fl.type).isSome)=true →
    (fs.mapM (m:=Sem) fun f=>do pure (f.offset,←sizeOf f.type)).run P w = .ok (fs.map fun fl=>(fl.offset,E5 P fl.type)) w:=by
   intro fs
   induction fs with
   | nil=>intro _;simp
   | cons f fs ih=>
    intro hall;simp only[List.all_cons,ey9]at hall;simp only[List.mapM_cons,ey8,M8 hall.1,ey0,eA0,ih hall.2,eB1]
  unfold Instr.build zeroValue;cases hi:P.info? t with
  | none=>simp[hi]at hb
  | some i=>
   cases hz:i.zero with
   | none=>simp[hi,hz]at hb
   | some zv=>
    simp only[hi,Option.bind_some,hz]at hb;simp only[ey8,L5,hi,ey0,hz,eA0,F3];cases hu:P.underlying t with
    | none=>simp[hu]at hb
    | some d=>
     cases d
     case struct fs=>
      simp only[hu]at hb;split at hb
      ·rename_i hall;simp only[eH7,Prod.mk.injEq]at hb;obtain⟨rfl,rfl⟩:=hb;simp only[ey0];rw[Array.mapM_eq_mapM_toList];simp only[ey8,Sem.run_map]
       erw [hmap _ hall]
       simp only[ey0];unfold J3 at h;simp only[List.getElem?_toArray];cases hf:Instr.fill (fun i=>(fs.toList.map fun fl=>(fl.offset,E5 P fl.type))[i]?) zv.cells parts with
       | none=>rw[hf]at h;cases h
       | some cells=>
        simp only[hf,eC3,eH7]at h;subst h;rfl
      ·cases hb
     case array n e=>
      simp only[hu]at hb;split at hb
      ·rename_i he;simp only[eH7,Prod.mk.injEq]at hb;obtain⟨rfl,rfl⟩:=hb;simp only[ey0,ey8,M8 he];unfold J3 at h;have B4:∀(ps:List (Nat×Value)) (cs cs':Array Value),Instr.fill (fun i=>((List.range n).map fun i=>(i*E5 P e,E5 P e))[i]?) cs ps=some cs' →
         Instr.fill (fun i=>some (i*E5 P e,E5 P e)) cs ps=some cs':=by
        intro ps
        induction ps with
        | nil=>intro cs cs' hh;exact hh
        | cons q ps ih=>
         intro cs cs' hh;obtain⟨qi,qv⟩:=q;unfold Instr.fill at hh ⊢;by_cases hq:qi<n
         ·have hq':((List.range n).map fun i=>(i*E5 P e,E5 P e))[qi]?=some (qi*E5 P e,E5 P e):=by simp[hq]
          rw[hq']at hh;simp only at hh ⊢;split at hh
          ·cases hh
          ·rename_i hc;rw[if_neg hc];exact ih _ _ hh
         ·rw[eD2 (by simpa using hq)]at hh;cases hh
       cases hf:Instr.fill (fun i=>((List.range n).map fun i=>(i*E5 P e,E5 P e))[i]?) zv.cells parts with
       | none=>rw[hf]at h;cases h
       | some cells=>
        simp only[hf,eC3,eH7]at h;subst h;simp only[B4 _ _ _ hf];rfl
      ·cases hb
     all_goals simp[hu]at hb
theorem bB7{t:TypeId}{x v:Value}{lo hi:Option Value}(h:H5 P t x lo hi=some v)(w:World):(Instr.sliceAt t x lo hi none).run P w = .ok v w:=by
 unfold H5 at h;split at h
 ·rename_i l hh hlo hhi;have hlo':(∃k,lo=some (.int k l))∨lo=none∧l=0:=by
   split at hlo
   ·exact .inr ⟨rfl,(ey4 hlo).symm⟩
   ·obtain rfl:=ey4 hlo;exact .inl ⟨_,rfl⟩
   ·cases hlo
  split at h
  ·rename_i e he;split at h
   ·rename_i hc;simp only[ey9,eA7]at hc;obtain⟨⟨⟨⟨hi1,hs⟩,h0⟩,h1⟩,h2⟩:=hc;obtain rfl:=ey4 h;have hhi':(∃k,hi=some (.int k hh))∨hi=none∧hh=vlen x:=by
     split at hhi
     ·rw[hs,if_pos rfl]at hhi;exact .inr ⟨rfl,(ey4 hhi).symm⟩
     ·obtain rfl:=ey4 hhi;exact .inl ⟨_,rfl⟩
     ·cases hhi
    cases x
    case slice a n c=>
     simp only[vcap]at h2;simp only[vlen]at hhi';have hb:(Instr.sliceBounds true n c lo hi none).run P w = .ok (l.toNat,hh.toNat,c) w:=by
      rcases hlo' with⟨k,rfl⟩|⟨rfl,rfl⟩<;>rcases hhi' with⟨k',rfl⟩|⟨rfl,rfl⟩ <;>
       simp only[Instr.sliceBounds,Instr.sliceBound,asIntOf,ey8,eA0,ey0]
      ·rw[if_pos (by omega)];simp only[eA0,ey0];rw[if_pos (by omega)];rfl
      ·rw[if_pos (by omega)];rfl
      ·rw[if_pos (by omega)];rfl
      ·rfl
     unfold Instr.sliceAt;simp only[ey8,F3,J7 he,ey0];unfold Instr.slice;simp only[ey8,F3,J7 he,ey0,hb,M8 hi1,eA0,reS]
    all_goals simp[isS]at hs
   ·cases h
  ·split at h
   ·rename_i s;split at h
    ·rename_i hc;simp only[ey9,eA7]at hc;obtain⟨⟨⟨hs,h0⟩,h1⟩,h2⟩:=hc;obtain rfl:=ey4 h;have hhi':(∃k,hi=some (.int k hh))∨hi=none∧hh=s.size:=by
      split at hhi
      ·simp only[isS,eD3,eE5]at hhi;exact .inr ⟨rfl,(ey4 hhi).symm⟩
      ·obtain rfl:=ey4 hhi;exact .inl ⟨_,rfl⟩
      ·cases hhi
     have hb:(Instr.sliceBounds false s.size s.size lo hi none).run P w = .ok (l.toNat,hh.toNat,s.size) w:=by
      rcases hlo' with⟨k,rfl⟩|⟨rfl,rfl⟩<;>rcases hhi' with⟨k',rfl⟩|⟨rfl,rfl⟩ <;>
       simp only[Instr.sliceBounds,Instr.sliceBound,asIntOf,ey8,eA0,ey0]
      ·rw[if_pos (by omega)];simp only[eA0,ey0];rw[if_pos (by omega)];rfl
      ·rw[if_pos (by omega)];rfl
      ·rw[if_pos (by omega)];rfl
      ·rfl
     unfold Instr.sliceAt;simp only[ey8,F3,aG6 hs,ey0];unfold Instr.slice;simp only[ey8,F3,aG6 hs,ey0,hb,eA0,Option.isSome_none,eD3,eE5]
    ·cases h
   ·cases h
 ·cases h
theorem aD2{f:Fr}{o:Oper}{v:Value}(h:ao1 P f o.op=some v)(w:World):(execOp (ev f) o).run P w = .ok (.value v) w:=by
 have lift:∀{s:Sem Value},s.run P w = .ok v w→(do pure (.value (←s)):Sem Next).run P w = .ok (.value v) w:=fun hs=>by
  rw[ey8,hs];rfl
 obtain⟨d,op,ty,pos,aft,gd⟩:=o;unfold ao1 at h;simp only at h;cases op<;>try simp only at h
 case move x=>obtain rfl:=ey4 h;rfl
 case assign x=>obtain rfl:=ey4 h;rfl
 case pick c a b=>
  split at h
  ·rename_i t ht;obtain rfl:=ey4 h;simp only[execOp,ht,asBool,ey8,eA0,ey0]
  ·cases h
 case binOp op t x y t2=>exact lift (bP6 h w)
 case unOp op t x=>
  refine lift ?_;unfold unV at h;split at h
  ·rename_i b hb;split at h
   ·obtain rfl:=ey4 h;simp[hb,Op.unary]
   ·cases h
  ·rename_i k n hb;split at h
   ·obtain rfl:=ey4 h;simp[hb,Op.unary,Op.intArith]
   ·cases h
  ·cases h
 case fieldAddr s x i=>exact lift (by6 h w)
 case field s x i=>exact lift (bR1 h w)
 case indexAddr t x i=>exact lift (bT1 h w)
 case index t x i=>exact lift (bz5 h w)
 case slice t x lo hi mx=>
  cases mx
  case none=>exact lift (bB7 h w)
  case some m=>cases h
 case extract x i=>
  refine lift ?_;split at h
  ·rename_i vs hv;unfold Instr.extract;simp only[hv,h];rfl
  ·cases h
 case nilCheck x=>
  split at h
  ·rename_i a ha;obtain rfl:=ey4 h;simp only[execOp,ha,eA0]
  ·cases h
 case convert s d' x=>exact lift (bF0 h w)
 case makeFunc fn first cap=>obtain rfl:=ey4 h;rfl
 case build t parts=>
  refine lift ?_;have:=bx3 h w;have e:(parts.toList.map fun p=>(p.1,ev f p.2)).toArray=parts.map fun p=>(p.1,ev f p.2):=by
   apply Array.ext';simp
  rw[e]at this;exact this
 case call c=>
  obtain⟨cal,args,tys⟩:=c;simp only at h;cases cal
  case builtin b=>
   cases b<;>try simp only at h
   case len=>
    split at h
    ·rename_i x t hx ht;have hx':args=#[x]:=by apply Array.ext';simpa using hx
     have ht':tys=#[t]:=by apply Array.ext';simpa using ht
     subst hx' ht';have:=bT6 (ty:=ty) h w;simp only[execOp,resolve,invoke,builtin,ey8,eA0,ey0];simp only[List.map_toArray,eB1,List.map_nil,this,ey0]
    ·cases h
   case cap=>
    split at h
    ·rename_i x t hx ht;have hx':args=#[x]:=by apply Array.ext';simpa using hx
     have ht':tys=#[t]:=by apply Array.ext';simpa using ht
     subst hx' ht';have:=bQ1 (ty:=ty) h w;simp only[execOp,resolve,invoke,builtin,ey8,eA0,ey0];simp only[List.map_toArray,eB1,List.map_nil,this,ey0]
    ·cases h
   case min=>
    split at h
    ·rename_i x y hx;have hx':args=#[x,y]:=by apply Array.ext';simpa using hx
     subst hx';unfold cz6 at h;split at h
     ·rename_i k a k' b hx hy;obtain rfl:=ey4 h;simp[execOp,resolve,invoke,builtin,Builtin.min_,Builtin.min2,hx,hy]
     ·cases h
    ·cases h
   case max=>
    split at h
    ·rename_i x y hx;have hx':args=#[x,y]:=by apply Array.ext';simpa using hx
     subst hx';unfold cz5 at h;split at h
     ·rename_i k a k' b hx hy;obtain rfl:=ey4 h;simp[execOp,resolve,invoke,builtin,Builtin.max_,Builtin.max2,hx,hy]
     ·cases h
    ·cases h
   all_goals cases h
  all_goals cases h
 all_goals cases h
end
def ez8:=@Nat.zero_add
def aS5(f:Fr)(o:Oper):Option (Sem Value):=match o.op with
 | .load t a=>some (Instr.loadAt t (ev f a))
 | .buildSlice t n parts=>some (Instr.buildSlice t n (parts.map fun p=>(p.1,ev f p.2)))
 | .alloc e=>some (Instr.alloc e true (.tuple #[]))
 | .box e x=>some (Instr.box e (ev f x))
 | .makeSlice t l c=>some (Instr.makeSlice t (ev f l) (ev f c))
 | .binOp op t x y _=>some (do eqGuard op t x y (ev f x) (ev f y);binOp op t (ev f x) (ev f y))
 | .convert s d x=>some (convert s d (ev f x))
 | .makeMap t r=>some (Instr.makeMap t (r.map (ev f)))
 | .lookup t x i ok=>some (Instr.lookup t (ev f x) (ev f i) ok)
 | .makeInterface t x=>some (Instr.makeInterface t (ev f x))
 | .call c=>match c.callee with
   | .builtin .append=>some (Builtin.append_ c.argTypes o.type (c.args.map (ev f)))
   | .builtin .copy=>some (Builtin.copy_ c.argTypes o.type (c.args.map (ev f)))
   | .builtin .clear=>some (Builtin.clear_ c.argTypes o.type (c.args.map (ev f)))
   | .builtin .len=>some (Builtin.len_ c.argTypes o.type (c.args.map (ev f)))
   | .builtin .delete=>some (Builtin.delete_ c.argTypes o.type (c.args.map (ev f)))
   | _=>none
 | _=>none
def ab1(r:Result Value)(K:Fr→World→Prop)(f:Fr)(d:Option Nat):Prop:=match r with
 | .ok v w=>K (A7 f d v) w
 | _=>False
def aV1(r:Result Unit)(K:Fr→World→Prop)(f:Fr)(d:Option Nat):Prop:=match r with
 | .ok _ w=>K (A7 f d undef) w
 | _=>False
def B6(P:Program)(S:World→Prop)(s:Sem Value)(K:Fr→World→Prop)(f:Fr)(d:Option Nat)(w:World):Prop:=
 ∃v,(∀w',S w'→s.run P w' = .ok v w')∧K (A7 f d v) w
def F6(S:World→Prop)(K:Fr→World→Prop):Fr→World→Prop:=fun f w=>S w∧K f w
def bc1(P:Program)(S:Option (World→Prop))(fl:Bool)(s:Sem Value)(K:Fr→World→Prop)(f:Fr)(d:Option Nat)(w:World):Prop:=
 match S with
 | none=>ab1 (s.run P w) K f d
 | some S=>if fl then B6 P S s K f d w else ab1 (s.run P w) (F6 S K) f d
def aI4(S:Option (World→Prop))(K:Fr→World→Prop):Fr→World→Prop:=
 match S with
 | none=>K
 | some S=>F6 S K
def ag0(P:Program)(k:Nat):Bool:=match P.funcs[k]? with
 | some fn=>fn.name != "runtime.NumGoroutine" && fn.body.isSome
 | none=>false
def ar5(P:Program)(k:Nat)(args:List Value)(w:World)(K:Fr→World→Prop)(f:Fr)(d:Option Nat):Prop:=
 (ag0 P k=true∧Calls P k args.toArray w fun e w'=>∃v,e = .returned v∧K (A7 f d v) w')∨∃v w',(callFunc k args.toArray).run P w = .ok (.value v) w'∧K (A7 f d v) w'
def V6(P:Program)(S:Option (World→Prop))(o:Oper)(K:Fr→World→Prop)(f:Fr)(w:World):Prop:=
 match aS5 f o with
 | some s=>bc1 P S (flt o.op) s K f o.dst w
 | none=>match o.op with
   | .store t a x=>aV1 ((Instr.storeAt t (ev f a) (ev f x)).run P w) (aI4 S K) f o.dst
   | .mapUpdate t m k x=>aV1 ((Instr.mapUpdate t (ev f m) (ev f k) (ev f x)).run P w) (aI4 S K) f o.dst
   | .insert t m k x=>aV1 ((Instr.mapUpdate t (ev f m) (ev f k) (ev f x)).run P w) (aI4 S K) f o.dst
   | .call c=>match c.callee with
     | .value g=>match ev f g with
       | .func (.func k) first cap=>ar5 P k (first.toList++c.args.toList.map (ev f)++cap.toList) w (aI4 S K) f o.dst
       | _=>False
     | _=>False
   | _=>match S with
     | none=>M9 P o K f w
     | some S=>if flt o.op then ∃v,bl3 P S o f v∧K (A7 f o.dst v) w else M9 P o (fun f' w'=>S w'∧K f' w') f w
def B1(P:Program)(S:Option (World→Prop))(o:Oper)(K:Fr→World→Prop)(f:Fr)(w:World):Prop:=
 match ao1 P f o.op with
 | some v=>K (A7 f o.dst v) w
 | none=>V6 P S o K f w
def Rn(P:Program)(ops:Array Oper):List Oper→(Fr→World→Prop)→Fr→World→Prop
 | [],K,f,w=>K f w
 | o::l,K,f,w=>match o.guard with
   | none=>B1 P none o (Rn P ops l K) f w
   | some (j,b)=>if aH5 ops f j=some b then B1 P none o (Rn P ops l K) f w else Rn P ops l K (A7 f o.dst undef) w
def RnF(P:Program)(ops:Array Oper)(S:World→Prop):aA4→(Fr→World→Prop)→Fr→World→Prop
 | .nil,K,f,w=>K f w
 | .op i l,K,f,w=>
  match ops[i]? with
  | none=>False
  | some o=>match o.guard with
    | none=>B1 P (some S) o (RnF P ops S l K) f w
    | some (j,b)=>if aH5 ops f j=some b then B1 P (some S) o (RnF P ops S l K) f w else RnF P ops S l K (A7 f o.dst undef) w
 | .fork rs k,K,f,w=>∀i∈rs,
   match ops[i]? with
   | none=>False
   | some o=>match o.guard with
     | none=>B1 P (some S) o (RnF P ops S (k i) K) f w∧flt o.op=false
     | some (j,b)=>if aH5 ops f j=some b then B1 P (some S) o (RnF P ops S (k i) K) f w∧flt o.op=false else RnF P ops S (k i) K (A7 f o.dst undef) w
section
variable {P:Program}
theorem ci3{k:Nat}{args:List Value}{w:World}{K:Fr→World→Prop}{f:Fr}{d:Option Nat}(h:ar5 P k args w K f d):
  match(callFunc k args.toArray).run P w with
  | .ok (.value v) w'=>K (A7 f d v) w'
  | .ok (.enter g asz) w'=>Calls P g asz w' fun e w''=>∃v,e = .returned v∧K (A7 f d v) w''
  | _=>False:=by
 rcases h with⟨hb,h⟩|⟨v,w',hr,h⟩
 ·unfold ag0 at hb;cases hf:P.funcs[k]? with
  | none=>simp[hf]at hb
  | some fn=>
   simp only[hf,ey9,bne_iff_ne,ne_eq]at hb;obtain⟨hn,hbd⟩:=hb;have hbn:fn.body.isNone=false:=by cases hx:fn.body<;>simp[hx]at hbd ⊢
   have hne:(fn.name == "runtime.NumGoroutine")=false:=by simpa using hn
   simp only[callFunc,program,ey8,Sem.run,ey0,hf,hne,hbn,eD3,eE5];exact h
 ·rw[hr];exact h
theorem bq6{d:Option Nat}{g:Operand}{args:Array Operand}{tys:Array TypeId}{ty:TypeId}{pos:String}{aft:Array Edge}{gd:Option (Nat×Bool)}{K:Fr→World→Prop}{f:Fr}{w:World}
  (h:match ev f g with
    | .func (.func k) first cap=>ar5 P k (first.toList++args.toList.map (ev f)++cap.toList) w K f d
    | _=>False):M9 P ⟨d,.call ⟨.value g,args,tys⟩,ty,pos,aft,gd⟩ K f w:=by
 cases hg:ev f g
 case func fn first cap=>
  cases fn
  case func k=>
   simp only[hg]at h;have h2:=ci3 h;unfold M9;have e:(execOp (ev f) ⟨d,.call ⟨.value g,args,tys⟩,ty,pos,aft,gd⟩).run P w=(callFunc k (first.toList++args.toList.map (ev f)++cap.toList).toArray).run P w:=by
    simp only[execOp,resolve,hg,Deferred.ofValue,invoke,ey8,eA0,ey0]
    congr 2
    apply Array.ext';simp
   rw[e];generalize(callFunc k (first.toList++args.toList.map (ev f)++cap.toList).toArray).run P w=r at *;cases r with
   | halt x w'=>exact h2
   | ok n w'=>
    cases n
    case value v=>exact h2
    case enter g asz=>exact h2
    all_goals exact h2.elim
  all_goals (simp only[hg]at h)
 all_goals (simp only[hg]at h)
theorem al8{o:Oper}{s:Sem Unit}{K:Fr→World→Prop}{f:Fr}{w:World}(he:execOp (ev f) o=(do s;pure .skip:Sem Next))(h:aV1 (s.run P w) K f o.dst):M9 P o K f w:=by
 unfold M9;rw[he,ey8];unfold aV1 at h;cases hr:s.run P w with
 | ok u w'=>rw[hr]at h;exact h
 | halt x w'=>rw[hr]at h;exact h.elim
theorem aa1{o:Oper}{s:Sem Value}{K:Fr→World→Prop}{f:Fr}{w:World}(he:execOp (ev f) o=(do pure (.value (←s)):Sem Next))(h:ab1 (s.run P w) K f o.dst):M9 P o K f w:=by
 unfold M9;rw[he,ey8];unfold ab1 at h;cases hr:s.run P w with
 | ok u w'=>rw[hr]at h;exact h
 | halt x w'=>rw[hr]at h;exact h.elim
theorem aR1{o:Oper}{K:Fr→World→Prop}{f:Fr}{w:World}(h:B1 P none o K f w):M9 P o K f w:=by
 unfold B1 at h;cases hp:ao1 P f o.op with
 | some v=>
  simp only[hp]at h;unfold M9;rw[aD2 hp];exact h
 | none=>
  simp only[hp]at h;obtain⟨d,op,ty,pos,aft,gd⟩:=o;unfold V6 aS5 at h;cases op
  case call c=>
   obtain⟨cal,args,tys⟩:=c;cases cal
   case builtin b=>
    cases b
    case append=>exact aa1 rfl h
    case copy=>exact aa1 rfl h
    case clear=>exact aa1 rfl h
    case len=>exact aa1 rfl h
    case delete=>exact aa1 rfl h
    all_goals exact h.elim
   case value g=>exact bq6 h
   case invoke r m=>exact h.elim
  case store t a x=>exact al8 rfl h
  case mapUpdate t m k x=>exact al8 rfl h
  case insert t m k x=>exact al8 rfl h
  all_goals first
   | exact aa1 rfl h
   | exact h
theorem aR0{S:World→Prop}{o:Oper}{K:Fr→World→Prop}{f:Fr}{w:World}(h:B1 P (some S) o K f w)(hS:S w):
  if flt o.op then ∃v,bl3 P S o f v∧K (A7 f o.dst v) w else M9 P o (fun f' w'=>S w'∧K f' w') f w:=by
 unfold B1 at h;cases hp:ao1 P f o.op with
 | some v=>
  simp only[hp]at h;split
  ·exact⟨v,fun w' _=>aD2 hp w',h⟩
  ·unfold M9;rw[aD2 hp];exact⟨hS,h⟩
 | none=>
  simp only[hp]at h;obtain⟨d,op,ty,pos,aft,gd⟩:=o;have lift:∀{s:Sem Value},(execOp (ev f) ⟨d,op,ty,pos,aft,gd⟩)=(do pure (.value (←s)):Sem Next)→bc1 P (some S) (flt op) s K f d w →
    if flt op then ∃v,bl3 P S ⟨d,op,ty,pos,aft,gd⟩ f v∧K (A7 f d v) w else M9 P ⟨d,op,ty,pos,aft,gd⟩ (fun f' w'=>S w'∧K f' w') f w:=by
   intro s he hs;unfold bc1 at hs;cases hfl:flt op with
   | true=>
    simp only[hfl,eC9]at hs;obtain⟨v,hr,hk⟩:=hs;rw[if_pos rfl];refine⟨v,fun w' hw'=>?_,hk⟩;rw[he,ey8,hr w' hw'];rfl
   | false=>
    simp only[hfl,eD3,eE5]at hs;rw[if_neg (by simp)];exact aa1 he hs
  unfold V6 aS5 at h;cases op
  case call c=>
   obtain⟨cal,args,tys⟩:=c;cases cal
   case builtin b=>
    cases b
    case append=>exact lift rfl h
    case copy=>exact lift rfl h
    case clear=>exact lift rfl h
    case len=>exact lift rfl h
    case delete=>exact lift rfl h
    all_goals exact h.elim
   case value g=>exact bq6 (K:=F6 S K) h
   case invoke r m=>exact h.elim
  case store t a x=>exact al8 (K:=F6 S K) rfl h
  case mapUpdate t m k x=>exact al8 (K:=F6 S K) rfl h
  case insert t m k x=>exact al8 (K:=F6 S K) rfl h
  all_goals first
   | exact lift rfl h
   | exact h
theorem ar7{ops:Array Oper}{K:Fr→World→Prop}:∀(l:List Oper) (f:Fr) (w:World),Rn P ops l K f w→Run P ops l K f w
 | [],f,w,h=>h
 | o::l,f,w,h=>by
  unfold Rn at h;unfold Run Region.wanted;cases hg:o.guard with
  | none=>
   simp only[hg]at h;simp only[eC9];exact af0 (ar7 l) (aR1 h)
  | some jb=>
   obtain⟨j,b⟩:=jb;simp only[hg]at h;simp only[beq_iff_eq];split
   ·rename_i hc;rw[if_pos hc]at h;exact af0 (ar7 l) (aR1 h)
   ·rename_i hc;rw[if_neg hc]at h;exact ar7 l _ _ h
theorem ak7{ops:Array Oper}{S:World→Prop}{K K':Fr→World→Prop}(hk:∀f w,K f w→K' f w):∀(l:aA4) (f:Fr) (w:World),ap4 P ops S l K f w→ap4 P ops S l K' f w
 | .nil,f,w,h=>hk _ _ h
 | .op i l,f,w,h=>by
  unfold ap4 at *;cases ho:ops[i]? with
  | none=>simp[ho]at h
  | some o=>
   simp only[ho]at h ⊢;split
   ·rename_i hw;rw[if_pos hw]at h;split
    ·rename_i hf;rw[if_pos hf]at h;obtain⟨v,h1,h2⟩:=h;exact⟨v,h1,ak7 hk l _ _ h2⟩
    ·rename_i hf;rw[if_neg hf]at h;exact af0 (fun f w hh=>⟨hh.1,ak7 hk l _ _ hh.2⟩) h
   ·rename_i hw;rw[if_neg hw]at h;exact ak7 hk l _ _ h
 | .fork rs k,f,w,h=>by
  unfold ap4 at *;intro i hi;have h:=h i hi;cases ho:ops[i]? with
  | none=>simp[ho]at h
  | some o=>
   simp only[ho]at h ⊢;split
   ·rename_i hw;rw[if_pos hw]at h;exact af0 (fun f w hh=>⟨hh.1,ak7 hk (k i) _ _ hh.2⟩) h
   ·rename_i hw;rw[if_neg hw]at h;exact ak7 hk (k i) _ _ h
theorem aa4{ops:Array Oper}{S:World→Prop}{K:Fr→World→Prop}:∀(l:aA4) (f:Fr) (w:World),S w→RnF P ops S l K f w→ap4 P ops S l K f w
 | .nil,f,w,_,h=>h
 | .op i l,f,w,hS,h=>by
  unfold RnF at h;unfold ap4 Region.wanted;cases ho:ops[i]? with
  | none=>simp[ho]at h
  | some o=>
   simp only[ho]at h ⊢;have main:B1 P (some S) o (RnF P ops S l K) f w→(if flt o.op then ∃v,bl3 P S o f v∧ap4 P ops S l K (A7 f o.dst v) w else M9 P o (fun f' w'=>S w'∧ap4 P ops S l K f' w') f w):=by
    intro h1;have h2:=aR0 h1 hS;split
    ·rename_i hf;rw[if_pos hf]at h2;obtain⟨v,h3,h4⟩:=h2;exact⟨v,h3,aa4 l _ _ hS h4⟩
    ·rename_i hf;rw[if_neg hf]at h2;exact af0 (fun f w hh=>⟨hh.1,aa4 l _ _ hh.1 hh.2⟩) h2
   cases hg:o.guard with
   | none=>
    simp only[hg]at h;simp only[eC9];exact main h
   | some jb=>
    obtain⟨j,b⟩:=jb;simp only[hg]at h;simp only[beq_iff_eq];split
    ·rename_i hc;rw[if_pos hc]at h;exact main h
    ·rename_i hc;rw[if_neg hc]at h;exact aa4 l _ _ hS h
 | .fork rs k,f,w,hS,h=>by
  unfold RnF at h;unfold ap4 Region.wanted;intro i hi;have h:=h i hi;cases ho:ops[i]? with
  | none=>simp[ho]at h
  | some o=>
   simp only[ho]at h ⊢;have main:B1 P (some S) o (RnF P ops S (k i) K) f w∧flt o.op=false→M9 P o (fun f' w'=>S w'∧ap4 P ops S (k i) K f' w') f w:=by
    rintro⟨h1,hf⟩;have h2:=aR0 h1 hS;rw[if_neg (by simp[hf])]at h2;exact af0 (fun f w hh=>⟨hh.1,aa4 (k i) _ _ hh.1 hh.2⟩) h2
   cases hg:o.guard with
   | none=>
    simp only[hg]at h;simp only[eC9];exact main h
   | some jb=>
    obtain⟨j,b⟩:=jb;simp only[hg]at h;simp only[beq_iff_eq];split
    ·rename_i hc;rw[if_pos hc]at h;exact main h
    ·rename_i hc;rw[if_neg hc]at h;exact aa4 (k i) _ _ hS h
end
def W8(K:Fr→World→Prop)(Q:Exit→Fr→World→Prop):Exit→Fr→World→Prop
 | .normal,f,w=>K f w
 | e,f,w=>Q e f w
def S9(id:Nat)(Q:Exit→Fr→World→Prop):Exit→Fr→World→Prop
 | .exit id',f,w=>if id'=id then Q .normal f w else Q (.exit id') f w
 | e,f,w=>Q e f w
def aI0(v:Value)(A B:Fr→World→Prop)(f:Fr)(w:World):Prop:=
 match v with
 | .bool true=>A f w
 | .bool false=>B f w
 | _=>False
def bY4(B:(Exit→Fr→World→Prop)→Fr→World→Prop)(Q:Exit→Fr→World→Prop)(f:Fr)(w:World):Prop:=
 ∃(σ:Type) (I:σ→Fr→World→Prop) (m:σ→Nat) (s0:σ),I s0 f w ∧
  ∀s f' w',I s f' w'→B (W8 (fun f'' w''=>∃s',m s'<m s∧I s' f'' w'') Q) f' w'
def cp6(P:Program)(ops:Array Oper)(K:Fr→World→Prop)(f:Fr)(w:World):Prop:=
 ∃(S:World→Prop) (n:Nat) (ord:aA4),bK6 ops n ord=true∧S w.drew∧RnF P ops S ord (Rn P ops (ops.toList.drop n) K) f w.drew
def CW(P:Program):Code→(Exit→Fr→World→Prop)→Fr→World→Prop
 | .skip,Q,f,w=>Q .normal f w
 | .seq a b,Q,f,w=>CW P a (W8 (CW P b Q) Q) f w
 | .cond c a b,Q,f,w=>aI0 (ev f c) (CW P a Q) (CW P b Q) f w
 | .block id a,Q,f,w=>CW P a (S9 id Q) f w
 | .loop a,Q,f,w=>bY4 (CW P a) Q f w
 | .region _ ops d,Q,f,w=>if d then cp6 P ops (Q .normal) f w else Rn P ops ops.toList (Q .normal) f w
 | .exit id,Q,f,w=>Q (.exit id) f w
 | .label _,Q,f,w=>Q .normal f w
 | .ret,Q,f,w=>Q .ret f w
 | _,_,_,_=>False
def aq8(N:Nat):Code→Bool
 | .seq a b=>aq8 N a&&aq8 N b
 | .cond _ a b=>aq8 N a&&aq8 N b
 | .block _ a=>aq8 N a
 | .loop a=>aq8 N a
 | .region _ ops _=>ct9 N ops
 | _=>true
def ct3(Q:Exit→Fr→World→Prop):Prop:=∀c f w,¬Q (.panic c) f w
theorem bq8{K:Fr→World→Prop}{Q:Exit→Fr→World→Prop}(h:ct3 Q):ct3 (W8 K Q):=fun c f w=>h c f w
theorem bQ0{id:Nat}{Q:Exit→Fr→World→Prop}(h:ct3 Q):ct3 (S9 id Q):=fun c f w=>h c f w
theorem bY2{P:Program}{Q:Exit→Act→World→Prop}{a:Act}{w:World}{c:Code}{σ:Type}(I:σ→Act→World→Prop)(m:σ→Nat)(s0:σ)(h₀:I s0 a w)
  (round:∀s a w,I s a w→c.wp P (Exit.then (fun a' w'=>∃s',m s'<m s∧I s' a' w') Q) a w):(Code.loop c).wp P Q a w:=by
 intro b k cs;have key:∀n s a w,m s=n→I s a w →
   ∃e a' w',Q e a' w'∧Arrives P (lone (b.at a (.code c :: .inLoop c::k)) cs w) b k cs e a' w':=by
  intro n
  induction n using Nat.strongRecOn with
  | _ n ih=>
   intro s a w hn hI;obtain⟨e,a₁,w₁,hq,harr⟩:=round s a w hI b (.inLoop c::k) cs;cases e with
   | normal=>
    obtain⟨s',hlt,hI₁⟩:=hq;obtain⟨e₂,a₂,w₂,hq₂,harr₂⟩:=ih (m s') (hn ▸ hlt) s' a₁ w₁ rfl hI₁;exact⟨e₂,a₂,w₂,hq₂,.of_steps (Steps.trans harr (.one step_inLoop)) harr₂⟩
   | exit id=>exact⟨_,a₁,w₁,hq,.pass (x:=.inLoop c) rfl (fun _ _=>.inl (by simp)) harr⟩
   | goto l=>exact⟨_,a₁,w₁,hq,.pass (x:=.inLoop c) rfl (fun _ _=>.inl (by simp)) harr⟩
   | ret=>exact⟨_,a₁,w₁,hq,.pass (x:=.inLoop c) rfl (fun _ _=>.inl (by simp)) harr⟩
   | panic ch=>exact⟨_,a₁,w₁,hq,.pass (x:=.inLoop c) rfl (fun _ _=>.inl (by simp)) harr⟩
   | outgrown=>exact⟨_,a₁,w₁,hq,.pass (x:=.inLoop c) rfl (fun _ _=>.inl (by simp)) harr⟩
 obtain⟨e,a',w',hq,harr⟩:=key _ s0 a w rfl h₀;exact⟨e,a',w',hq,.of_steps (.one step_loop) harr⟩
theorem cp3{P:Program}{N:Nat}(hm:P.follows .mixedOrders=true):∀(c:Code) (Q:Exit→Fr→World→Prop) (a:Act) (w:World),ct3 Q→aq8 N c=true →
  a.tmps.size=N→a.defers=[]→CW P c Q (Z5 a) w→c.wp P (lft N Q) a w:=by
 intro c
 induction c with
 | skip=>intro Q a w _ _ hn hd h;exact wp_skip ⟨hn,hd,h⟩
 | seq x y ihx ihy=>
  intro Q a w hQ hok hn hd h;simp only[aq8,ey9]at hok;refine wp_seq (wp_mono (ihx _ a w (bq8 hQ) hok.1 hn hd h) ?_);intro e a' w' hq;cases e
  case normal=>exact ihy _ a' w' hQ hok.2 hq.1 hq.2.1 hq.2.2
  all_goals exact hq
 | cond v x y ihx ihy=>
  intro Q a w hQ hok hn hd h;simp only[aq8,ey9]at hok;simp only[CW]at h;unfold aI0 at h;have he:a.eval v=ev (Z5 a) v:=by rw[by4]
  generalize hv:ev (Z5 a) v=u at h;cases u
  case bool t=>
   cases t
   case true=>exact wp_cond_true (by rw[he,hv]) (ihx _ a w hQ hok.1 hn hd h)
   case false=>exact wp_cond_false (by rw[he,hv]) (ihy _ a w hQ hok.2 hn hd h)
  all_goals exact h.elim
 | block id x ih=>
  intro Q a w hQ hok hn hd h;refine wp_block (wp_mono (ih _ a w (bQ0 hQ) hok hn hd h) ?_);intro e a' w' hq;cases e
  case exit id'=>
   simp only[Exit.inBlock];simp only[lft,S9]at hq;split
   ·rename_i hid;rw[if_pos hid]at hq;exact hq
   ·rename_i hid;rw[if_neg hid]at hq;exact hq
  all_goals exact hq
 | loop x ih=>
  intro Q a w hQ hok hn hd h;obtain⟨σ,I,m,s0,h0,hr⟩:=h;refine bY2 (fun s a w=>a.tmps.size=N∧a.defers=[]∧I s (Z5 a) w) m s0 ⟨hn,hd,h0⟩ ?_;rintro s a' w' ⟨hn',hd',hI⟩;refine wp_mono (ih _ a' w' (bq8 hQ) hok hn' hd' (hr s _ w' hI)) ?_;intro e a'' w'' hq;cases e
  case normal=>
   obtain⟨h1,h2,s',h3,h4⟩:=hq;exact⟨s',h3,h1,h2,h4⟩
  all_goals exact hq
 | region id ops d=>
  intro Q a w hQ hok hn hd h;cases d
  case false=>
   simp only[CW,eD3,eE5]at h;exact wp_region_list (ar3 _ a w (fun o ho=>Array.all_eq_true'.1 hok o (by simpa using ho)) hn hd (ar7 _ _ _ h))
  case true=>
   simp only[CW,eC9]at h;obtain⟨S,n,ord,h1,h3,h4⟩:=h;exact bn0 hm hQ h1 hok hn hd h3 (ak7 (fun f w hh=>ar7 _ f w hh) _ _ _ (aa4 _ _ _ h3 h4))
 | exit id=>intro Q a w _ _ hn hd h;exact wp_exit ⟨hn,hd,h⟩
 | label l=>intro Q a w _ _ hn hd h;exact wp_label ⟨hn,hd,h⟩
 | ret=>intro Q a w _ _ hn hd h;exact wp_ret ⟨hn,hd,h⟩
 | _=>intro Q a w _ _ _ _ h;exact h.elim
def db3(args:List Value):Fr:=fun i=>args.getD i undef
def bP4:Nat→List Value→Fr
 | _,[]=>fun _=>undef
 | k,v::vs=>p7 (bP4 (k+1) vs) k v
theorem bZ0:∀(vs:List Value) (k i:Nat),bP4 k vs (k+i)=vs.getD i undef
 | [],_,_=>by simp[bP4]
 | v::vs,k,0=>by simp[bP4,p7]
 | v::vs,k,i+1=>by
  have:=bZ0 vs (k+1) i;simp only[bP4,p7];rw[if_neg (by omega),show k+(i+1)=k+1+i by omega,this];simp
theorem db4(args:List Value):db3 args=bP4 0 args:=by
 funext i
 have:=bZ0 args 0 i;simp only[ez8]at this;rw[this];rfl
def bU7(P:Program)(w:World)(f:Fr):ResultVar→Value→Prop
 | .tmp t,v=>v=f t
 | .cell a ty,v=>(do loadVar ty (←asAddr (f a)):Sem Value).run P w = .ok v w
def bj4(P:Program)(w:World)(f:Fr):List ResultVar→List Value→Prop
 | [],[]=>True
 | r::rs,v::vs=>bU7 P w f r v∧bj4 P w f rs vs
 | _,_=>False
def aW2:List Value→Value
 | [v]=>v
 | vs=>.tuple vs.toArray
def bn3(P:Program)(fn:Func)(R:Value→World→Prop):Exit→Fr→World→Prop
 | .normal,f,w=>∃vs,bj4 P w f fn.results.toList vs∧R (aW2 vs) w
 | .ret,f,w=>∃vs,bj4 P w f fn.results.toList vs∧R (aW2 vs) w
 | _,_,_=>False
theorem bj5{P:Program}{w:World}{a:Act}:∀(rs:List ResultVar) (vs:List Value),bj4 P w (Z5 a) rs vs →
  (rs.mapM (m:=Sem) fun
   | .tmp t=>pure (a.tmps.getD t undef)
   | .cell x t=>do loadVar t (←asAddr (a.tmps.getD x undef))).run P w = .ok vs w
 | [],[],_=>by simp
 | [],_::_,h=>h.elim
 | _::_,[],h=>h.elim
 | r::rs,v::vs,h=>by
  have ih:=bj5 rs vs h.2;have h1:=h.1;cases r with
  | tmp t=>
   simp only[bU7,Z5]at h1;subst h1;simp only[List.mapM_cons,ey8,eA0,ey0,ih]
  | cell x t=>
   simp only[bU7,Z5]at h1;simp only[List.mapM_cons];rw[ey8,h1];simp only[ey8,eA0,ey0,ih]
theorem ba4{P:Program}{fn:Func}{w:World}{a:Act}{vs:List Value}(h:bj4 P w (Z5 a) fn.results.toList vs):
  (results fn a.tmps).run P w = .ok (aW2 vs) w:=by
 have h1:=bj5 _ _ h;unfold results;rw[Array.mapM_eq_mapM_toList];simp only[ey8,Sem.run_map]
 erw [h1]
 simp only[ey0,eA0]
 congr 1
 match vs with
 | []=>simp[aW2]
 | [v]=>simp[aW2]
 | v::u::vs=>simp[aW2]
theorem d9{P:Program}{k:FuncId}{fn:Func}{c:Code}{args:List Value}{w:World}{R:Value→World→Prop}(hm:P.follows .mixedOrders=true)
  (hf:P.funcs[k]?=some fn) (hb:fn.body=some c) (hok:aq8 fn.ntmps c=true) (hargs:args.length≤fn.ntmps)
  (h:CW P c (bn3 P fn R) (bP4 0 args) w):Calls P k args.toArray w (fun e w'=>∃v,e = .returned v∧R v w'):=by
 rw[←db4]at h;refine calls_of_wp hf hb ?_;have hfr:Z5 {tmps:=args.toArray++Array.replicate (fn.ntmps-args.toArray.size) undef,defers:=[]}=db3 args:=by
  funext i
  simp only[Z5,db3,Array.getD_eq_getD_getElem?,List.getD_eq_getElem?_getD];by_cases hi:i<args.length
  ·rw[Array.getElem?_append_left (by simpa using hi)];simp
  ·rw[Array.getElem?_append_right (by simp;omega)];rw[eD2 (by omega)];by_cases h2:i-args.length<fn.ntmps-args.length
   ·simp[h2]
   ·simp[h2]
 have:=cp3 (N:=fn.ntmps) hm c (bn3 P fn R) {tmps:=args.toArray++Array.replicate (fn.ntmps-args.toArray.size) undef,defers:=[]} w
  (fun c f w hh=>hh) hok (by simp;omega) rfl (by rw[hfr];exact h)
 refine wp_mono this ?_;intro e a' w' hq;cases e
 case normal=>
  obtain⟨_,hd,vs,hv,hR⟩:=hq;exact⟨hd,_,ba4 hv,_,rfl,hR⟩
 case ret=>
  obtain⟨_,hd,vs,hv,hR⟩:=hq;exact⟨hd,_,ba4 hv,_,rfl,hR⟩
 all_goals exact hq.2.2.elim
theorem n9{P:Program}{fn:Func}{R:Value→World→Prop}{f:Fr}{w:World}{t:Nat}(h:fn.results=#[.tmp t])(hR:R (f t) w):bn3 P fn R .ret f w:=
 ⟨[f t],by rw[h];exact⟨rfl,trivial⟩,hR⟩
theorem ad4{P:Program}{fn:Func}{R:Value→World→Prop}{f:Fr}{w:World}{t u:Nat}(h:fn.results=#[.tmp t,.tmp u])(hR:R (.tuple #[f t,f u]) w):bn3 P fn R .ret f w:=
 ⟨[f t,f u],by rw[h];exact⟨rfl,rfl,trivial⟩,hR⟩
theorem cC1{P:Program}{fn:Func}{R:Value→World→Prop}{f:Fr}{w:World}(h:fn.results=#[])(hR:R (.tuple #[]) w):bn3 P fn R .normal f w:=
 ⟨[],by rw[h];exact trivial,hR⟩
section
variable {P:Program} {Q:Exit→Fr→World→Prop} {f:Fr} {w:World} {K:Fr→World→Prop} {ops:Array Oper} {l:List Oper}
theorem ea2:CW P .skip Q f w=Q .normal f w:=rfl
theorem bd9{a b:Code}:CW P (.seq a b) Q f w=CW P a (W8 (CW P b Q) Q) f w:=rfl
theorem dZ5{c:Operand}{a b:Code}:CW P (.cond c a b) Q f w=aI0 (ev f c) (CW P a Q) (CW P b Q) f w:=rfl
theorem dC4{id:Nat}{a:Code}:CW P (.block id a) Q f w=CW P a (S9 id Q) f w:=rfl
theorem dZ8{a:Code}:CW P (.loop a) Q f w=bY4 (CW P a) Q f w:=rfl
theorem ed6{id:Nat}:CW P (.region id ops false) Q f w=Rn P ops ops.toList (Q .normal) f w:=rfl
theorem dZ6{id:Nat}:CW P (.region id ops true) Q f w=cp6 P ops (Q .normal) f w:=rfl
theorem dZ7{id:Nat}:CW P (.exit id) Q f w=Q (.exit id) f w:=rfl
theorem ed7:CW P .ret Q f w=Q .ret f w:=rfl
theorem ed3:W8 K Q .normal f w=K f w:=rfl
theorem dL4:W8 K Q .normal=K:=rfl
theorem ed4:W8 K Q .ret f w=Q .ret f w:=rfl
theorem ed5{i:Nat}:W8 K Q (.exit i) f w=Q (.exit i) f w:=rfl
theorem dD5{i:Nat}:S9 i Q .normal f w=Q .normal f w:=rfl
theorem dB1{i:Nat}:S9 i Q .normal=Q .normal:=rfl
theorem dD6{i:Nat}:S9 i Q .ret f w=Q .ret f w:=rfl
theorem dD7{i j:Nat}:S9 i Q (.exit j) f w=if j=i then Q .normal f w else Q (.exit j) f w:=rfl
theorem ec1{A B:Fr→World→Prop}:aI0 (.bool true) A B f w=A f w:=rfl
theorem ec0{A B:Fr→World→Prop}:aI0 (.bool false) A B f w=B f w:=rfl
theorem i5{A B:Fr→World→Prop}{b:Bool}(h1:b=true→A f w)(h2:b=false→B f w):aI0 (.bool b) A B f w:=by
 cases b
 ·exact h2 rfl
 ·exact h1 rfl
theorem ee0:Rn P ops [] K f w=K f w:=rfl
theorem eq8{d:Option Nat}{op:Op}{ty:TypeId}{pos:String}{aft:Array Edge}:
  Rn P ops (⟨d,op,ty,pos,aft,none⟩::l) K f w=B1 P none ⟨d,op,ty,pos,aft,none⟩ (Rn P ops l K) f w:=rfl
theorem eu6{d:Option Nat}{op:Op}{ty:TypeId}{pos:String}{aft:Array Edge}{j:Nat}{b:Bool}:
  Rn P ops (⟨d,op,ty,pos,aft,some (j,b)⟩::l) K f w =
   if aH5 ops f j=some b then B1 P none ⟨d,op,ty,pos,aft,none⟩ (Rn P ops l K) f w else Rn P ops l K (A7 f d undef) w:=rfl
theorem dC2{S:Option (World→Prop)}{d:Option Nat}{op:Op}{ty:TypeId}{pos:String}{aft:Array Edge}{g:Nat×Bool}:
  B1 P S ⟨d,op,ty,pos,aft,some g⟩ K f w=B1 P S ⟨d,op,ty,pos,aft,none⟩ K f w:=rfl
def cv8(ops:Array Oper)(j:Nat):Option Nat:=(ops[j]?).bind (·.dst)
theorem dB7{j:Nat}:aH5 ops f j=match cv8 ops j with|some d=>(match f d with | .bool b=>some b|_=>none)|none=>none:=rfl
section
variable {S:World→Prop} {n i:Nat} {r:aA4}
theorem ea4:RnF P ops S .nil K f w=K f w:=rfl
theorem ed8:RnF P ops S (.op i r) K f w =
  match ops[i]? with
  | none=>False
  | some o=>match o.guard with
    | none=>B1 P (some S) o (RnF P ops S r K) f w
    | some (j,b)=>if aH5 ops f j=some b then B1 P (some S) o (RnF P ops S r K) f w else RnF P ops S r K (A7 f o.dst undef) w:=rfl
end
section
variable {S:Option (World→Prop)} {d:Option Nat} {ty:TypeId} {pos:String} {aft:Array Edge}
theorem ec9{x:Operand}:B1 P S ⟨d,.move x,ty,pos,aft,none⟩ K f w=K (A7 f d (ev f x)) w:=rfl
theorem dC3{x:Operand}:B1 P S ⟨d,.assign x,ty,pos,aft,none⟩ K f w=K (A7 f d (ev f x)) w:=rfl
def aw7(v:Option Value)(K:Fr→World→Prop)(f:Fr)(d:Option Nat)(w:World)(D:Prop):Prop:=match v with
 | some v=>K (A7 f d v) w
 | none=>D
theorem el9{v:Value}{D:Prop}:aw7 (some v) K f d w D=K (A7 f d v) w:=rfl
theorem ed1{v:Value}:ab1 (.ok v w) K f d=K (A7 f d v) w:=rfl
theorem ed2{v:Unit}:aV1 (.ok v w) K f d=K (A7 f d undef) w:=rfl
theorem ed0{c a b:Operand}:B1 P S ⟨d,.pick c a b,ty,pos,aft,none⟩ K f w =
  aw7 (match ev f c with | .bool t=>some (if t then ev f a else ev f b)|_=>none) K f d w (V6 P S ⟨d,.pick c a b,ty,pos,aft,none⟩ K f w):=rfl
theorem em1{op:BinOp}{t t2:TypeId}{x y:Operand}:B1 P S ⟨d,.binOp op t x y t2,ty,pos,aft,none⟩ K f w =
  aw7 (B9 P op t (ev f x) (ev f y)) K f d w (V6 P S ⟨d,.binOp op t x y t2,ty,pos,aft,none⟩ K f w):=rfl
theorem eu5{op:UnOp}{t:TypeId}{x:Operand}:B1 P S ⟨d,.unOp op t x,ty,pos,aft,none⟩ K f w =
  aw7 (unV op (ev f x)) K f d w (V6 P S ⟨d,.unOp op t x,ty,pos,aft,none⟩ K f w):=rfl
theorem cP2{s:TypeId}{x:Operand}{i:Nat}:B1 P S ⟨d,.fieldAddr s x i,ty,pos,aft,none⟩ K f w =
  aw7 (by5 P s i (ev f x)) K f d w (V6 P S ⟨d,.fieldAddr s x i,ty,pos,aft,none⟩ K f w):=rfl
theorem dJ0{s:TypeId}{x:Operand}{i:Nat}:B1 P S ⟨d,.field s x i,ty,pos,aft,none⟩ K f w =
  aw7 (aB5 P s i (ev f x)) K f d w (V6 P S ⟨d,.field s x i,ty,pos,aft,none⟩ K f w):=rfl
theorem cP3{t:TypeId}{x i:Operand}:B1 P S ⟨d,.indexAddr t x i,ty,pos,aft,none⟩ K f w =
  aw7 (v8 P t (ev f x) (ev f i)) K f d w (V6 P S ⟨d,.indexAddr t x i,ty,pos,aft,none⟩ K f w):=rfl
theorem dJ1{t:TypeId}{x i:Operand}:B1 P S ⟨d,.index t x i,ty,pos,aft,none⟩ K f w =
  aw7 (U4 P t (ev f x) (ev f i)) K f d w (V6 P S ⟨d,.index t x i,ty,pos,aft,none⟩ K f w):=rfl
theorem dJ2{t:TypeId}{x:Operand}{lo hi:Option Operand}:B1 P S ⟨d,.slice t x lo hi none,ty,pos,aft,none⟩ K f w =
  aw7 (H5 P t (ev f x) (lo.map (ev f)) (hi.map (ev f))) K f d w (V6 P S ⟨d,.slice t x lo hi none,ty,pos,aft,none⟩ K f w):=rfl
theorem df7{x:Operand}{i:Nat}:B1 P S ⟨d,.extract x i,ty,pos,aft,none⟩ K f w =
  aw7 (match ev f x with | .tuple vs=>vs[i]?|_=>none) K f d w (V6 P S ⟨d,.extract x i,ty,pos,aft,none⟩ K f w):=rfl
theorem cY7{x:Operand}:B1 P S ⟨d,.nilCheck x,ty,pos,aft,none⟩ K f w =
  aw7 (match ev f x with | .pointer (some a)=>some (.pointer (some a))|_=>none) K f d w (V6 P S ⟨d,.nilCheck x,ty,pos,aft,none⟩ K f w):=rfl
theorem cY6{fn:Fn}{first cap:Array Operand}:B1 P S ⟨d,.makeFunc fn first cap,ty,pos,aft,none⟩ K f w=K (A7 f d (.func fn (first.map (ev f)) (cap.map (ev f)))) w:=rfl
theorem dI9{t:TypeId}{parts:Array (Nat×Operand)}:B1 P S ⟨d,.build t parts,ty,pos,aft,none⟩ K f w =
  aw7 (C0 P t (parts.toList.map fun p=>(p.1,ev f p.2))) K f d w (V6 P S ⟨d,.build t parts,ty,pos,aft,none⟩ K f w):=rfl
theorem em3{x:Operand}{t:TypeId}:B1 P S ⟨d,.call {callee:=.builtin .len,args:=#[x],argTypes:=#[t]},ty,pos,aft,none⟩ K f w =
  aw7 (O8 P t (ev f x)) K f d w (V6 P S ⟨d,.call {callee:=.builtin .len,args:=#[x],argTypes:=#[t]},ty,pos,aft,none⟩ K f w):=rfl
theorem em2{x:Operand}{t:TypeId}:B1 P S ⟨d,.call {callee:=.builtin .cap,args:=#[x],argTypes:=#[t]},ty,pos,aft,none⟩ K f w =
  aw7 (cL5 P t (ev f x)) K f d w (V6 P S ⟨d,.call {callee:=.builtin .cap,args:=#[x],argTypes:=#[t]},ty,pos,aft,none⟩ K f w):=rfl
theorem df6{s t:Nat}{x:Operand}:B1 P S ⟨d,.convert s t x,ty,pos,aft,none⟩ K f w =
  aw7 (aX7 P s t (ev f x)) K f d w (V6 P S ⟨d,.convert s t x,ty,pos,aft,none⟩ K f w):=rfl
theorem el7{D:Prop}:aw7 none K f d w D=D:=rfl
theorem em5{x y:Operand}{ts:Array TypeId}:B1 P S ⟨d,.call {callee:=.builtin .min,args:=#[x,y],argTypes:=ts},ty,pos,aft,none⟩ K f w =
  aw7 (cz6 (ev f x) (ev f y)) K f d w (V6 P S ⟨d,.call {callee:=.builtin .min,args:=#[x,y],argTypes:=ts},ty,pos,aft,none⟩ K f w):=rfl
theorem em4{x y:Operand}{ts:Array TypeId}:B1 P S ⟨d,.call {callee:=.builtin .max,args:=#[x,y],argTypes:=ts},ty,pos,aft,none⟩ K f w =
  aw7 (cz5 (ev f x) (ev f y)) K f d w (V6 P S ⟨d,.call {callee:=.builtin .max,args:=#[x,y],argTypes:=ts},ty,pos,aft,none⟩ K f w):=rfl
end
section
variable {d:Option Nat} {ty:TypeId} {pos:String} {aft:Array Edge} {S:World→Prop}
theorem ec8{t:TypeId}{a:Operand}:B1 P none ⟨d,.load t a,ty,pos,aft,none⟩ K f w=ab1 ((Instr.loadAt t (ev f a)).run P w) K f d:=rfl
theorem cK0{t n:Nat}{ps:Array (Nat×Operand)}:B1 P none ⟨d,.buildSlice t n ps,ty,pos,aft,none⟩ K f w=ab1 ((Instr.buildSlice t n (ps.map fun p=>(p.1,ev f p.2))).run P w) K f d:=rfl
theorem dH9{t:Nat}:B1 P none ⟨d,.alloc t,ty,pos,aft,none⟩ K f w=ab1 ((Instr.alloc t true (.tuple #[])).run P w) K f d:=rfl
theorem el6{t:Nat}{x:Operand}:B1 P none ⟨d,.box t x,ty,pos,aft,none⟩ K f w=ab1 ((Instr.box t (ev f x)).run P w) K f d:=rfl
theorem cP0{t:Nat}{x y:Operand}:B1 P none ⟨d,.makeSlice t x y,ty,pos,aft,none⟩ K f w=ab1 ((Instr.makeSlice t (ev f x) (ev f y)).run P w) K f d:=rfl
theorem bj1{t:Nat}{r:Option Operand}:B1 P none ⟨d,.makeMap t r,ty,pos,aft,none⟩ K f w=ab1 ((Instr.makeMap t (r.map (ev f))).run P w) K f d:=rfl
theorem dC1{t:Nat}{x i:Operand}{ok:Bool}:B1 P none ⟨d,.lookup t x i ok,ty,pos,aft,none⟩ K f w=ab1 ((Instr.lookup t (ev f x) (ev f i) ok).run P w) K f d:=rfl
theorem df4{s t:Nat}{x:Operand}:V6 P none ⟨d,.convert s t x,ty,pos,aft,none⟩ K f w=ab1 ((convert s t (ev f x)).run P w) K f d:=rfl
theorem el1{op:BinOp}{t t2:TypeId}{x y:Operand}:V6 P none ⟨d,.binOp op t x y t2,ty,pos,aft,none⟩ K f w=ab1 ((do eqGuard op t x y (ev f x) (ev f y);binOp op t (ev f x) (ev f y):Sem Value).run P w) K f d:=rfl
theorem dC0{x y:Operand}{ts:Array TypeId}:B1 P none ⟨d,.call {callee:=.builtin .append,args:=#[x,y],argTypes:=ts},ty,pos,aft,none⟩ K f w=ab1 ((Builtin.append_ ts ty #[ev f x,ev f y]).run P w) K f d:=by
 simp[B1,ao1,V6,aS5,bc1]
theorem ec7{x y:Operand}{ts:Array TypeId}:B1 P none ⟨d,.call {callee:=.builtin .copy,args:=#[x,y],argTypes:=ts},ty,pos,aft,none⟩ K f w=ab1 ((Builtin.copy_ ts ty #[ev f x,ev f y]).run P w) K f d:=by
 simp[B1,ao1,V6,aS5,bc1]
theorem dI2{t:Nat}{a x:Operand}:B1 P none ⟨d,.store t a x,ty,pos,aft,none⟩ K f w=aV1 ((Instr.storeAt t (ev f a) (ev f x)).run P w) K f d:=rfl
theorem bA3{t:Nat}{m k x:Operand}:B1 P none ⟨d,.mapUpdate t m k x,ty,pos,aft,none⟩ K f w=aV1 ((Instr.mapUpdate t (ev f m) (ev f k) (ev f x)).run P w) K f d:=rfl
theorem ec6{k:Nat}{asz:Array Operand}{ts:Array TypeId}:B1 P none ⟨d,.call {callee:=.value (.func k),args:=asz,argTypes:=ts},ty,pos,aft,none⟩ K f w=ar5 P k (asz.toList.map (ev f)) w K f d:=by
 simp[B1,ao1,V6,aS5,ev,aI4]
theorem ec5{t:TypeId}{a:Operand}:B1 P (some S) ⟨d,.load t a,ty,pos,aft,none⟩ K f w=B6 P S (Instr.loadAt t (ev f a)) K f d w:=rfl
theorem dB9{t:Nat}{x i:Operand}{ok:Bool}:B1 P (some S) ⟨d,.lookup t x i ok,ty,pos,aft,none⟩ K f w=B6 P S (Instr.lookup t (ev f x) (ev f i) ok) K f d w:=rfl
theorem df3{s t:Nat}{x:Operand}:V6 P (some S) ⟨d,.convert s t x,ty,pos,aft,none⟩ K f w=B6 P S (convert s t (ev f x)) K f d w:=rfl
theorem el0{op:BinOp}{t t2:TypeId}{x y:Operand}:V6 P (some S) ⟨d,.binOp op t x y t2,ty,pos,aft,none⟩ K f w=B6 P S (do eqGuard op t x y (ev f x) (ev f y);binOp op t (ev f x) (ev f y)) K f d w:=rfl
theorem cJ8{t n:Nat}{ps:Array (Nat×Operand)}:B1 P (some S) ⟨d,.buildSlice t n ps,ty,pos,aft,none⟩ K f w=ab1 ((Instr.buildSlice t n (ps.map fun p=>(p.1,ev f p.2))).run P w) (F6 S K) f d:=rfl
theorem dH6{t:Nat}:B1 P (some S) ⟨d,.alloc t,ty,pos,aft,none⟩ K f w=ab1 ((Instr.alloc t true (.tuple #[])).run P w) (F6 S K) f d:=rfl
theorem el5{t:Nat}{x:Operand}:B1 P (some S) ⟨d,.box t x,ty,pos,aft,none⟩ K f w=ab1 ((Instr.box t (ev f x)).run P w) (F6 S K) f d:=rfl
theorem cO8{t:Nat}{x y:Operand}:B1 P (some S) ⟨d,.makeSlice t x y,ty,pos,aft,none⟩ K f w=ab1 ((Instr.makeSlice t (ev f x) (ev f y)).run P w) (F6 S K) f d:=rfl
theorem dB8{x y:Operand}{ts:Array TypeId}:B1 P (some S) ⟨d,.call {callee:=.builtin .append,args:=#[x,y],argTypes:=ts},ty,pos,aft,none⟩ K f w=ab1 ((Builtin.append_ ts ty #[ev f x,ev f y]).run P w) (F6 S K) f d:=by
 simp[B1,ao1,V6,aS5,bc1,flt]
theorem ec4{x y:Operand}{ts:Array TypeId}:B1 P (some S) ⟨d,.call {callee:=.builtin .copy,args:=#[x,y],argTypes:=ts},ty,pos,aft,none⟩ K f w=ab1 ((Builtin.copy_ ts ty #[ev f x,ev f y]).run P w) (F6 S K) f d:=by
 simp[B1,ao1,V6,aS5,bc1,flt]
theorem dH8{t:Nat}{a x:Operand}:B1 P (some S) ⟨d,.store t a x,ty,pos,aft,none⟩ K f w=aV1 ((Instr.storeAt t (ev f a) (ev f x)).run P w) (F6 S K) f d:=rfl
theorem ec3{k:Nat}{asz:Array Operand}{ts:Array TypeId}:B1 P (some S) ⟨d,.call {callee:=.value (.func k),args:=asz,argTypes:=ts},ty,pos,aft,none⟩ K f w=ar5 P k (asz.toList.map (ev f)) w (F6 S K) f d:=by
 simp[B1,ao1,V6,aS5,ev,aI4]
end
end
def ey6:=@List.append_assoc
def eA2:=@List.drop_eq_getElem_cons
def eB3:=@List.getElem?_append_left
def eA9:=@List.getElem?_append_right
def ew4:=@List.getElem?_eq_getElem
def ex1:=@List.getElem?_eq_some_iff
def ew7:=@List.length_append
def ex4:=@List.length_take
def ey1:=@List.mem_append
def ez9:=@List.take_append_drop
def eE3:=@List.take_left
def eH1:=@Nat.add_mul
def ex3:=@Nat.le_trans
def eC4:=@Nat.lt_of_lt_of_le
def eB9:=@Nat.min_eq_left
def eF9:=@Nat.mul_one
abbrev Hp:=Nat→Option Obj
def d7(w:World):Hp:=fun b=>w.heap[b]?
def B4(h k:Hp):Prop:=∀b o,h b=some o→k b=some o
theorem i4(h:Hp):B4 h h:=fun _ _ e=>e
theorem p6{a b c:Hp}(h:B4 a b)(k:B4 b c):B4 a c:=fun x o e=>k x o (h x o e)
def I5(h:Hp)(a:Addr):Option Value:=match h a.block with
 | some (.cells c _ _)=>if a.spot.isSome then none else c[a.off]?
 | _=>none
theorem aj7(w:World)(a:Addr):w.cell? a=I5 (d7 w) a:=rfl
theorem F8{h k:Hp}(hk:B4 h k){a:Addr}{v:Value}(e:I5 h a=some v):I5 k a=some v:=by
 unfold I5 at *;cases hb:h a.block with
 | none=>simp[hb]at e
 | some o=>rw[hk _ _ hb];rw[hb]at e;exact e
structure o9 (M:Nat→Prop) (w w':World):Prop where
 os:w'.os=w.os
 tape:w'.tape=w.tape
 output:w'.output=w.output
 size:w.heap.size≤w'.heap.size
 block:∀k,k<w.heap.size→¬M k→w'.heap[k]?=w.heap[k]?
abbrev o6(w w':World):Prop:=o9 (fun _=>False) w w'
theorem o9.refl{M:Nat→Prop}(w:World):o9 M w w:=⟨rfl,rfl,rfl,ex9 _,fun _ _ _=>rfl⟩
theorem o9.trans{M:Nat→Prop}{a b c:World}(h:o9 M a b)(k:o9 M b c):o9 M a c:=
 ⟨k.os.trans h.os,k.tape.trans h.tape,k.output.trans h.output,ex3 h.size k.size,fun i hi hm=>(k.block i (eC4 hi h.size) hm).trans (h.block i hi hm)⟩
theorem o9.weaken{M N:Nat→Prop}{w w':World}(h:o9 M w w')(hmn:∀k,k<w.heap.size→M k→N k):o9 N w w':=⟨h.os,h.tape,h.output,h.size,fun k hk hn=>h.block k hk fun hm=>hn (hmn k hk hm)⟩
theorem o6.drew(w:World):o6 w w.drew:=⟨rfl,rfl,rfl,ex9 _,fun _ _ _=>rfl⟩
theorem o6.alloc(w:World)(o:Obj):o6 w (w.alloc o):=⟨rfl,rfl,rfl,by simp,fun k hk _=>by
 show(w.heap.push o)[k]?=_;rw[Array.getElem?_push,if_neg (by omega)]⟩
theorem o9.ext_of{M:Nat→Prop}{w w1 w2:World}(h:o6 w w1)(k:o9 M w1 w2)(hM:∀b,M b→w.heap.size≤b):o6 w w2:=
 ⟨k.os.trans h.os,k.tape.trans h.tape,k.output.trans h.output,ex3 h.size k.size,fun i hi _=>(k.block i (eC4 hi h.size) (fun hm=>by have:=hM i hm;omega)).trans (h.block i hi id)⟩
theorem o9.setCell{M:Nat→Prop}(w:World)(a:Addr)(v:Value)(h:M a.block):o9 M w (w.setCell a v):=
 ⟨rfl,rfl,rfl,by simp[World.setCell],fun k _ hm=>by
  simp only[World.setCell,Array.getElem?_modify];rw[if_neg (fun e:a.block=k=>hm (e ▸ h))]⟩
theorem o9.setRow{M:Nat→Prop}(w:World)(g:Nat)(cs:Array Value)(h:M g):o9 M w (w.setRow g cs):=
 ⟨rfl,rfl,rfl,by simp,fun k _ hm=>setRow_other w g k cs (fun e=>hm (e ▸ h))⟩
theorem b7{w w':World}(h:o6 w w'):B4 (d7 w) (d7 w'):=fun b o e=>by
 have hb:b<w.heap.size:=(ex0.1 (show w.heap[b]?=some o from e)).1;exact(h.block b hb id).trans e
theorem I0{h:Hp}{M:Nat→Prop}{w w':World}(hw:B4 h (d7 w))(hm:o9 M w w')(hM:∀b,M b→h b=none):B4 h (d7 w'):=fun b o e=>by
 have e1:=hw b o e;have hb:b<w.heap.size:=(ex0.1 (show w.heap[b]?=some o from e1)).1;exact(hm.block b hb (fun hh=>by rw[hM b hh]at e;cases e)).trans e1
theorem aw0{h:Hp}{w:World}(hw:B4 h (d7 w)){b:Nat}(hb:w.heap.size≤b):h b=none:=by
 cases e:h b with
 | none=>rfl
 | some o=>
  have:=(ex0.1 (show w.heap[b]?=some o from hw b o e)).1;omega
class A3 (α:Type) where
 sz:Nat
 pos:0<sz
 enc:Hp→List Value→α→Prop
 len:∀{h cs x},enc h cs x→cs.length=sz
 mono:∀{h k cs x},B4 h k→enc h cs x→enc k cs x
 one:∀{h cs x},enc h cs x→∀v∈cs,v.oneCell'=true
class I7 (α:Type) where
 val:α→Value
 one:∀x,(val x).oneCell'=true
instance {α:Type} [I7 α]:A3 α where
 sz:=1
 pos:=by omega
 enc _ cs x:=cs=[I7.val x]
 len h:=by simp[h]
 mono _ h:=h
 one h:=by
  intro v hv;rw[h]at hv;simp at hv;subst hv;exact I7.one _
instance:I7 Int:=⟨fun n=>.int .i64 n,fun _=>rfl⟩
instance:I7 Bool:=⟨fun b=>.bool b,fun _=>rfl⟩
instance:I7 ByteArray:=⟨fun s=>.string s,fun _=>rfl⟩
instance:I7 Nat:=⟨fun n=>.int .u64 n,fun _=>rfl⟩
instance {α β:Type} [A3 α] [A3 β]:A3 (α×β) where
 sz:=A3.sz α+A3.sz β
 pos:=by have:=A3.pos (α:=α);omega
 enc h cs x:=∃c1 c2,cs=c1++c2∧A3.enc h c1 x.1∧A3.enc h c2 x.2
 len:=by rintro h cs x ⟨c1,c2,rfl,h1,h2⟩;simp[A3.len h1,A3.len h2]
 mono:=by rintro h k cs x hk ⟨c1,c2,rfl,h1,h2⟩;exact⟨c1,c2,rfl,A3.mono hk h1,A3.mono hk h2⟩
 one:=by
  rintro h cs x ⟨c1,c2,rfl,h1,h2⟩ v hv;rcases ey1.1 hv with hv|hv
  ·exact A3.one h1 v hv
  ·exact A3.one h2 v hv
section
variable {α:Type} [A3 α]
def M7(h:Hp):List Value→List α→Prop
 | cs,[]=>cs=[]
 | cs,x::xs=>∃c1 c2,cs=c1++c2∧A3.enc h c1 x∧M7 h c2 xs
theorem J8{h:Hp}:∀{xs:List α} {cs:List Value},M7 h cs xs→cs.length=xs.length*A3.sz α
 | [],cs,e=>by simp[M7]at e;simp[e]
 | x::xs,cs,e=>by
  obtain⟨c1,c2,rfl,h1,h2⟩:=e;simp only[ew7,ey7,A3.len h1,J8 h2,eH1];omega
theorem aF1{h k:Hp}(hk:B4 h k):∀{xs:List α} {cs:List Value},M7 h cs xs→M7 k cs xs
 | [],_,e=>e
 | _::_,_,⟨c1,c2,e,h1,h2⟩=>⟨c1,c2,e,A3.mono hk h1,aF1 hk h2⟩
theorem bF7{h:Hp}:∀{xs:List α} {cs:List Value},M7 h cs xs→∀v∈cs,v.oneCell'=true
 | [],cs,e,v,hv=>by simp[M7]at e;subst e;cases hv
 | x::xs,cs,⟨c1,c2,e,h1,h2⟩,v,hv=>by
  subst e;rcases ey1.1 hv with hv|hv
  ·exact A3.one h1 v hv
  ·exact bF7 h2 v hv
theorem ag9{h:Hp}:∀{xs:List α} {cs ds:List Value} {ys:List α},M7 h cs xs→M7 h ds ys→M7 h (cs++ds) (xs++ys)
 | [],cs,ds,ys,e1,e2=>by simp[M7]at e1;subst e1;exact e2
 | x::xs,cs,ds,ys,⟨c1,c2,e,h1,h2⟩,e2=>⟨c1,c2++ds,by rw[e,ey6],h1,ag9 h2 e2⟩
theorem aY0{h:Hp}{es:List Value}{x:α}(he:A3.enc h es x):M7 h es [x]:=⟨es,[],by simp,he,rfl⟩
theorem Z3{h:Hp}:∀(xs ys:List α) {cs:List Value},M7 h cs (xs++ys)→∃c1 c2,cs=c1++c2∧M7 h c1 xs∧M7 h c2 ys
 | [],ys,cs,e=>⟨[],cs,rfl,rfl,e⟩
 | x::xs,ys,cs,⟨c1,c2,e,h1,h2⟩=>by
  obtain⟨d1,d2,e2,h3,h4⟩:=Z3 xs ys h2;exact⟨c1++d1,d2,by rw[e,e2,ey6],⟨c1,d1,rfl,h1,h3⟩,h4⟩
theorem bF6{h:Hp}{xs:List α}{cs:List Value}(e:M7 h cs xs){k:Nat}{x:α}(hk:xs[k]?=some x):
  ∃es,A3.enc h es x∧∀j,j<A3.sz α→cs[k*A3.sz α+j]?=es[j]?:=by
 have hlt:k<xs.length:=(ex1.1 hk).1;have hx:xs=xs.take k++x::xs.drop (k+1):=by
  have h2:xs[k]=x:=(ex1.1 hk).2;have:=ez9 k xs;rw[eA2 hlt,h2]at this;exact this.symm
 rw[hx]at e;obtain⟨c1,c2,rfl,h1,⟨es,c3,rfl,h2,h3⟩⟩:=Z3 _ _ e;refine⟨es,h2,fun j hj=>?_⟩;have hl:c1.length=k*A3.sz α:=by rw[J8 h1,ex4,eB9 (Nat.le_of_lt hlt)]
 rw[eA9 (by omega),hl,Nat.add_sub_cancel_left,eB3 (by rw[A3.len h2];exact hj)]
theorem cu2{h:Hp}{xs:List α}{cs:List Value}(e:M7 h cs xs){k:Nat}(hk:k<xs.length){y:α}{ds:List Value}(hd:A3.enc h ds y):
  M7 h (cs.take (k*A3.sz α)++ds++cs.drop (k*A3.sz α+A3.sz α)) (xs.set k y):=by
 have hx:xs=xs.take k++xs[k]::xs.drop (k+1):=by
  have:=ez9 k xs;rw[eA2 hk]at this;exact this.symm
 rw[hx]at e;obtain⟨c1,c2,rfl,h1,⟨es,c3,rfl,h2,h3⟩⟩:=Z3 _ _ e;have hl:c1.length=k*A3.sz α:=by rw[J8 h1,ex4,eB9 (Nat.le_of_lt hk)]
 have hl2:es.length=A3.sz α:=A3.len h2;have e1:(c1++(es++c3)).take (k*A3.sz α)=c1:=by rw[←hl];exact eE3
 have e2:(c1++(es++c3)).drop (k*A3.sz α+A3.sz α)=c3:=by
  rw[←hl,←hl2,←ey6,←ew7];exact List.drop_left
 rw[e1,e2];have hset:xs.set k y=xs.take k++y::xs.drop (k+1):=List.set_eq_take_append_cons_drop.trans (by rw[if_pos hk]);rw[hset,ey6];exact ag9 h1 ⟨ds,c3,rfl,hd,h3⟩
instance:A3 (List α) where
 sz:=1
 pos:=by omega
 enc h cs xs:=∃a n c,cs=[.slice a n c]∧n=xs.length∧n≤c∧∃es,M7 h es xs∧∀j v,es[j]?=some v→∃ad,a=some ad∧I5 h (ad.add j)=some v
 len:=by rintro h cs x ⟨a,n,c,rfl,_⟩;rfl
 mono:=by
  rintro h k cs x hk ⟨a,n,c,e,h1,h2,es,h3,h4⟩;refine⟨a,n,c,e,h1,h2,es,aF1 hk h3,fun j v hv=>?_⟩;obtain⟨ad,e1,e2⟩:=h4 j v hv;exact⟨ad,e1,F8 hk e2⟩
 one:=by
  rintro h cs x ⟨a,n,c,rfl,_⟩ v hv;simp at hv;subst hv;rfl
end
abbrev R{α:Type}[A3 α](h:Hp)(v:Value)(x:α):Prop:=A3.enc h [v] x
theorem Addr.add_add'(a:Addr)(x y:Nat):(a.add x).add y=a.add (x+y):=by
 unfold Addr.add;by_cases hx:x=0
 ·subst hx;simp
 ·by_cases hy:y=0
  ·subst hy;simp[hx]
  ·simp[hx,hy,eF8]
section
variable {α:Type} [A3 α] {h:Hp} {v:Value} {xs:List α}
theorem R.isS(hr:R h v xs):isS v=true:=by
 obtain⟨a,n,c,e,_⟩:=hr;simp at e;subst e;rfl
theorem R.vlen(hr:R h v xs):vlen v=xs.length:=by
 obtain⟨a,n,c,e,h1,_⟩:=hr;simp at e;subst e;exact h1
theorem R.vcap(hr:R h v xs):xs.length≤vcap v:=by
 obtain⟨a,n,c,e,h1,h2,_⟩:=hr;simp at e;subst e;rw[←h1];exact h2
theorem R.get(hr:R h v xs){k:Nat}{x:α}(hk:xs[k]?=some x):
  inS v k=true∧∃es,A3.enc h es x∧∀j u,es[j]?=some u→I5 h ((H1 v (k*A3.sz α)).add j)=some u:=by
 obtain⟨a,n,c,e,h1,h2,es,h3,h4⟩:=hr;simp at e;subst e;obtain⟨ds,hd1,hd2⟩:=bF6 h3 hk;have hlt:k<xs.length:=(ex1.1 hk).1;have hl:=A3.len hd1;have hpos:=A3.pos (α:=α);have h0:∃u,ds[0]?=some u:=by
  rw[ew4 (by omega)];exact⟨_,rfl⟩
 obtain⟨u0,hu0⟩:=h0;obtain⟨ad,rfl,_⟩:=h4 (k*A3.sz α+0) u0 (by rw[hd2 0 hpos];exact hu0);refine⟨by simp[inS];omega,ds,hd1,fun j u hj=>?_⟩;have hjl:j<ds.length:=(ex1.1 hj).1;obtain⟨ad',e',hc⟩:=h4 (k*A3.sz α+j) u (by rw[hd2 j (by omega)];exact hj);obtain rfl:=ey4 e';simp only[H1];rw[Addr.add_add'];exact hc
theorem R.inS(hr:R h v xs){k:Nat}(hk:k<xs.length):inS v k=true:=(hr.get (ew4 hk)).1
end
theorem K0(a:Addr):a.add 0=a:=by simp[Addr.add]
section
variable {P:Program} {t:TypeId} {w:World} {h:Hp}
theorem Q4{a:Addr}{u:Value}(ht:C1 P t=false)(hc:w.cell? a=some u):(Instr.loadAt t (.pointer (some a))).run P w = .ok u w:=by
 unfold Instr.loadAt loadVar;simp only[Instr.sureAddr,ey8,eA0,ey0,V8 t (aR9 ht),ht,eD3,eE5,run_load,hc]
theorem bi4{a:Addr}{cs:List Value}(ht:C1 P t=true)(hu:(P.underlying t).isSome=true)(hi:(P.info? t).isSome=true)(hs:E5 P t=cs.length)
  (hc:∀j u,cs[j]?=some u→w.cell? (a.add j)=some u):(Instr.loadAt t (.pointer (some a))).run P w = .ok (.agg cs.toArray) w:=by
 unfold Instr.loadAt loadVar;simp only[Instr.sureAddr,ey8,eA0,ey0,V8 t hu,ht,eC9,M8 hi,hs,run_loadCells_list w a cs hc]
theorem M5{α:Type}[I7 α]{v:Value}{xs:List α}(hr:R h v xs)(hw:B4 h (d7 w)){k:Nat}{x:α}(hk:xs[k]?=some x)(ht:C1 P t=false):
  (Instr.loadAt t (.pointer (some (H1 v k)))).run P w = .ok (I7.val x) w:=by
 obtain⟨_,es,he,hc⟩:=hr.get hk;have he':es=[I7.val x]:=he;have:=hc 0 (I7.val x) (by rw[he'];rfl);rw[K0]at this;have h1:(k*A3.sz α)=k:=eF9 k;rw[h1]at this;exact Q4 ht (F8 hw this)
end
def eF3:=@Array.getElem?_eq_getElem
def eI9:=@Array.length_toList
def ez3:=@List.append_nil
def eF2:=@List.getElem?_take
def eB8:=@List.length_drop
def eC7:=@List.length_nil
def eD7:=@List.length_set
def eG1:=@List.nil_append
def eE9:=@List.size_toArray
def eA6:=@List.take_of_length_le
def ex2:=@List.take_succ_eq_append_getElem
def eH2:=@List.take_zero
def eE0:=@Nat.mul_le_mul_right
def eH9:=@World.cell?_alloc_new
def eD9:=@cell_of_row
def eA5:=@heap_alloc_new
def A9{α:Type}[A3 α](h:Hp)(w:World)(T:TypeId)(v:Value)(xs:List α):Prop:=
 (v = .slice none 0 0∧xs=[]) ∨
 ∃b c cur,v = .slice (some ⟨b,0,none⟩) xs.length c∧h b=none∧w.heap[b]?=some (.cells cur T (0,0))∧xs.length≤c∧c≤maxLen∧cur.size=c*A3.sz α ∧
  M7 h (cur.toList.take (xs.length*A3.sz α)) xs
def A4(v:Value)(b:Nat):Prop:=v.ownBlock=some b
theorem D0{b:Nat}{n c:Nat}:¬A4 (.slice none n c) b:=by simp[A4,Value.ownBlock]
def E0(w:World)(v v':Value):Prop:=∀b,A4 v' b→A4 v b∨w.heap.size≤b
section
variable {α:Type} [A3 α] {h:Hp} {w:World} {T:TypeId} {v:Value} {xs:List α}
theorem A9.nil(h:Hp)(w:World)(T:TypeId):A9 h w T (.slice none 0 0) ([]:List α):=.inl ⟨rfl,rfl⟩
theorem A9.free(ho:A9 h w T v xs){b:Nat}(hb:A4 v b):h b=none:=by
 rcases ho with⟨rfl,_⟩|⟨b',c,cur,rfl,h1,_⟩
 ·exact absurd hb D0
 ·simp[A4,Value.ownBlock]at hb;subst hb;exact h1
theorem A9.lt(ho:A9 h w T v xs){b:Nat}(hb:A4 v b):b<w.heap.size:=by
 rcases ho with⟨rfl,_⟩|⟨b',c,cur,rfl,h1,h2,_⟩
 ·exact absurd hb D0
 ·simp[A4,Value.ownBlock]at hb;subst hb;exact(ex0.1 h2).1
theorem A9.isS(ho:A9 h w T v xs):isS v=true:=by
 rcases ho with⟨rfl,_⟩|⟨b',c,cur,rfl,_⟩<;>rfl
theorem A9.vlen(ho:A9 h w T v xs):vlen v=xs.length:=by
 rcases ho with⟨rfl,rfl⟩|⟨b',c,cur,rfl,_⟩<;>rfl
theorem A9.vcap(ho:A9 h w T v xs):xs.length≤vcap v:=by
 rcases ho with⟨rfl,rfl⟩|⟨b',c,cur,rfl,_,_,h3,_⟩
 ·simp
 ·exact h3
theorem A9.inS(ho:A9 h w T v xs){k:Nat}(hk:k<xs.length):inS v k=true:=by
 rcases ho with⟨rfl,rfl⟩|⟨b',c,cur,rfl,_⟩
 ·simp at hk
 ·simp[Go.Proofs.YtcbnbgpphippoaaGreat.inS,hk]
theorem A9.mod{M:Nat→Prop}{w':World}(ho:A9 h w T v xs)(hm:o9 M w w')(hM:∀b,A4 v b→¬M b):A9 h w' T v xs:=by
 rcases ho with hn|⟨b,c,cur,rfl,h1,h2,rest⟩
 ·exact .inl hn
 ·exact .inr ⟨b,c,cur,rfl,h1,(hm.block b (ex0.1 h2).1 (hM b rfl)).trans h2,rest⟩
theorem A9.ext{w':World}(ho:A9 h w T v xs)(hm:o6 w w'):A9 h w' T v xs:=ho.mod hm fun _ _=>id
theorem A9.up{k:Hp}(ho:A9 h w T v xs)(hk:B4 h k)(hb:∀b,A4 v b→k b=none):A9 k w T v xs:=by
 rcases ho with hn|⟨b,c,cur,rfl,h1,h2,h3,h4,h5,h6⟩
 ·exact .inl hn
 ·exact .inr ⟨b,c,cur,rfl,hb b rfl,h2,h3,h4,h5,aF1 hk h6⟩
theorem A9.ro(ho:A9 h w T v xs){k:Hp}(hk:B4 h k)(hb:∀b,A4 v b→k b=w.heap[b]?):R k v xs:=by
 rcases ho with⟨rfl,rfl⟩|⟨b,c,cur,rfl,h1,h2,h3,h4,h5,h6⟩
 ·exact⟨_,_,_,rfl,rfl,ex9 _,[],rfl,fun j v hv=>by simp at hv⟩
 ·refine⟨_,_,_,rfl,rfl,h3,_,aF1 hk h6,fun j u hj=>⟨_,rfl,?_⟩⟩;have hlt:j<cur.size:=by
   have:=(ex1.1 hj).1;simp at this;omega
  have hc:cur[j]?=some u:=by
   rw[eF2]at hj;split at hj
   ·simpa using hj
   ·cases hj
  have ha:(⟨b,0,.none⟩:Addr).add j=⟨b,j,.none⟩:=by unfold Addr.add;split<;>simp_all
  rw[ha];simp only[I5,hb b rfl,h2,Option.isSome_none,eD3,eE5,hc]
theorem A9.rw_(ho:A9 h w T v xs)(hw:B4 h (d7 w)):R (d7 w) v xs:=ho.ro hw fun _ _=>rfl
theorem A9.get(ho:A9 h w T v xs){k:Nat}{x:α}(hk:xs[k]?=some x):
  ∃es,A3.enc h es x∧∀j u,es[j]?=some u→w.cell? ((H1 v (k*A3.sz α)).add j)=some u:=by
 rcases ho with⟨rfl,rfl⟩|⟨b,c,cur,rfl,h1,h2,h3,h4,h5,h6⟩
 ·simp at hk
 ·obtain⟨es,he,hc⟩:=bF6 h6 hk;refine⟨es,he,fun j u hj=>?_⟩;have hjl:j<A3.sz α:=by have:=(ex1.1 hj).1;rw[A3.len he]at this;exact this
  have:=hc j hjl;rw[hj,eF2]at this;split at this
  ·simp only[H1];rw[Addr.add_add'];have ha:(⟨b,0,.none⟩:Addr).add (k*A3.sz α+j)=⟨b,k*A3.sz α+j,.none⟩:=by unfold Addr.add;split<;>simp_all
   rw[ha,eD9 w b _ cur T (0,0) h2];simpa using this
  ·cases this
end
section
variable {α:Type} [A3 α] {h:Hp} {P:Program} {w:World} {t T:TypeId} {v:Value}
theorem D4{α:Type}[I7 α]{xs:List α}(ho:A9 h w T v xs){k:Nat}{x:α}(hk:xs[k]?=some x)(ht:C1 P t=false):
  (Instr.loadAt t (.pointer (some (H1 v k)))).run P w = .ok (I7.val x) w:=by
 obtain⟨es,he,hc⟩:=ho.get hk;have he':es=[I7.val x]:=he;have:=hc 0 (I7.val x) (by rw[he'];rfl);rw[K0]at this;have h1:(k*A3.sz α)=k:=eF9 k;rw[h1]at this;exact Q4 ht this
theorem aZ6{xs:List (List α)}(ho:A9 h w T v xs){k:Nat}{x:List α}(hk:xs[k]?=some x)(ht:C1 P t=false):
  ∃u,R h u x∧(Instr.loadAt t (.pointer (some (H1 v k)))).run P w = .ok u w:=by
 obtain⟨es,he,hc⟩:=ho.get hk;have hl:es.length=1:=A3.len he
 match es,hl with
 | [u],_=>
  have:=hc 0 u rfl;rw[K0]at this;have h1:(k*A3.sz (List α))=k:=eF9 k;rw[h1]at this;exact⟨u,he,Q4 ht this⟩
theorem aI6{a:Addr}{u x:Value}{i:TypeInfo}(hi:P.info? t=some i)(hs:i.size=1)(hx:x.cells=#[x])(h1:x.oneCell'=true)(hc:w.cell? a=some u)(hf:w.frozen? a=false):
  (Instr.storeAt t (.pointer (some a)) x).run P w = .ok () (w.setCell a x):=by
 have hst:(store (a.add 0) x).run P w = .ok () (w.setCell a x):=by
  rw[K0];cases x<;>simp[Value.oneCell']at h1<;>simp[store,Sem.run,hc,hf]
 unfold Instr.storeAt storeVar;simp only[Instr.sureAddr,ey8,eA0,ey0,sizeOf,L5,hi,hs,hx,Sem.run_ite];simp only[eE9,ey7,eC7,storeCells,ey8,hst,ey0,eA0];rfl
theorem E1{xs:List α}(ho:A9 h w T v xs)(hz:A3.sz α=1){k:Nat}(hk:k<xs.length){x:Value}{y:α}(hy:A3.enc h [x] y)(hx:x.cells=#[x])
  {i:TypeInfo} (hi:P.info? t=some i) (hs:i.size=1) :
  ∃w',(Instr.storeAt t (.pointer (some (H1 v k))) x).run P w = .ok () w'∧A9 h w' T v (xs.set k y)∧o9 (A4 v) w w'∧w'.heap.size=w.heap.size:=by
 obtain⟨es,he,hc⟩:=ho.get (ew4 hk);have hone:x.oneCell'=true:=A3.one hy x (by simp);rcases ho with⟨rfl,rfl⟩|⟨b,c,cur,rfl,h1,h2,h3,h4,h5,h6⟩
 ·simp at hk
 ·have ha:(⟨b,0,.none⟩:Addr).add k=⟨b,k,.none⟩:=by unfold Addr.add;split<;>simp_all
  have hksz:k<cur.size:=by rw[h5,hz];omega
  have hcell:w.cell? ⟨b,k,.none⟩=some cur[k]:=by rw[eD9 w b k cur T (0,0) h2,eF3 hksz]
  have hfr:w.frozen? ⟨b,k,.none⟩=false:=frozen_of_row w b k cur T h2;have hrun:=aI6 (P:=P) (t:=t) hi hs hx hone hcell hfr;simp only[H1,ha];refine⟨_,hrun,?_,o9.setCell _ _ _ (by simp[A4,Value.ownBlock]),by simp⟩;right;refine⟨b,c,cur.setIfInBounds k x,by simp,h1,heap_setCell_same w b k cur T x h2,by simpa using h3,h4,by simpa using h5,?_⟩;have hs':=cu2 h6 hk hy;have hl:(cur.toList.take xs.length).length=xs.length:=by
   rw[hz]at h5;have h7:cur.toList.length=cur.size:=by simp
   rw[ex4,h7];omega
  have e1:(cur.setIfInBounds k x).toList.take ((xs.set k y).length*A3.sz α) =
    (cur.toList.take (xs.length*A3.sz α)).take (k*A3.sz α)++[x]++(cur.toList.take (xs.length*A3.sz α)).drop (k*A3.sz α+A3.sz α):=by
   rw[hz];simp only[Array.toList_setIfInBounds,eD7,eF9];rw[List.take_set];rw[List.set_eq_take_append_cons_drop,if_pos (by rw[hl];exact hk)];simp
  rw[e1];exact hs'
theorem aK7{e:TypeId}{i:TypeInfo}{z:Value}(ht:P.underlying t=some (.slice T))(hi:P.info? T=some i)(hz:i.zero=some z)(hsize:i.size=A3.sz α)(hzs:z.cells.size=i.size)
  {xs ys:List α} (ho:A9 h w T v xs) {ad:Addr} {m c:Nat} {news:List Value} (hm:m=ys.length) (hn:M7 h news ys) (hnews:∀j u,news[j]?=some u→w.cell? (ad.add j)=some u)
  (hy:ys≠[]) (h63:xs.length+ys.length≤maxLen) (hbytes:(xs.length+ys.length)*i.bytes≤140737488355328) (hw:B4 h (d7 w)) :
  ∃v' w',(Builtin.append_ #[t,t] e #[v,.slice (some ad) m c]).run P w = .ok v' w'∧A9 h w' T v' (xs++ys)∧o9 (A4 v) w w'∧E0 w v v':=by
 have hl:=J8 hn;have hone:=bF7 hn;have hy0:0<ys.length:=List.length_pos_iff.2 hy;have fresh:∀(old:Nat) (cells:List Value),M7 h cells (xs++ys)→old<xs.length+ys.length →
   A9 h (w.drew.alloc (.cells (cells.toArray++Builtin.zeroCells z.cells (grownCap w (xs.length+ys.length) old T-(xs.length+ys.length))) T)) T
    (.slice (some ⟨w.heap.size,0,.none⟩) (xs.length+ys.length) (grownCap w (xs.length+ys.length) old T)) (xs++ys):=by
  intro old cells hc ho';have hge:=grownCap_ge w (xs.length+ys.length) old T;have hcm:=grownCap_le_maxLen w (xs.length+ys.length) old T h63;have hcl:=J8 hc;right;refine⟨w.heap.size,_,_,by rw[ew7],aw0 hw (ex9 _),eA5 w.drew _,by rw[ew7];exact hge,hcm,?_,?_⟩
  ·simp only[Array.size_append,eE9,size_zeroCells,hzs,hsize,hcl,ew7,←eH1]
   congr 1
   omega
  ·simp only[Array.toList_append];rw[←hcl,eE3];exact hc
 have exta:∀(o:Obj),o9 (A4 v) w (w.drew.alloc o):=fun o=>
  o9.trans ((o6.drew w).weaken (fun _ _ h=>h.elim)) ((o6.alloc w.drew o).weaken (fun _ _ h=>h.elim))
 have hmv:∀n c,E0 w v (.slice (some ⟨w.heap.size,0,.none⟩) n c):=fun n c b hb=>by
  simp[A4,Value.ownBlock]at hb;subst hb;exact .inr (ex9 _)
 subst hm;rcases ho with⟨rfl,rfl⟩|⟨b,cc,cur,rfl,h1,h2,h3,h4,h5,h6⟩
 ·have hr:=run_append_nil (P:=P) w t e T i z ht hi hz ad ys.length c news (by rw[hl,hsize]) hnews hy0 (by simp only[maxLen,eC7,ez8]at h63;omega) (by simp only[eC7,ez8]at hbytes;omega);have hf:=fresh 0 news (by simpa using hn) (by simp;exact hy0);simp only[eC7,ez8,eG1]at hf ⊢;exact⟨_,_,hr,hf,exta _,hmv _ _⟩
 ·by_cases hroom:xs.length+ys.length≤cc
  ·have hfit:xs.length*i.size+news.length≤cur.size:=by rw[hl,hsize,h5,←eH1];exact eE0 _ hroom
   have hr:=run_append_room (P:=P) w t e T i ht hi b xs.length cc cur h2 ad ys.length c news (by rw[hl,hsize]) hnews hone hroom hfit;refine⟨_,_,hr,?_,o9.setRow _ _ _ (by simp[A4,Value.ownBlock]),fun b' hb'=>.inl hb'⟩;right;refine⟨b,cc,_,by rw[ew7],h1,setRow_heap w b cur _ T _ h2,by rw[ew7];exact hroom,h4,?_,?_⟩
   ·simp only[eE9,ew7,ex4,eB8,eI9];rw[hsize]at hfit ⊢;have:xs.length*A3.sz α≤cur.size:=by omega
    omega
   ·rw[hsize];have hlen:(cur.toList.take (xs.length*A3.sz α)++news).length=(xs++ys).length*A3.sz α:=by
     rw[ew7,hl,J8 h6,ew7,eH1]
    rw[←hlen,eE3];exact ag9 h6 hn
  ·have hcs:(cur.toList.take (xs.length*A3.sz α)).length=xs.length*i.size:=by rw[J8 h6,hsize]
   have holds:∀j u,(cur.toList.take (xs.length*A3.sz α))[j]?=some u→w.cell? ((⟨b,0,.none⟩:Addr).add j)=some u:=by
    intro j u hj;have ha:(⟨b,0,.none⟩:Addr).add j=⟨b,j,.none⟩:=by unfold Addr.add;split<;>simp_all
    rw[ha,eD9 w b j cur T (0,0) h2];rw[eF2]at hj;split at hj
    ·simpa using hj
    ·cases hj
   have hr:=run_append_grow (P:=P) w t e T i z ht hi hz ⟨b,0,.none⟩ xs.length cc (cur.toList.take (xs.length*A3.sz α)) hcs holds ad ys.length c news (by rw[hl,hsize]) hnews (by omega)
    (by simp only[maxLen]at h63;omega) (growslice_fits (by omega) hbytes)
   have hf:=fresh cc (cur.toList.take (xs.length*A3.sz α)++news) (ag9 h6 hn) (by omega);have e1:((cur.toList.take (xs.length*A3.sz α)++news).toArray:Array Value)=(cur.toList.take (xs.length*A3.sz α)).toArray++news.toArray:=by simp
   rw[e1]at hf;exact⟨_,_,hr,hf,exta _,hmv _ _⟩
theorem br5(off:Nat):∀(l:List Value) (k:Nat) (cs:Array Value),off+k+l.length≤cs.size →
  ((l.zipIdx k).foldl (fun cs (p:Value×Nat)=>cs.setIfInBounds (off+p.2) p.1) cs).toList=cs.toList.take (off+k)++l++cs.toList.drop (off+k+l.length)
 | [],k,cs,_=>by simp
 | v::l,k,cs,hl=>by
  simp only[ey7]at hl;rw[List.zipIdx_cons,List.foldl_cons,br5 off l (k+1) _ (by simp;omega)];have hlen:cs.toList.length=cs.size:=by simp
  simp only[Array.toList_setIfInBounds,ey7];rw[show off+(k+1)=off+k+1 by omega,List.take_set,ex2 (by omega),List.set_append_right (h:=by simp;omega)];have e1:off+k-(cs.toList.take (off+k)).length=0:=by simp;omega
  rw[e1,List.drop_set_of_lt (by omega)];simp[ey6,eF8,Nat.add_comm 1]
theorem cu7{place:Nat→Option (Nat×Nat)}{off sz i:Nat}{x:Value}{cs:Array Value}{rest:List (Nat×Value)}(hp:place i=some (off,sz))(hx:x.cells.size=sz)(hs:off+sz≤cs.size):
  Instr.fill place cs ((i,x)::rest)=Instr.fill place (cs.toList.take off++x.cells.toList++cs.toList.drop (off+sz)).toArray rest:=by
 conv=>lhs;unfold Instr.fill
 simp only[hp];rw[if_neg (by simp[hx];omega)]
 congr 1
 apply Array.ext';have:=br5 off x.cells.toList 0 cs (by simp;omega);simp only[Nat.add_zero,eI9,hx]at this;rw[←this,←Array.foldl_toList];simp[Array.toList_zipIdx]
theorem bF9(sz:Nat):∀(xs:List Value) (k:Nat) (cs:Array Value),(∀x∈xs,x.cells.size=sz)→cs.size=(k+xs.length)*sz →
  Instr.fill (fun i=>some (i*sz,sz)) cs ((xs.zipIdx k).map fun p=>(p.2,p.1))=some (cs.toList.take (k*sz)++xs.flatMap (·.cells.toList)).toArray
 | [],k,cs,_,hc=>by
  simp only[eC7,Nat.add_zero]at hc;simp only[List.zipIdx_nil,List.map_nil,Instr.fill,List.flatMap_nil,ez3]
  congr 1
  apply Array.ext';rw[←hc,eA6 (by simp)]
 | x::xs,k,cs,hx,hc=>by
  simp only[ey7]at hc;have hc':cs.size=k*sz+sz+xs.length*sz:=by rw[hc,eH1,eH1];omega
  have hxs:=hx x (by simp);have hlen:cs.toList.length=cs.size:=by simp
  rw[List.zipIdx_cons,eB1];show Instr.fill _ cs ((k,x)::_)=_;rw[cu7 rfl hxs (by omega)];have hl:(List.take (k*sz) cs.toList++x.cells.toList++List.drop (k*sz+sz) cs.toList).toArray.size=(k+1+xs.length)*sz:=by
   simp[hxs];rw[eH1,eH1];omega
  rw[bF9 sz xs (k+1) _ (fun y hy=>hx y (by simp[hy])) hl]
  congr 2
  have e:(k+1)*sz=(List.take (k*sz) cs.toList++x.cells.toList).length:=by
   simp[hxs,eH1];omega
  rw[e,eE3];simp
theorem ao3{e:TypeId}{z:Value}(ht:A8 P t=some e)(hi:(P.info? e).isSome=true)(hz:G2 P e=some z)(xs:List Value)(hx:∀x∈xs,x.cells.size=E5 P e)(hn:xs≠[])
  (hpos:0<E5 P e) (hsm:xs.length*E5 P e≤16777216) {parts:Array (Nat×Value)} (hp:parts.toList=(xs.zipIdx 0).map fun p=>(p.2,p.1)) {n:Nat} (hnl:n=xs.length) :
  (Instr.buildSlice t n parts).run P w = .ok (.slice (some ⟨w.heap.size,0,none⟩) n n) (w.alloc (.cells (xs.flatMap (·.cells.toList)).toArray e)):=by
 subst hnl;obtain⟨i,hi'⟩:=eC2.1 hi;have hz':i.zero=some z:=by simpa[G2,hi']using hz
 have h0:¬(xs.length*E5 P e=0):=by
  have:0<xs.length:=List.length_pos_iff.2 hn;exact Nat.ne_of_gt (Nat.mul_pos this hpos)
 unfold Instr.buildSlice zeroValue;simp only[ey8,F3,J7 ht,ey0,M8 hi,Sem.run_ite,L5,hi',hz',eA0];rw[if_neg (by omega)];simp only[h0,eE5];rw[hp,bF9 (E5 P e) xs 0 _ hx (by simp)];simp only[Nat.zero_mul,eH2,eG1];rfl
theorem C8{i:TypeInfo}(hi:P.info? t=some i):E5 P t=i.size:=by simp[E5,hi]
theorem as1{i:TypeInfo}(hi:P.info? t=some i):cs9 P t=i.bytes:=by simp[cs9,hi]
theorem p9{z:Value}(hz:G2 P t=some z):∃i,P.info? t=some i∧i.zero=some z:=by
 unfold G2 at hz;cases hi:P.info? t with
 | none=>simp[hi]at hz
 | some i=>exact⟨i,rfl,by simpa[hi]using hz⟩
theorem cB2{e:TypeId}{z:Value}(ht:A8 P t=some T)(hz:G2 P T=some z)(hsize:E5 P T=A3.sz α)(hzs:z.cells.size=A3.sz α)
  {xs:List α} (ho:A9 h w T v xs) {x:Value} {y:α} (hy:A3.enc h x.cells.toList y) (h63:xs.length+1≤1000000000000) (hbytes:(xs.length+1)*cs9 P T≤140737488355328) (hw:B4 h (d7 w)) :
  ∃v' w',(Builtin.append_ #[t,t] e #[v,.slice (some ⟨w.heap.size,0,none⟩) 1 1]).run P (w.alloc (.cells x.cells T)) = .ok v' w'∧A9 h w' T v' (xs++[y])∧o9 (A4 v) w w'∧E0 w v v':=by
 obtain⟨i,hi,hiz⟩:=p9 hz;rw[C8 hi]at hsize;rw[as1 hi]at hbytes;have hw1:B4 h (d7 (w.alloc (.cells x.cells T))):=p6 hw (b7 (o6.alloc w _));have hnews:∀j u,x.cells.toList[j]?=some u→(w.alloc (.cells x.cells T)).cell? ((⟨w.heap.size,0,none⟩:Addr).add j)=some u:=by
  intro j u hj;have ha:(⟨w.heap.size,0,none⟩:Addr).add j=⟨w.heap.size,j,none⟩:=by unfold Addr.add;split<;>simp_all
  rw[ha,eH9];simpa using hj
 obtain⟨v',w',h1,h2,h3,h4⟩:=aK7 (P:=P) (e:=e) (J7 ht) hi hiz hsize (by rw[hzs,hsize]) (ho.ext (o6.alloc w (.cells x.cells T))) (c:=1) (m:=1) (ad:=⟨w.heap.size,0,none⟩) rfl (aY0 hy) hnews (by simp)
  (by simp[maxLen];omega) (by simpa using hbytes) hw1
 refine⟨v',w',h1,h2,?_,fun b hb=>?_⟩
 ·exact o9.trans ((o6.alloc w (.cells x.cells T)).weaken (fun _ _ h=>h.elim)) h3
 ·rcases h4 b hb with h|h
  ·exact .inl h
  ·simp at h;exact .inr (by omega)
theorem ai2{e:TypeId}{z:Value}(ht:A8 P t=some e)(hz:G2 P e=some z)(hpos:0<E5 P e)(hsm:E5 P e≤16777216){x:Value}(hx:x.cells.size=E5 P e):
  (Instr.buildSlice t 1 #[(0,x)]).run P w = .ok (.slice (some ⟨w.heap.size,0,none⟩) 1 1) (w.alloc (.cells x.cells e)):=by
 obtain⟨i,hi,hiz⟩:=p9 hz;have:=ao3 (w:=w) ht (by rw[hi];rfl) hz [x] (by simpa using hx) (by simp) hpos (by simpa using hsm) (parts:=#[(0,x)]) rfl (n:=1) rfl;simpa using this
end
def eD1:=@List.mem_cons_of_mem
def cM1(ops:Array Oper):List Nat:=ops.toList.filterMap (·.dst)
def wrC:Code→List Nat
 | .seq a b=>wrC a++wrC b
 | .cond _ a b=>wrC a++wrC b
 | .block _ a=>wrC a
 | .loop a=>wrC a
 | .region _ ops _=>cM1 ops
 | _=>[]
section
variable {P:Program}
theorem bu6{r:Result Value}{K K':Fr→World→Prop}{f:Fr}{d:Option Nat}(h:∀v w,K (A7 f d v) w→K' (A7 f d v) w)(hr:ab1 r K f d):ab1 r K' f d:=by
 cases r with
 | ok v w=>exact h _ _ hr
 | halt x w=>exact hr.elim
theorem aV2{r:Result Unit}{K K':Fr→World→Prop}{f:Fr}{d:Option Nat}(h:∀v w,K (A7 f d v) w→K' (A7 f d v) w)(hr:aV1 r K f d):aV1 r K' f d:=by
 cases r with
 | ok v w=>exact h _ _ hr
 | halt x w=>exact hr.elim
theorem bO9{k:Nat}{args:List Value}{w:World}{K K':Fr→World→Prop}{f:Fr}{d:Option Nat}(h:∀v w,K (A7 f d v) w→K' (A7 f d v) w)(hr:ar5 P k args w K f d):ar5 P k args w K' f d:=by
 rcases hr with⟨hb,hc⟩|⟨v,w',h1,h2⟩
 ·exact .inl ⟨hb,hc.mono fun e w' ⟨v,he,hk⟩=>⟨v,he,h _ _ hk⟩⟩
 ·exact .inr ⟨v,w',h1,h _ _ h2⟩
theorem ba8{o:Oper}{K K':Fr→World→Prop}{f:Fr}{w:World}(h:∀v w,K (A7 f o.dst v) w→K' (A7 f o.dst v) w)(hs:M9 P o K f w):M9 P o K' f w:=by
 unfold M9 at *;generalize(execOp (ev f) o).run P w=r at *;cases r with
 | halt x w'=>exact hs
 | ok n w'=>
  cases n
  case value v=>exact h _ _ hs
  case skip=>exact h _ _ hs
  case enter g args=>exact Calls.mono hs fun e w'' ⟨v,he,hk⟩=>⟨v,he,h _ _ hk⟩
  all_goals exact hs
theorem aw1{S:Option (World→Prop)}{K K':Fr→World→Prop}{f:Fr}{d:Option Nat}(h:∀v w,K (A7 f d v) w→K' (A7 f d v) w):∀v w,aI4 S K (A7 f d v) w→aI4 S K' (A7 f d v) w:=by
 intro v w hk;cases S with
 | none=>exact h _ _ hk
 | some S=>exact⟨hk.1,h _ _ hk.2⟩
theorem ch5{S:Option (World→Prop)}{fl:Bool}{s:Sem Value}{K K':Fr→World→Prop}{f:Fr}{d:Option Nat}{w:World}(h:∀v w,K (A7 f d v) w→K' (A7 f d v) w)(hr:bc1 P S fl s K f d w):bc1 P S fl s K' f d w:=by
 unfold bc1 at *;cases S with
 | none=>exact bu6 h hr
 | some S=>
  cases fl with
  | true=>
   simp only[eC9]at hr ⊢;obtain⟨v,h1,h2⟩:=hr;exact⟨v,h1,h _ _ h2⟩
  | false=>
   simp only[eD3,eE5]at hr ⊢;exact bu6 (fun v w hk=>⟨hk.1,h _ _ hk.2⟩) hr
theorem V7{S:Option (World→Prop)}{o:Oper}{K K':Fr→World→Prop}{f:Fr}{w:World}(h:∀v w,K (A7 f o.dst v) w→K' (A7 f o.dst v) w)(hs:B1 P S o K f w):B1 P S o K' f w:=by
 unfold B1 at *;split
 ·rename_i v hv;simp only[hv]at hs;exact h _ _ hs
 ·rename_i hv;simp only[hv]at hs;unfold V6 at *;split
  ·rename_i s hs';simp only[hs']at hs;exact ch5 h hs
  ·rename_i hs';simp only[hs']at hs;obtain⟨d,op,ty,pos,aft,gd⟩:=o;cases op
   case store=>exact aV2 (aw1 h) hs
   case mapUpdate=>exact aV2 (aw1 h) hs
   case insert=>exact aV2 (aw1 h) hs
   case call c=>
    obtain⟨cal,args,tys⟩:=c;cases cal
    case value g=>
     simp only at hs ⊢;cases hg:ev f g
     case func fn first cap=>
      cases fn
      case func k=>simp only[hg]at hs ⊢;exact bO9 (aw1 h) hs
      all_goals (simp only[hg]at hs)
     all_goals (simp only[hg]at hs)
    all_goals exact hs
   all_goals
    cases S with
    | none=>exact ba8 h hs
    | some S=>
     simp only at hs ⊢;split
     ·rename_i hf;rw[if_pos hf]at hs;obtain⟨v,h1,h2⟩:=hs;exact⟨v,h1,h _ _ h2⟩
     ·rename_i hf;rw[if_neg hf]at hs;exact ba8 (fun v w hk=>⟨hk.1,h _ _ hk.2⟩) hs
theorem aL9{f:Fr}{d:Option Nat}{v:Value}{i:Nat}(h:∀k,d=some k→i≠k):A7 f d v i=f i:=by
 cases d with
 | none=>rfl
 | some k=>simp[A7,p7,h k rfl]
theorem cq2{ops:Array Oper}{K K':Fr→World→Prop}:∀(l:List Oper) (f:Fr) (w:World),(∀f' w',(∀i,i∉l.filterMap (·.dst)→f' i=f i)→K f' w'→K' f' w')→Rn P ops l K f w→Rn P ops l K' f w
 | [],f,w,h,hr=>h _ _ (fun _ _=>rfl) hr
 | o::l,f,w,h,hr=>by
  have key:∀v w',Rn P ops l K (A7 f o.dst v) w'→Rn P ops l K' (A7 f o.dst v) w':=fun v w' hk=>
   cq2 l _ _ (fun f' w'' hf hk'=>h _ _ (fun i hi=>by
    have h1:i∉l.filterMap (·.dst):=fun hm=>hi (List.mem_filterMap.2 (let⟨a,ha,hd⟩:=List.mem_filterMap.1 hm;⟨a,eD1 _ ha,hd⟩));rw[hf i h1];exact aL9 fun k hk e=>hi (by subst e;exact List.mem_filterMap.2 ⟨o,by simp,hk⟩)) hk') hk
  unfold Rn at hr ⊢;split
  ·rename_i hg;simp only[hg]at hr;exact V7 key hr
  ·rename_i j b hg;simp only[hg]at hr;split
   ·rename_i hc;rw[if_pos hc]at hr;exact V7 key hr
   ·rename_i hc;rw[if_neg hc]at hr;exact key _ _ hr
theorem bJ1{ops:Array Oper}{i:Nat}{o:Oper}{k:Nat}(ho:ops[i]?=some o)(hd:o.dst=some k):k∈cM1 ops:=
 List.mem_filterMap.2 ⟨o,by have:=Array.mem_of_getElem? ho;simpa using this,hd⟩
theorem bx1{ops:Array Oper}{S:World→Prop}{K K':Fr→World→Prop}:∀(l:aA4) (f:Fr) (w:World),(∀f' w',(∀i,i∉cM1 ops→f' i=f i)→K f' w'→K' f' w')→RnF P ops S l K f w→RnF P ops S l K' f w
 | .nil,f,w,h,hr=>h _ _ (fun _ _=>rfl) hr
 | .op i l,f,w,h,hr=>by
  unfold RnF at hr ⊢;cases ho:ops[i]? with
  | none=>simp[ho]at hr
  | some o=>
   simp only[ho]at hr ⊢;have key:∀v w',RnF P ops S l K (A7 f o.dst v) w'→RnF P ops S l K' (A7 f o.dst v) w':=fun v w' hk=>
    bx1 l _ _ (fun f' w'' hf hk'=>h _ _ (fun j hj=>by
     rw[hf j hj];exact aL9 fun k hk e=>hj (by subst e;exact bJ1 ho hk)) hk') hk
   split
   ·rename_i hg;simp only[hg]at hr;exact V7 key hr
   ·rename_i j b hg;simp only[hg]at hr;split
    ·rename_i hc;rw[if_pos hc]at hr;exact V7 key hr
    ·rename_i hc;rw[if_neg hc]at hr;exact key _ _ hr
 | .fork rs k,f,w,h,hr=>by
  unfold RnF at hr ⊢;intro i hi;have hr:=hr i hi;cases ho:ops[i]? with
  | none=>simp[ho]at hr
  | some o=>
   simp only[ho]at hr ⊢;have key:∀v w',RnF P ops S (k i) K (A7 f o.dst v) w'→RnF P ops S (k i) K' (A7 f o.dst v) w':=fun v w' hk=>
    bx1 (k i) _ _ (fun f' w'' hf hk'=>h _ _ (fun j hj=>by
     rw[hf j hj];exact aL9 fun k hk e=>hj (by subst e;exact bJ1 ho hk)) hk') hk
   split
   ·rename_i hg;simp only[hg]at hr;exact⟨V7 key hr.1,hr.2⟩
   ·rename_i j b hg;simp only[hg]at hr;split
    ·rename_i hc;rw[if_pos hc]at hr;exact⟨V7 key hr.1,hr.2⟩
    ·rename_i hc;rw[if_neg hc]at hr;exact key _ _ hr
theorem cp2:∀(c:Code) (Q Q':Exit→Fr→World→Prop) (f:Fr) (w:World),(∀e f' w',(∀i,i∉wrC c→f' i=f i)→Q e f' w'→Q' e f' w')→CW P c Q f w→CW P c Q' f w:=by
 intro c
 induction c with
 | skip=>intro Q Q' f w h hc;exact h _ _ _ (fun _ _=>rfl) hc
 | seq a b iha ihb=>
  intro Q Q' f w h hc;refine iha _ _ _ _ ?_ hc;intro e f' w' hf hq;cases e
  case normal=>
   refine ihb _ _ _ _ ?_ hq;intro e2 f2 w2 hf2 hq2;exact h _ _ _ (fun i hi=>by
    simp only[wrC,ey1,not_or]at hi;rw[hf2 i hi.2,hf i hi.1]) hq2
  all_goals exact h _ _ _ (fun i hi=>by
    simp only[wrC,ey1,not_or]at hi;exact hf i hi.1) hq
 | cond v a b iha ihb=>
  intro Q Q' f w h hc;simp only[CW]at hc ⊢;unfold aI0 at *;split
  ·rename_i hv;simp only[hv]at hc;exact iha _ _ _ _ (fun e f' w' hf hq=>h _ _ _ (fun i hi=>by simp only[wrC,ey1,not_or]at hi;exact hf i hi.1) hq) hc
  ·rename_i hv;simp only[hv]at hc;exact ihb _ _ _ _ (fun e f' w' hf hq=>h _ _ _ (fun i hi=>by simp only[wrC,ey1,not_or]at hi;exact hf i hi.2) hq) hc
  ·rename_i h1 h2;split at hc
   ·rename_i hv;exact absurd hv h1
   ·rename_i hv;exact absurd hv h2
   ·exact hc
 | block id a ih=>
  intro Q Q' f w h hc;refine ih _ _ _ _ ?_ hc;intro e f' w' hf hq;cases e
  case exit id'=>
   simp only[S9]at hq ⊢;split
   ·rename_i hid;rw[if_pos hid]at hq;exact h _ _ _ hf hq
   ·rename_i hid;rw[if_neg hid]at hq;exact h _ _ _ hf hq
  all_goals exact h _ _ _ hf hq
 | loop a ih=>
  intro Q Q' f w h hc;obtain⟨σ,I,m,s0,h0,hr⟩:=hc;refine⟨σ,fun s f' w'=>I s f' w'∧∀i,i∉wrC a→f' i=f i,m,s0,⟨h0,fun _ _=>rfl⟩,?_⟩;rintro s f' w' ⟨hI,hfr⟩;refine ih _ _ _ _ ?_ (hr s f' w' hI);intro e f2 w2 hf2 hq;cases e
  case normal=>
   obtain⟨s',h1,h2⟩:=hq;exact⟨s',h1,h2,fun i hi=>by rw[hf2 i hi,hfr i hi]⟩
  all_goals exact h _ _ _ (fun i hi=>by rw[hf2 i hi,hfr i hi]) hq
 | region id ops d=>
  intro Q Q' f w h hc;cases d
  case false=>exact cq2 _ _ _ (fun f' w' hf hq=>h _ _ _ hf hq) hc
  case true=>
   obtain⟨S,n,ord,h1,h3,h4⟩:=hc;refine⟨S,n,ord,h1,h3,?_⟩;refine bx1 ord _ _ ?_ h4;intro f' w' hf hq;refine cq2 _ _ _ ?_ hq;intro f2 w2 hf2 hq2;exact h _ _ _ (fun i hi=>by
    rw[hf2 i,hf i hi];intro hm;obtain⟨o,ho,hd⟩:=List.mem_filterMap.1 hm;exact hi (List.mem_filterMap.2 ⟨o,eI3 ho,hd⟩)) hq2
 | exit id=>intro Q Q' f w h hc;exact h _ _ _ (fun _ _=>rfl) hc
 | label l=>intro Q Q' f w h hc;exact h _ _ _ (fun _ _=>rfl) hc
 | ret=>intro Q Q' f w h hc;exact h _ _ _ (fun _ _=>rfl) hc
 | _=>intro Q Q' f w _ hc;exact hc
theorem n7{c:Code}{Q:Exit→Fr→World→Prop}{f:Fr}{w:World}{σ:Type}(keep:List Nat)(I:σ→Fr→World→Prop)(m:σ→Nat)(s0:σ)
  (hk:keep.all (fun i=>!(wrC c).contains i)=true) (h0:I s0 f w)
  (hr:∀s f' w',(∀i∈keep,f' i=f i)→I s f' w'→CW P c (W8 (fun f'' w''=>∃s',m s'<m s∧I s' f'' w'') Q) f' w'):bY4 (CW P c) Q f w:=by
 have hk':∀i∈keep,i∉wrC c:=by
  intro i hi hm;have:=eI4.1 hk i hi;simp[hm]at this
 refine⟨σ,fun s f' w'=>I s f' w'∧∀i∈keep,f' i=f i,m,s0,⟨h0,fun _ _=>rfl⟩,?_⟩;rintro s f' w' ⟨hI,hfr⟩;refine cp2 c _ _ _ _ ?_ (hr s f' w' hfr hI);intro e f2 w2 hf2 hq;cases e
 case normal=>
  obtain⟨s',h1,h2⟩:=hq;exact⟨s',h1,h2,fun i hi=>by rw[hf2 i (hk' i hi),hfr i hi]⟩
 all_goals exact hq
theorem z6{k:Nat}{args:List Value}{w:World}{K:Fr→World→Prop}{f:Fr}{d:Option Nat}{R:Value→World→Prop}(hb:ag0 P k=true)
  (h:Calls P k args.toArray w fun e w'=>∃v,e = .returned v∧R v w') (hk:∀v w',R v w'→K (A7 f d v) w'):ar5 P k args w K f d:=
 .inl ⟨hb,h.mono fun _ _ ⟨v,he,hr⟩=>⟨v,he,hk _ _ hr⟩⟩
theorem C2{ops:Array Oper}{K:Fr→World→Prop}{f:Fr}{w:World}(S:World→Prop)(n:Nat)(ord:aA4)(hok:bK6 ops n ord=true)(hS:S w.drew)
  (h:RnF P ops S ord (Rn P ops (ops.toList.drop n) K) f w.drew):cp6 P ops K f w:=⟨S,n,ord,hok,hS,h⟩
theorem ct8{ops:Array Oper}{K:Fr→World→Prop}{f:Fr}{w:World}(keep:List Nat)(S:World→Prop)(n:Nat)(ord:aA4)(I:Fr→World→Prop)(hok:bK6 ops n ord=true)(hkp:keep.all (fun i=>!(cM1 ops).contains i)=true)(hS:S w.drew)
  (h:RnF P ops S ord I f w.drew) (hk:∀f' w',(∀i∈keep,f' i=f i)→I f' w'→Rn P ops (ops.toList.drop n) K f' w'):cp6 P ops K f w:=by
 refine⟨S,n,ord,hok,hS,bx1 ord _ _ (fun f' w' hf hi=>hk f' w' (fun i hi'=>hf i ?_) hi) h⟩;have:=eI4.1 hkp i hi';intro hm;simp[hm]at this
theorem at9{ops:Array Oper}{S:World→Prop}{K:Fr→World→Prop}{f:Fr}{w:World}{rs:List Nat}{k:Nat→aA4}(hf:rs.all (fun i=>match ops[i]? with|some o=>!flt o.op|none=>false)=true)
  (h:∀i∈rs,RnF P ops S (.op i (k i)) K f w):RnF P ops S (.fork rs k) K f w:=by
 unfold RnF;intro i hi;have h1:=h i hi;have h2:=eI4.1 hf i hi;unfold RnF at h1;cases ho:ops[i]? with
 | none=>simp[ho]at h2
 | some o=>
  simp only[ho]at h1 h2 ⊢;have h3:flt o.op=false:=by simpa using h2
  cases hg:o.guard with
  | none=>simp only[hg]at h1 ⊢;exact⟨h1,h3⟩
  | some jb=>
   obtain⟨j,b⟩:=jb;simp only[hg]at h1 ⊢;split
   ·rename_i hc;rw[if_pos hc]at h1;exact⟨h1,h3⟩
   ·rename_i hc;rw[if_neg hc]at h1;exact h1
def B0:List Nat→aA4
 | []=>.nil
 | i::l=>.op i (B0 l)
end
def ez1:=@Int.toNat_natCast
def eE1:=@List.ext_getElem
def ex7:=@List.length_map
def eC0:=@List.length_range
def eB2:=@List.length_replicate
def ez5:=@List.map_append
def eI0:=@List.mem_iff_getElem?
def ey5:=@List.mem_of_getElem?
def ex5:=@List.take_length
def eH5:=@decide_eq_false
theorem K1(n:Int)(h : -9223372036854775808≤n∧n≤9223372036854775807):IntKind.i64.wrap n=n:=IntWalk.i64_in n h
theorem B2(k:Nat)(h:k<4000000000000000000):IntKind.i64.wrap ((k:Int)+1)=((k+1:Nat):Int):=by
 rw[K1 _ (by omega)];rfl
theorem ek3(k:Nat)(h:k<4000000000000000000):IntKind.i64.wrap (k:Int)=(k:Int):=K1 _ (by omega)
theorem ek8(k:Nat):decide ((0:Int)≤(k:Int))=true:=by simp
def E8(P:Program)(t T sz by_:Nat):Bool:=
 (A8 P t==some T)&&(match G2 P T with|some z=>z.cells.size==sz|none=>false)&&(E5 P T==sz)&&(cs9 P T==by_)&&decide (0<sz)&&decide (sz≤1000000)
theorem P2{P:Program}{t T sz by_:Nat}(h:E8 P t T sz by_=true):
  A8 P t=some T∧(∃z,G2 P T=some z∧z.cells.size=sz)∧E5 P T=sz∧cs9 P T=by_∧0<sz∧sz≤1000000:=by
 simp only[E8,ey9,beq_iff_eq,eA7]at h;obtain⟨⟨⟨⟨⟨h1,h2⟩,h3⟩,h4⟩,h5⟩,h6⟩:=h;refine⟨h1,?_,h3,h4,h5,h6⟩;cases hz:G2 P T with
 | none=>simp[hz]at h2
 | some z=>exact⟨z,rfl,by simpa[hz]using h2⟩
section
variable {P:Program} {w:World} {h:Hp} {t T sz by_:Nat} {v:Value}
theorem push{α:Type}[A3 α]{e:TypeId}(hs:E8 P t T sz by_=true)(hsz:A3.sz α=sz){xs:List α}(ho:A9 h w T v xs){x:Value}{y:α}(hy:A3.enc h x.cells.toList y)
  (hl:xs.length+1≤1000000000000) (hb:(xs.length+1)*by_≤140737488355328) (hw:B4 h (d7 w)) :
  (Instr.buildSlice t 1 #[(0,x)]).run P w = .ok (.slice (some ⟨w.heap.size,0,none⟩) 1 1) (w.alloc (.cells x.cells T)) ∧
  ∃v' w',(Builtin.append_ #[t,t] e #[v,.slice (some ⟨w.heap.size,0,none⟩) 1 1]).run P (w.alloc (.cells x.cells T)) = .ok v' w'∧A9 h w' T v' (xs++[y])∧o9 (A4 v) w w'∧E0 w v v':=by
 obtain⟨h1,⟨z,hz,hzs⟩,h3,h4,h5,h6⟩:=P2 hs;have hx:x.cells.size=sz:=by have:=A3.len hy;simpa[hsz]using this
 exact⟨ai2 h1 hz (by omega) (by omega) (by rw[hx,h3]),cB2 h1 hz (by rw[h3,hsz]) (by rw[hzs,hsz]) ho hy hl (by rw[h4];exact hb) hw⟩
theorem lit{α:Type}[A3 α](hs:E8 P t T sz by_=true){xs:List Value}{ys:List α}{parts:Array (Nat×Value)}{n:Nat}(hp:parts.toList=(xs.zipIdx 0).map fun p=>(p.2,p.1))
  (he:M7 h (xs.flatMap (·.cells.toList)) ys) (hx:∀x∈xs,x.cells.size=sz) (hn:n=xs.length) (hyl:ys.length=xs.length) (hne:xs≠[]) (hlt:xs.length≤16) (hw:B4 h (d7 w)) :
  ∃v w',(Instr.buildSlice t n parts).run P w = .ok v w'∧A9 h w' T v ys∧o6 w w'∧(∀b,A4 v b→w.heap.size≤b):=by
 obtain⟨h1,⟨z,hz,hzs⟩,h3,h4,h5,h6⟩:=P2 hs;obtain⟨i,hi,hiz⟩:=p9 hz;have hr:=ao3 (w:=w) h1 (by rw[hi];rfl) hz xs (by rw[h3];exact hx) hne (by omega) (ex3 (Nat.mul_le_mul hlt (show E5 P T≤1000000 by omega)) (by omega)) hp hn;refine⟨_,_,hr,.inr ⟨w.heap.size,n,_,by rw[hn,hyl],aw0 hw (ex9 _),eA5 w _,by omega,by rw[hn];simp only[maxLen];omega,?_,?_⟩,o6.alloc _ _,fun b hb=>by simp[A4,Value.ownBlock]at hb;omega⟩
 ·have:=J8 he;simp only[eE9,this,hyl,hn]
 ·rw[←J8 he];simp only[ex5];exact he
theorem cb4{α:Type}[A3 α]{c:List Value}{y:α}(he:A3.enc h c y):∀n:Nat,M7 h (List.replicate n c).flatten (List.replicate n y)
 | 0=>rfl
 | n+1=>⟨c,(List.replicate n c).flatten,by simp[List.replicate_succ],he,cb4 he n⟩
theorem bG3(z:Array Value)(hz:0<z.size):∀n:Nat,((Array.range (n*z.size)).map fun i=>z[i % z.size]!).toList=(List.replicate n z.toList).flatten
 | 0=>by simp
 | n+1=>by
  have ih:=bG3 z hz n;simp only[Array.toList_map,Array.toList_range]at ih ⊢;rw[eH1,Nat.one_mul,List.range_add,ez5,ih,List.replicate_succ',List.flatten_append]
  congr 1
  simp only[List.map_map,List.flatten_cons,List.flatten_nil,ez3];apply eE1
  ·simp
  ·intro i h1 h2;simp only[ex7,eC0]at h1;have:(n*z.size+i) % z.size=i:=by rw[Nat.add_comm,Nat.add_mul_mod_self_right];exact Nat.mod_eq_of_lt h1
   simp[this,h1]
theorem mk{α:Type}[A3 α](hs:E8 P t T sz by_=true){z:Value}(hz:G2 P T=some z){y:α}(he:A3.enc h z.cells.toList y){n:Nat}(hb:by_*n≤281474976710656)(hn:n≤1000000000000)(hw:B4 h (d7 w)):
  ∃v w',(Instr.makeSlice t (.int .i64 n) (.int .i64 n)).run P w = .ok v w'∧A9 h w' T v (List.replicate n y)∧o6 w w'∧(∀b,A4 v b→w.heap.size≤b)∧w'.heap.size=w.heap.size+1:=by
 obtain⟨h1,⟨z',hz',hzs⟩,h3,h4,h5,h6⟩:=P2 hs;obtain rfl:z=z':=ey4 (hz.symm.trans hz');obtain⟨i,hi,hiz⟩:=p9 hz;have hby:i.bytes=by_:=by rw[←h4,as1 hi]
 have hsi:i.size=sz:=by rw[←h3,C8 hi]
 have hl:=A3.len he;have hszα:A3.sz α=sz:=by rw[←hl];simpa using hzs
 have hnw:IntKind.i64.wrap (n:Int)=n:=ek3 n (by omega);have hnb:¬((by_:Int)*(n:Int)>281474976710656):=by
  have:=Int.ofNat_le.2 hb;rw[Int.natCast_mul]at this;omega
 have hpow:(2:Int) ^ 48=281474976710656:=by decide +kernel
 have hroom:∀b w,(askRoom b).run P w = .ok () w:=by
  intro b w;unfold askRoom;split
  ·rfl
  ·rfl
 refine⟨.slice (some ⟨w.heap.size,0,none⟩) n n,w.alloc (.cells ((Array.range (n*sz)).map fun i=>z.cells[i % z.cells.size]!) T),?_,?_,o6.alloc _ _,fun b hb'=>by simp[A4,Value.ownBlock]at hb';omega,by simp⟩
 ·unfold Instr.makeSlice;simp only[ey8,F3,J7 h1,ey0,asInt,asIntOf,eA0,L5,hi,hby,hnw,hpow];have hc:((decide ((n:Int)<0)||decide ((by_:Int)*(n:Int)>281474976710656))||decide ((n:Int)<0)||decide ((n:Int)>(n:Int)))=false:=by
   rw[eH5 (show ¬((n:Int)<0) by omega),eH5 hnb,eH5 (show ¬((n:Int)>(n:Int)) by omega)];rfl
  simp only[hc,eD3,eE5,ey8,hroom,ey0,ez1,M8 (show(P.info? T).isSome=true by rw[hi];rfl),h3];by_cases h0:n*sz=0
  ·have e0:∀(g:Nat→Value),(Array.range 0).map g=#[]:=fun g=>by simp
   simp only[h0,eC9,e0];simp only[ey8,eA0,ey0];rfl
  ·simp only[h0,eE5,ey8,zeroValue,L5,hi,ey0,hiz,eA0];rfl
 ·right;refine⟨w.heap.size,n,_,by simp,aw0 hw (ex9 _),eA5 w _,by simp,by simp only[maxLen];omega,by simp[hszα],?_⟩;have:=bG3 z.cells (by omega) n;rw[hzs]at this ⊢;rw[this,eB2,hszα];have hlen:(List.replicate n z.cells.toList).flatten.length=n*sz:=by simp[hzs]
  rw[←hlen,ex5];exact cb4 he n
end
structure Ptr (α:Type) where
 to:α
instance {α:Type} [A3 α]:A3 (Ptr α) where
 sz:=1
 pos:=by omega
 enc h cs x:=∃a es,cs=[.pointer (some a)]∧A3.enc h es x.to∧∀j v,es[j]?=some v→I5 h (a.add j)=some v
 len:=by rintro h cs x ⟨a,es,rfl,_⟩;rfl
 mono:=by
  rintro h k cs x hk ⟨a,es,e,h1,h2⟩;exact⟨a,es,e,A3.mono hk h1,fun j v hv=>F8 hk (h2 j v hv)⟩
 one:=by
  rintro h cs x ⟨a,es,rfl,_⟩ v hv;simp at hv;subst hv;rfl
structure Y0 where
 v:Value
instance:A3 Y0 where
 sz:=1
 pos:=by omega
 enc _ cs x:=cs=[x.v]∧x.v.oneCell'=true
 len h:=by simp[h.1]
 mono _ h:=h
 one h:=by
  intro v hv;rw[h.1]at hv;simp at hv;subst hv;exact h.2
structure K5 {α:Type} [A3 α] (h:Hp) (w:World) (T T':TypeId) (v:Value) (us:List Y0) (xss:List (List α)):Prop where
 outer:A9 h w T v us
 len:us.length=xss.length
 row:∀(i:Nat) (u:Y0) (xs:List α),us[i]?=some u→xss[i]?=some xs→A9 h w T' u.v xs
 apart:∀(i j:Nat) (u u':Y0),i≠j→us[i]?=some u→us[j]?=some u'→∀b,A4 u.v b→¬A4 u'.v b
 off:∀(i:Nat) (u:Y0),us[i]?=some u→∀b,A4 u.v b→¬A4 v b
def K7(v:Value)(us:List Y0)(b:Nat):Prop:=A4 v b∨∃u∈us,A4 u.v b
section
variable {α:Type} [A3 α] {h:Hp} {w:World} {T T':TypeId} {v:Value} {us:List Y0} {xss:List (List α)}
theorem K5.free(hr:K5 h w T T' v us xss){b:Nat}(hb:K7 v us b):h b=none:=by
 rcases hb with hb|⟨u,hu,hb⟩
 ·exact hr.outer.free hb
 ·obtain⟨i,hi⟩:=eI0.1 hu;have hlt:i<xss.length:=by rw[←hr.len];exact(ex1.1 hi).1
  exact(hr.row i u _ hi (ew4 hlt)).free hb
theorem K5.lt(hr:K5 h w T T' v us xss){b:Nat}(hb:K7 v us b):b<w.heap.size:=by
 rcases hb with hb|⟨u,hu,hb⟩
 ·exact hr.outer.lt hb
 ·obtain⟨i,hi⟩:=eI0.1 hu;have hlt:i<xss.length:=by rw[←hr.len];exact(ex1.1 hi).1
  exact(hr.row i u _ hi (ew4 hlt)).lt hb
theorem K5.mod{M:Nat→Prop}{w':World}(hr:K5 h w T T' v us xss)(hm:o9 M w w')(hM:∀b,K7 v us b→¬M b):K5 h w' T T' v us xss:=
 ⟨hr.outer.mod hm fun b hb=>hM b (.inl hb),hr.len,fun i u xs hi hx=>(hr.row i u xs hi hx).mod hm fun b hb=>hM b (.inr ⟨u,ey5 hi,hb⟩),hr.apart,hr.off⟩
theorem K5.ext{w':World}(hr:K5 h w T T' v us xss)(hm:o6 w w'):K5 h w' T T' v us xss:=hr.mod hm fun _ _=>id
theorem K5.set{w' w'':World}(hr:K5 h w T T' v us xss){i:Nat}{u:Y0}(hi:us[i]?=some u){u':Value}{xs:List α}
  (hm:o9 (A4 u.v) w w') (ho:A9 h w' T' u' xs) (hv:E0 w u.v u')
  (hm2:o9 (A4 v) w' w'') (ho2:A9 h w'' T v (us.set i ⟨u'⟩)):K5 h w'' T T' v (us.set i ⟨u'⟩) (xss.set i xs):=by
 have hil:i<us.length:=(ex1.1 hi).1;have hnew:∀b,A4 u' b→¬A4 v b:=fun b hb hb2=>by
  rcases hv b hb with hb3|hb3
  ·exact hr.off i u hi b hb3 hb2
  ·have:=hr.outer.lt hb2;omega
 have hget:∀(j:Nat) (x:Y0),(us.set i ⟨u'⟩)[j]?=some x→(j=i∧x=⟨u'⟩)∨(j≠i∧us[j]?=some x):=by
  intro j x hj;rw[List.getElem?_set]at hj;by_cases hji:i=j
  ·subst hji;simp only[eC9,if_pos hil]at hj;exact .inl ⟨rfl,(ey4 hj).symm⟩
  ·rw[if_neg hji]at hj;exact .inr ⟨fun e=>hji e.symm,hj⟩
 have hother:∀(j:Nat) (x:Y0),j≠i→us[j]?=some x→∀b,A4 x.v b→¬A4 u' b:=by
  intro j x hji hj b hb hb2;rcases hv b hb2 with hb3|hb3
  ·exact hr.apart j i x u hji hj hi b hb hb3
  ·have hlt:j<xss.length:=by rw[←hr.len];exact(ex1.1 hj).1
   have:=(hr.row j x _ hj (ew4 hlt)).lt hb;omega
 refine⟨ho2,by simp[hr.len],?_,?_,?_⟩
 ·intro j x ys hj hy;rcases hget j x hj with⟨rfl,rfl⟩|⟨hji,hj'⟩
  ·rw[List.getElem?_set,if_pos rfl,if_pos (by rw[←hr.len];exact hil)]at hy;obtain rfl:=ey4 hy;exact ho.mod hm2 hnew
  ·rw[List.getElem?_set,if_neg (fun e=>hji e.symm)]at hy;refine((hr.row j x ys hj' hy).mod hm fun b hb hb2=>hr.apart j i x u hji hj' hi b hb hb2).mod hm2 fun b hb=>hr.off j x hj' b hb
 ·intro j k x y hjk hj hk b hb hb2;rcases hget j x hj with⟨rfl,rfl⟩|⟨hji,hj'⟩<;>rcases hget k y hk with⟨rfl,rfl⟩|⟨hki,hk'⟩
  ·exact hjk rfl
  ·exact hother k y hki hk' b hb2 hb
  ·exact hother j x hji hj' b hb hb2
  ·exact hr.apart j k x y hjk hj' hk' b hb hb2
 ·intro j x hj b hb;rcases hget j x hj with⟨rfl,rfl⟩|⟨hji,hj'⟩
  ·exact hnew b hb
  ·exact hr.off j x hj' b hb
theorem K5.ro(hr:K5 h w T T' v us xss)(hw:B4 h (d7 w)):R (d7 w) v xss:=by
 have ho:=hr.outer.rw_ hw;obtain⟨a,n,c,e,h1,h2,es,h3,h4⟩:=ho;refine⟨a,n,c,e,by rw[h1,hr.len],h2,es,?_,h4⟩;have key:∀(us:List Y0) (xss:List (List α)) (es:List Value),us.length=xss.length→M7 (d7 w) es us →
   (∀(i:Nat) (u:Y0) (xs:List α),us[i]?=some u→xss[i]?=some xs→R (d7 w) u.v xs)→M7 (d7 w) es xss:=by
  intro us
  induction us with
  | nil=>
   intro xss es hl he _;have:xss=[]:=List.eq_nil_of_length_eq_zero hl.symm;subst this;exact he
  | cons u us ih=>
   intro xss es hl he hx;cases xss with
   | nil=>simp at hl
   | cons xs xss=>
    obtain⟨c1,c2,rfl,⟨hc1,_⟩,hc2⟩:=he;subst hc1;exact⟨[u.v],c2,rfl,hx 0 u xs rfl rfl,ih xss c2 (by simpa using hl) hc2 fun i u' xs' h5 h6=>hx (i+1) u' xs' (by simpa using h5) (by simpa using h6)⟩
 exact key us xss es hr.len h3 fun i u xs hi hx=>(hr.row i u xs hi hx).rw_ hw
end
section
variable {P:Program} {w:World} {h:Hp} {t T:TypeId} {v:Value}
theorem bB5(w:World)(z cs:Array Value)(T:TypeId):(w.alloc (.cells z T)).setRow w.heap.size cs=w.alloc (.cells cs T):=by
 unfold World.setRow World.alloc
 congr 1
 apply Array.ext
 ·simp
 ·intro i h1 h2;simp only[Array.getElem_modify];by_cases hi:w.heap.size=i
  ·subst hi;simp
  ·rw[if_neg hi];have:i<w.heap.size:=by simp at h2;omega
   simp[Array.getElem_push,this]
theorem aH8{z:Value}(hz:G2 P T=some z)(hs:z.cells.size=E5 P T){cs:Array Value}(hc:cs.size=E5 P T)(h1:∀u∈cs.toList,u.oneCell'=true):
  (Instr.alloc T true (.tuple #[])).run P w = .ok (.pointer (some ⟨w.heap.size,0,none⟩)) (w.alloc (.cells z.cells T)) ∧
  (Instr.storeAt T (.pointer (some ⟨w.heap.size,0,none⟩)) (.agg cs)).run P (w.alloc (.cells z.cells T)) = .ok () (w.alloc (.cells cs T)):=by
 obtain⟨i,hi,hiz⟩:=p9 hz;constructor
 ·unfold Instr.alloc zeroValue;simp only[ey8,L5,hi,hiz,eA0,ey0];rfl
 ·have hst:=run_storeCells_from (P:=P) w.heap.size T cs.toList 0 z.cells (w.alloc (.cells z.cells T)) (eA5 w _) (by simp[hc,hs]) h1;simp only[eH2,eG1,Array.toArray_toList]at hst;unfold Instr.storeAt storeVar;simp only[Instr.sureAddr,ey8,eA0,ey0,sizeOf,L5,hi,Value.cells];rw[C8 hi]at hc;simp only[hc,ne_eq,not_true_eq_false,eE5];rw[←bB5 w z.cells cs T];exact hst
theorem ct4{cs:Array Value}{i:Nat}{u:Value}(hu:cs[i]?=some u):(w.alloc (.cells cs T)).cell? ⟨w.heap.size,i,none⟩=some u:=by
 rw[eH9];exact hu
theorem cz1{cs:Array Value}{i:Nat}{u:Value}(hu:cs[i]?=some u)(ht:C1 P t=false):(Instr.loadAt t (.pointer (some ⟨w.heap.size,i,none⟩))).run P (w.alloc (.cells cs T)) = .ok u (w.alloc (.cells cs T)):=
 Q4 ht (ct4 hu)
theorem cc3{xs:List (Int×Int)}(hr:R h v xs)(hw:B4 h (d7 w)){k:Nat}{x:Int×Int}(hk:xs[k]?=some x)(ht:C1 P t=true)(hu:(P.underlying t).isSome=true)(hi:(P.info? t).isSome=true)(hs:E5 P t=2):
  (Instr.loadAt t (.pointer (some (H1 v (k*2))))).run P w = .ok (.agg #[.int .i64 x.1,.int .i64 x.2]) w:=by
 obtain⟨_,es,he,hc⟩:=hr.get hk;obtain⟨c1,c2,rfl,h1,h2⟩:=he;have h1':c1=[.int .i64 x.1]:=h1;have h2':c2=[.int .i64 x.2]:=h2;subst h1' h2';exact bi4 (cs:=[.int .i64 x.1,.int .i64 x.2]) ht hu hi hs fun j u hj=>F8 hw (hc j u hj)
theorem add_lit(b o k:Nat):(⟨b,o,none⟩:Addr).add k=⟨b,o+k,none⟩:=by unfold Addr.add;split<;>simp_all
theorem R.row{α:Type}[A3 α]{xss:List (List α)}(hr:R h v xss){k:Nat}{x:List α}(hk:xss[k]?=some x):∃u,R h u x∧I5 h (H1 v k)=some u:=by
 obtain⟨_,es,he,hc⟩:=hr.get hk;have hl:es.length=1:=A3.len he
 match es,hl with
 | [u],_=>
  have:=hc 0 u rfl;rw[K0]at this;have h1:(k*A3.sz (List α))=k:=eF9 k;rw[h1]at this;exact⟨u,he,this⟩
theorem G3{a:Addr}{u:Value}(hc:I5 h a=some u)(hw:B4 h (d7 w))(ht:C1 P t=false):(Instr.loadAt t (.pointer (some a))).run P w = .ok u w:=
 Q4 ht (F8 hw hc)
theorem A9.ext2{α:Type}[A3 α]{w0 w2:World}{xs:List α}(ho:A9 (d7 w0) w T v xs)(hx:o6 w0 w)(hm:o9 (A4 v) w w2):o6 w0 w2:=
 o9.ext_of hx hm fun b hb=>by
  rcases eA1 b w0.heap.size with hlt|hge
  ·have:=ho.free hb;simp[d7,hlt]at this
  ·exact hge
theorem aT7{α:Type}[I7 α]{k:Hp}:∀{xs:List α} {cs:List Value},M7 k cs xs→M7 h cs xs
 | [],_,e=>e
 | _::_,_,⟨c1,c2,e,h1,h2⟩=>⟨c1,c2,e,h1,aT7 h2⟩
theorem A9.down{α:Type}[I7 α]{k:Hp}{xs:List α}(ho:A9 k w T v xs)(hk:B4 h k):A9 h w T v xs:=by
 rcases ho with hn|⟨b,c,cur,rfl,h1,h2,h3,h4,h5,h6⟩
 ·exact .inl hn
 ·refine .inr ⟨b,c,cur,rfl,?_,h2,h3,h4,h5,aT7 h6⟩;cases e:h b with
  | none=>rfl
  | some o=>rw[hk b o e]at h1;cases h1
theorem A9.back{α:Type}[I7 α]{w0 w1:World}{xs:List α}(ho:A9 (d7 w1) w T v xs)(hx:o6 w0 w1):A9 (d7 w0) w T v xs:=ho.down (b7 hx)
end
open Classical in
noncomputable def aI1 (w:World) (v:Value):Hp:=fun b=>if A4 v b then none else w.heap[b]?
theorem br8{w:World}{v:Value}{b:Nat}(h:A4 v b):aI1 w v b=none:=by unfold aI1;rw[if_pos h]
theorem aF4{w:World}{v:Value}{b:Nat}(h:¬A4 v b):aI1 w v b=w.heap[b]?:=by unfold aI1;rw[if_neg h]
theorem cw2(w:World)(v:Value):B4 (aI1 w v) (d7 w):=fun b o e=>by
 by_cases h:A4 v b
 ·rw[br8 h]at e;cases e
 ·rw[aF4 h]at e;exact e
section
variable {α:Type} [A3 α] {h:Hp} {w:World} {T:TypeId} {v:Value} {xs:List α}
theorem A9.rebase(ho:A9 h w T v xs)(hw:B4 h (d7 w)):A9 (aI1 w v) w T v xs:=by
 refine ho.up (fun b o e=>?_) fun b hb=>br8 hb;have hn:¬A4 v b:=fun hb=>by rw[ho.free hb]at e;cases e
 rw[aF4 hn];exact hw b o e
theorem A9.beside{β:Type}[A3 β]{k:Hp}{T':TypeId}{u:Value}{ys:List β}(hu:A9 k w T' u ys)(hk:B4 k (aI1 w v))(hd:∀b,A4 u b→¬A4 v b):R (aI1 w v) u ys:=
 hu.ro hk fun b hb=>aF4 (hd b hb)
end
theorem K5.write{α:Type}[A3 α]{h:Hp}{w w':World}{T T':TypeId}{v:Value}{us:List Y0}{xss:List (List α)}(hr:K5 h w T T' v us xss){i:Nat}{u:Y0}(hi:us[i]?=some u){xs:List α}
  (hm:o9 (A4 u.v) w w') (ho:A9 h w' T' u.v xs):K5 h w' T T' v us (xss.set i xs):=by
 have hset:us.set i ⟨u.v⟩=us:=by
  obtain⟨hl,e⟩:=ex1.1 hi;apply eE1 (by simp);intro j h1 h2;rw[List.getElem_set];split
  ·rename_i e2;subst e2;exact e.symm
  ·rfl
 have:=hr.set (u':=u.v) (xs:=xs) hi hm ho (fun b hb=>.inl hb) (o9.refl _) (by
  rw[hset];exact hr.outer.mod hm fun b hb hb2=>hr.off i u hi b hb2 hb)
 rw[hset]at this;exact this
open Classical in
noncomputable def B8 (w:World) (N:Nat→Prop):Hp:=fun b=>if N b then none else w.heap[b]?
theorem H3{w:World}{N:Nat→Prop}{b:Nat}(h:N b):B8 w N b=none:=by unfold B8;rw[if_pos h]
theorem D3{w:World}{N:Nat→Prop}{b:Nat}(h:¬N b):B8 w N b=w.heap[b]?:=by unfold B8;rw[if_neg h]
theorem B3(w:World)(N:Nat→Prop):B4 (B8 w N) (d7 w):=fun b o e=>by
 by_cases h:N b
 ·rw[H3 h]at e;cases e
 ·rw[D3 h]at e;exact e
theorem G6{w w':World}{N N' M:Nat→Prop}(hm:o9 M w w')(hM:∀b,M b→N b)(hN:∀b,N' b→N b∨w.heap.size≤b):B4 (B8 w N) (B8 w' N'):=fun b o e=>by
 by_cases h:N b
 ·rw[H3 h]at e;cases e
 ·rw[D3 h]at e;have hb:b<w.heap.size:=(ex0.1 e).1;have h':¬N' b:=fun hb'=>by
   rcases hN b hb' with k|k
   ·exact h k
   ·omega
  rw[D3 h',hm.block b hb fun hh=>h (hM b hh)];exact e
theorem aF5{w0 w:World}{N:Nat→Prop}(hx:o6 w0 w)(hN:∀b,N b→w0.heap.size≤b):B4 (d7 w0) (B8 w N):=fun b o e=>by
 have hb:b<w0.heap.size:=(ex0.1 (show w0.heap[b]?=some o from e)).1;have hn:¬N b:=fun h=>by have:=hN b h;omega
 rw[D3 hn];exact b7 hx b o e
section
variable {α:Type} [A3 α] {h:Hp} {w:World} {T:TypeId} {v:Value} {xs:List α} {N:Nat→Prop}
theorem A9.noMod{w':World}{N' M:Nat→Prop}(ho:A9 (B8 w N) w T v xs)(hm:o9 M w w')(hM:∀b,M b→N b)(hd:∀b,A4 v b→¬M b)(hN:∀b,N' b→N b∨w.heap.size≤b)(hv:∀b,A4 v b→N' b):A9 (B8 w' N') w' T v xs:=
 (ho.mod hm hd).up (G6 hm hM hN) fun b hb=>H3 (hv b hb)
theorem A9.roNo{k:Hp}(hu:A9 k w T v xs)(hk:B4 k (B8 w N))(hd:∀b,A4 v b→¬N b):R (B8 w N) v xs:=hu.ro hk fun b hb=>D3 (hd b hb)
theorem A9.reNo(ho:A9 h w T v xs)(hh:B4 h (B8 w N))(hv:∀b,A4 v b→N b):A9 (B8 w N) w T v xs:=ho.up hh fun b hb=>H3 (hv b hb)
end
def eJ1:=@Bool.eq_iff_iff
def eD5:=@Iff.rfl
def eJ2:=@List.cons.injEq
def eH6:=@List.cons_append
def ey3:=@List.mem_cons
def eB7:=@List.not_mem_nil
def eH8:=@or_false
structure A6 where
 b:List UInt8
 deriving DecidableEq
instance:Inhabited A6:=⟨⟨[]⟩⟩
def ofA(b:Array UInt8):A6:=⟨b.toList⟩
abbrev e0:A6:=ofA #[]
def o7(s:A6):Value:=.string ⟨s.b.toArray⟩
instance:I7 A6:=⟨o7,fun _=>rfl⟩
theorem al7(l:List UInt8):(⟨l.toArray⟩:ByteArray).toList=l:=by
 rw[ByteArray.toList_eq]
def Z6(a b:A6):Bool:=Op.bytesLess a.b b.b
theorem bd8(a b:A6):(a.b==b.b)=decide (a=b):=by
 refine eJ1.2 ?_;rw[beq_iff_eq,decide_eq_true_iff];cases a;cases b;simp
section
variable {P:Program} {t:TypeId}
theorem bZ4{a b:A6}:B9 P .eql t (o7 a) (o7 b)=some (.bool (decide (a=b))):=by
 simp only[o7,B9,al7,bd8]
theorem cK9{a b:A6}:B9 P .neq t (o7 a) (o7 b)=some (.bool (!decide (a=b))):=by
 simp only[o7,B9,al7,bd8]
theorem eb3{a b:A6}:B9 P .lss t (o7 a) (o7 b)=some (.bool (Z6 a b)):=by
 simp only[o7,B9,al7,Z6]
theorem cK8{a b:A6}:B9 P .gtr t (o7 a) (o7 b)=some (.bool !(Z6 a b||decide (a=b))):=by
 simp only[o7,B9,al7,Z6,bd8]
theorem dG8{s:A6}(h:bB8 P t=true)(he:A8 P t=none):O8 P t (o7 s)=some (.int .i64 (s.b.length:Nat)):=by
 simp only[O8,he,Option.isSome_none,eD3,eE5,o7,h,eC9];rfl
end
def bk8(h:Hp)(v:Value)(n:Nat)(E:List Value→Prop):Prop:=∃a m c es,v = .slice a m c∧m=n∧m≤c∧E es∧∀j u,es[j]?=some u→∃ad,a=some ad∧I5 h (ad.add j)=some u
theorem aL2{h k:Hp}(hk:B4 h k){v:Value}{n:Nat}{E F:List Value→Prop}(hE:∀es,E es→F es):bk8 h v n E→bk8 k v n F:=by
 rintro⟨a,m,c,es,e1,e2,e3,e4,e5⟩;refine⟨a,m,c,es,e1,e2,e3,hE _ e4,fun j u hj=>?_⟩;obtain⟨ad,h1,h2⟩:=e5 j u hj;exact⟨ad,h1,F8 hk h2⟩
theorem aV8{h:Hp}{v:Value}{n:Nat}{E:List Value→Prop}:bk8 h v n E→v.oneCell'=true:=by
 rintro⟨a,m,c,es,rfl,_⟩;rfl
theorem bY8{α:Type}[A3 α]{h:Hp}{v:Value}{xs:List α}:R h v xs↔bk8 h v xs.length (fun es=>M7 h es xs):=by
 constructor
 ·rintro⟨a,n,c,e,h1,h2,es,h3,h4⟩;simp only[eJ2,and_true]at e;exact⟨a,n,c,es,e,h1,h2,h3,h4⟩
 ·rintro⟨a,n,c,es,rfl,h1,h2,h3,h4⟩;exact⟨a,n,c,rfl,h1,h2,es,h3,h4⟩
structure be0 (α:Type) where
 n:Nat
 pos:0<n
 cells:α→List Value
 len:∀x,(cells x).length=n
 one:∀x,∀v∈cells x,v.oneCell'=true
abbrev be0.rep{α:Type}(F:be0 α):A3 α where
 sz:=F.n
 pos:=F.pos
 enc _ cs x:=cs=F.cells x
 len h:=by rw[h];exact F.len _
 mono _ h:=h
 one h:=by intro v hv;rw[h]at hv;exact F.one _ v hv
structure Pa where
 name:A6
 ref:Bool
 deriving DecidableEq
def Pa.cells(p:Pa):List Value:=[o7 p.name,.bool p.ref]
instance:A3 Pa:=be0.rep ⟨2,by omega,Pa.cells,fun _=>rfl,fun x v hv=>by simp[Pa.cells]at hv;rcases hv with rfl|rfl<;>rfl⟩
structure Sp where
 src:Int
 dst:Int
 kind:Int
 deriving DecidableEq
def Sp.cells(p:Sp):List Value:=[.int .i64 p.src,.int .i64 p.dst,.int .i64 p.kind]
instance:A3 Sp:=be0.rep ⟨3,by omega,Sp.cells,fun _=>rfl,fun x v hv=>by simp[Sp.cells]at hv;rcases hv with rfl|rfl|rfl<;>rfl⟩
structure Fw where
 src:Int
 dst:Int
 var:A6
 deriving DecidableEq
def Fw.cells(p:Fw):List Value:=[.int .i64 p.src,.int .i64 p.dst,o7 p.var]
instance:A3 Fw:=be0.rep ⟨3,by omega,Fw.cells,fun _=>rfl,fun x v hv=>by simp[Fw.cells]at hv;rcases hv with rfl|rfl|rfl<;>rfl⟩
structure Vx where
 proc:A6
 kind:Int
 id:Int
 slot:A6
 deriving DecidableEq
def Vx.cells(p:Vx):List Value:=[o7 p.proc,.int .i64 p.kind,.int .i64 p.id,o7 p.slot]
instance:A3 Vx:=be0.rep ⟨4,by omega,Vx.cells,fun _=>rfl,fun x v hv=>by simp[Vx.cells]at hv;rcases hv with rfl|rfl|rfl|rfl<;>rfl⟩
structure Eg where
 src:Vx
 dst:Vx
 kind:Int
 deriving DecidableEq
def Eg.cells(p:Eg):List Value:=p.src.cells++p.dst.cells++[.int .i64 p.kind]
instance:A3 Eg:=be0.rep ⟨9,by omega,Eg.cells,fun _=>rfl,fun x v hv=>by simp[Eg.cells,Vx.cells]at hv;rcases hv with rfl|rfl|rfl|rfl|rfl|rfl|rfl|rfl|rfl<;>rfl⟩
inductive Ex where
 | mk (op n:Int) (name:A6) (kids:List Ex)
namespace Ex
def op:Ex→Int | .mk a _ _ _=>a
def n:Ex→Int | .mk _ a _ _=>a
def name:Ex→A6 | .mk _ _ a _=>a
def kids:Ex→List Ex | .mk _ _ _ a=>a
end Ex
mutual
def aN1(h:Hp):Ex→List Value→Prop
 | .mk op n name kids,cs=>∃vk,cs=[.int .i64 op,.int .i64 n,o7 name,vk]∧bk8 h vk kids.length (aq9 h kids)
def aq9(h:Hp):List Ex→List Value→Prop
 | [],cs=>cs=[]
 | x::xs,cs=>∃c1 c2,cs=c1++c2∧aN1 h x c1∧aq9 h xs c2
end
mutual
theorem bf6{h k:Hp}(hk:B4 h k):∀(x:Ex) (cs:List Value),aN1 h x cs→aN1 k x cs
 | .mk op n name kids,cs,e=>by
  simp only[aN1]at *;obtain⟨vk,e1,e2⟩:=e;exact⟨vk,e1,aL2 hk (fun es=>aX9 hk kids es) e2⟩
theorem aX9{h k:Hp}(hk:B4 h k):∀(x:List Ex) (cs:List Value),aq9 h x cs→aq9 k x cs
 | [],cs,e=>by simpa only[aq9]using e
 | x::xs,cs,e=>by
  simp only[aq9]at *;obtain⟨c1,c2,e1,e2,e3⟩:=e;exact⟨c1,c2,e1,bf6 hk x c1 e2,aX9 hk xs c2 e3⟩
end
instance:A3 Ex where
 sz:=4
 pos:=by omega
 enc h cs x:=aN1 h x cs
 len:=by
  rintro h cs ⟨op,n,name,kids⟩ e;simp only[aN1]at e;obtain⟨vk,rfl,_⟩:=e;rfl
 mono hk:=bf6 hk _ _
 one:=by
  rintro h cs ⟨op,n,name,kids⟩ e v hv;simp only[aN1]at e;obtain⟨vk,rfl,h2⟩:=e;simp only[ey3,eB7,eH8]at hv;rcases hv with rfl|rfl|rfl|rfl
  ·rfl
  ·rfl
  ·rfl
  ·exact aV8 h2
theorem bf7{h:Hp}:∀(xs:List Ex) (es:List Value),aq9 h xs es↔M7 h es xs
 | [],es=>by simp only[aq9,M7]
 | x::xs,es=>by
  simp only[aq9,M7,bf7 xs];exact eD5
theorem bf9{h:Hp}{cs:List Value}{x:Ex}:A3.enc h cs x↔∃vk,cs=[.int .i64 x.op,.int .i64 x.n,o7 x.name,vk]∧R h vk x.kids:=by
 obtain⟨op,n,name,kids⟩:=x;show aN1 h _ cs↔_;simp only[aN1,bY8,Ex.op,Ex.n,Ex.name,Ex.kids];have:aq9 h kids=fun es=>M7 h es kids:=by funext es;exact propext (bf7 kids es)
 rw[this]
structure Ar where
 ref:Bool
 name:A6
 x:Ex
instance:A3 Ar where
 sz:=6
 pos:=by omega
 enc h cs a:=∃c,cs = .bool a.ref::o7 a.name::c∧A3.enc h c a.x
 len:=by rintro h cs a ⟨c,rfl,h2⟩;have:=A3.len h2;simp[this];rfl
 mono:=by rintro h k cs a hk ⟨c,rfl,h2⟩;exact⟨c,rfl,A3.mono hk h2⟩
 one:=by
  rintro h cs a ⟨c,rfl,h2⟩ v hv;simp only[ey3]at hv;rcases hv with rfl|rfl|hv
  ·rfl
  ·rfl
  ·exact A3.one h2 v hv
inductive St where
 | mk (id kind:Int) (labels:List A6) (name proc:A6) (x:Ex) (has:Bool) (args:List Ar) (thn els:List St)
namespace St
def id:St→Int | .mk a _ _ _ _ _ _ _ _ _=>a
def kind:St→Int | .mk _ a _ _ _ _ _ _ _ _=>a
def labels:St→List A6 | .mk _ _ a _ _ _ _ _ _ _=>a
def name:St→A6 | .mk _ _ _ a _ _ _ _ _ _=>a
def proc:St→A6 | .mk _ _ _ _ a _ _ _ _ _=>a
def x:St→Ex | .mk _ _ _ _ _ a _ _ _ _=>a
def has:St→Bool | .mk _ _ _ _ _ _ a _ _ _=>a
def args:St→List Ar | .mk _ _ _ _ _ _ _ a _ _=>a
def thn:St→List St | .mk _ _ _ _ _ _ _ _ a _=>a
def els:St→List St | .mk _ _ _ _ _ _ _ _ _ a=>a
end St
mutual
def aN2(h:Hp):St→List Value→Prop
 | .mk id kind labels name proc x has args thn els,cs=>∃vl cx va vt ve,cs = .int .i64 id :: .int .i64 kind::vl::o7 name::o7 proc::cx++[.bool has,va,vt,ve] ∧
   R h vl labels∧A3.enc h cx x∧R h va args∧bk8 h vt thn.length (ai1 h thn)∧bk8 h ve els.length (ai1 h els)
def ai1(h:Hp):List St→List Value→Prop
 | [],cs=>cs=[]
 | x::xs,cs=>∃c1 c2,cs=c1++c2∧aN2 h x c1∧ai1 h xs c2
end
mutual
theorem bf8{h k:Hp}(hk:B4 h k):∀(x:St) (cs:List Value),aN2 h x cs→aN2 k x cs
 | .mk id kind labels name proc x has args thn els,cs,e=>by
  simp only[aN2]at *;obtain⟨vl,cx,va,vt,ve,e1,e2,e3,e4,e5,e6⟩:=e;exact⟨vl,cx,va,vt,ve,e1,A3.mono hk e2,A3.mono hk e3,A3.mono hk e4,aL2 hk (fun es=>aB2 hk thn es) e5,aL2 hk (fun es=>aB2 hk els es) e6⟩
theorem aB2{h k:Hp}(hk:B4 h k):∀(x:List St) (cs:List Value),ai1 h x cs→ai1 k x cs
 | [],cs,e=>by simpa only[ai1]using e
 | x::xs,cs,e=>by
  simp only[ai1]at *;obtain⟨c1,c2,e1,e2,e3⟩:=e;exact⟨c1,c2,e1,bf8 hk x c1 e2,aB2 hk xs c2 e3⟩
end
theorem W4{α:Type}[A3 α]{h:Hp}{v:Value}{xs:α}(hr:R h v xs):v.oneCell'=true:=A3.one hr v (by simp)
instance:A3 St where
 sz:=13
 pos:=by omega
 enc h cs x:=aN2 h x cs
 len:=by
  rintro h cs ⟨id,kind,labels,name,proc,x,has,args,thn,els⟩ e;simp only[aN2]at e;obtain⟨vl,cx,va,vt,ve,rfl,h2,h3,_⟩:=e;have h4:cx.length=4:=A3.len h3;simp[h4]
 mono hk:=bf8 hk _ _
 one:=by
  rintro h cs ⟨id,kind,labels,name,proc,x,has,args,thn,els⟩ e v hv;simp only[aN2]at e;obtain⟨vl,cx,va,vt,ve,rfl,h2,h3,h4,h5,h6⟩:=e;simp only[eH6,ey3,ey1,eB7,eH8]at hv;rcases hv with rfl|rfl|rfl|rfl|rfl|hv|rfl|rfl|rfl|rfl
  ·rfl
  ·rfl
  ·exact W4 h2
  ·rfl
  ·rfl
  ·exact A3.one h3 v hv
  ·rfl
  ·exact W4 h4
  ·exact aV8 h5
  ·exact aV8 h6
theorem aK2{h:Hp}:∀(xs:List St) (es:List Value),ai1 h xs es↔M7 h es xs
 | [],es=>by simp only[ai1,M7]
 | x::xs,es=>by
  simp only[ai1,M7,aK2 xs];exact eD5
theorem aT6{h:Hp}{cs:List Value}{s:St}:A3.enc h cs s↔∃vl cx va vt ve,cs = .int .i64 s.id :: .int .i64 s.kind::vl::o7 s.name::o7 s.proc::cx++[.bool s.has,va,vt,ve] ∧
   R h vl s.labels∧A3.enc h cx s.x∧R h va s.args∧R h vt s.thn∧R h ve s.els:=by
 obtain⟨id,kind,labels,name,proc,x,has,args,thn,els⟩:=s;show aN2 h _ cs↔_;have h1:ai1 h thn=fun es=>M7 h es thn:=by funext es;exact propext (aK2 thn es)
 have h2:ai1 h els=fun es=>M7 h es els:=by funext es;exact propext (aK2 els es)
 simp only[aN2,bY8,h1,h2,St.id,St.kind,St.labels,St.name,St.proc,St.x,St.has,St.args,St.thn,St.els]
structure Pr where
 name:A6
 params:List Pa
 vars:List A6
 body:List St
 fin:List A6
instance:A3 Pr where
 sz:=5
 pos:=by omega
 enc h cs p:=∃v1 v2 v3 v4,cs=[o7 p.name,v1,v2,v3,v4]∧R h v1 p.params∧R h v2 p.vars∧R h v3 p.body∧R h v4 p.fin
 len:=by rintro h cs a ⟨v1,v2,v3,v4,rfl,_⟩;rfl
 mono:=by rintro h k cs a hk ⟨v1,v2,v3,v4,rfl,h1,h2,h3,h4⟩;exact⟨v1,v2,v3,v4,rfl,A3.mono hk h1,A3.mono hk h2,A3.mono hk h3,A3.mono hk h4⟩
 one:=by
  rintro h cs a ⟨v1,v2,v3,v4,rfl,h1,h2,h3,h4⟩ v hv;simp only[ey3,eB7,eH8]at hv;rcases hv with rfl|rfl|rfl|rfl|rfl
  ·rfl
  ·exact W4 h1
  ·exact W4 h2
  ·exact W4 h3
  ·exact W4 h4
structure Pg where
 globals:List A6
 procs:List Pr
instance:A3 Pg where
 sz:=2
 pos:=by omega
 enc h cs p:=∃v1 v2,cs=[v1,v2]∧R h v1 p.globals∧R h v2 p.procs
 len:=by rintro h cs a ⟨v1,v2,rfl,_⟩;rfl
 mono:=by rintro h k cs a hk ⟨v1,v2,rfl,h1,h2⟩;exact⟨v1,v2,rfl,A3.mono hk h1,A3.mono hk h2⟩
 one:=by
  rintro h cs a ⟨v1,v2,rfl,h1,h2⟩ v hv;simp only[ey3,eB7,eH8]at hv;rcases hv with rfl|rfl
  ·exact W4 h1
  ·exact W4 h2
structure It where
 s:St
 proc:Int
 up:Int
 next:Int
 loop:Int
instance:A3 It where
 sz:=17
 pos:=by omega
 enc h cs p:=∃c,cs=c++[.int .i64 p.proc,.int .i64 p.up,.int .i64 p.next,.int .i64 p.loop]∧A3.enc h c p.s
 len:=by rintro h cs a ⟨c,rfl,h1⟩;have h4:c.length=13:=A3.len h1;simp[h4]
 mono:=by rintro h k cs a hk ⟨c,rfl,h1⟩;exact⟨c,rfl,A3.mono hk h1⟩
 one:=by
  rintro h cs a ⟨c,rfl,h1⟩ v hv;simp only[ey1,ey3,eB7,eH8]at hv;rcases hv with hv|rfl|rfl|rfl|rfl
  ·exact A3.one h1 v hv
  all_goals rfl
structure Sh where
 p:Pg
 l:List It
 lo:List Int
 hi:List Int
instance:A3 Sh where
 sz:=5
 pos:=by omega
 enc h cs p:=∃c v1 v2 v3,cs=c++[v1,v2,v3]∧A3.enc h c p.p∧R h v1 p.l∧R h v2 p.lo∧R h v3 p.hi
 len:=by rintro h cs a ⟨c,v1,v2,v3,rfl,h1,_⟩;have h4:c.length=2:=A3.len h1;simp[h4]
 mono:=by rintro h k cs a hk ⟨c,v1,v2,v3,rfl,h0,h1,h2,h3⟩;exact⟨c,v1,v2,v3,rfl,A3.mono hk h0,A3.mono hk h1,A3.mono hk h2,A3.mono hk h3⟩
 one:=by
  rintro h cs a ⟨c,v1,v2,v3,rfl,h0,h1,h2,h3⟩ v hv;simp only[ey1,ey3,eB7,eH8]at hv;rcases hv with hv|rfl|rfl|rfl
  ·exact A3.one h0 v hv
  ·exact W4 h1
  ·exact W4 h2
  ·exact W4 h3
def SV{α:Type}[A3 α](h:Hp)(v:Value)(x:α):Prop:=∃cs,v = .agg (List.toArray cs)∧A3.enc h cs x
section
variable {α:Type} [A3 α] {h k:Hp} {v:Value} {x:α} {P:Program} {t T:TypeId} {w:World}
theorem SV.mono(hk:B4 h k):SV h v x→SV k v x:=fun⟨cs,e,h1⟩=>⟨cs,e,A3.mono hk h1⟩
theorem SV.enc:SV h v x→A3.enc h v.cells.toList x:=by
 rintro⟨cs,rfl,h1⟩;simpa[Value.cells]using h1
theorem F4{xs:List α}(hr:R h v xs)(hw:B4 h (d7 w)){k:Nat}(hk:xs[k]?=some x)(ht:C1 P t=true)(hu:(P.underlying t).isSome=true)(hi:(P.info? t).isSome=true)(hs:E5 P t=A3.sz α):
  ∃sv,SV h sv x∧(Instr.loadAt t (.pointer (some (H1 v (k*E5 P t))))).run P w = .ok sv w:=by
 obtain⟨_,es,he,hc⟩:=hr.get hk;refine⟨.agg (List.toArray es),⟨es,rfl,he⟩,?_⟩;rw[hs];exact bi4 (cs:=es) ht hu hi (by rw[hs,A3.len he]) fun j u hj=>F8 hw (hc j u hj)
end
def At{α:Type}[A3 α](h:Hp)(a:Addr)(x:α):Prop:=∃es,A3.enc h es x∧∀j u,es[j]?=some u→I5 h (a.add j)=some u
section
variable {α:Type} [A3 α] {h k:Hp} {v:Value} {x:α} {P:Program} {t T:TypeId} {w:World} {a:Addr}
theorem At.mono(hk:B4 h k):At h a x→At k a x:=fun⟨es,h1,h2⟩=>⟨es,A3.mono hk h1,fun j u hj=>F8 hk (h2 j u hj)⟩
theorem R.at_{xs:List α}(hr:R h v xs){i:Nat}(hi:xs[i]?=some x):At h (H1 v (i*A3.sz α)) x:=(hr.get hi).2
theorem Ptr.at_{p:Ptr α}(hp:R h v p):∃a,v = .pointer (some a)∧At h a p.to:=by
 obtain⟨a,es,e,h1,h2⟩:=hp;simp only[eJ2,and_true]at e;exact⟨a,e,es,h1,h2⟩
theorem At.ptr(ha:At h a x):R h (.pointer (some a)) (⟨x⟩:Ptr α):=by
 obtain⟨es,h1,h2⟩:=ha;exact⟨a,es,rfl,h1,h2⟩
theorem At.sv(ha:At h a x)(ht:C1 P t=true)(hu:(P.underlying t).isSome=true)(hi:(P.info? t).isSome=true)(hs:E5 P t=A3.sz α):
  ∃sv,SV h sv x∧∀w,B4 h (d7 w)→(Instr.loadAt t (.pointer (some a))).run P w = .ok sv w:=by
 obtain⟨es,he,hc⟩:=ha;exact⟨.agg (List.toArray es),⟨es,rfl,he⟩,fun w hw=>bi4 (cs:=es) ht hu hi (by rw[hs,A3.len he]) fun j u hj=>F8 hw (hc j u hj)⟩
theorem p8{es:List Value}(hc:∀j u,es[j]?=some u→I5 h (a.add j)=some u){o:Nat}{u:Value}(ho:es[o]?=some u)(ht:C1 P t=false):
  ∀w,B4 h (d7 w)→(Instr.loadAt t (.pointer (some (a.add o)))).run P w = .ok u w:=fun w hw=>Q4 ht (F8 hw (hc o u ho))
theorem bc5{β:Type}[A3 β]{y:β}{es c:List Value}(hc:∀j u,es[j]?=some u→I5 h (a.add j)=some u){o:Nat}(hy:A3.enc h c y)(hp:∀j u,c[j]?=some u→es[o+j]?=some u):At h (a.add o) y:=
 ⟨c,hy,fun j u hj=>by rw[Addr.add_add'];exact hc _ _ (hp j u hj)⟩
theorem D8{es:List Value}(hc:∀j u,es[j]?=some u→I5 h (a.add j)=some u){u:Value}(ho:es[0]?=some u)(ht:C1 P t=false):
  ∀w,B4 h (d7 w)→(Instr.loadAt t (.pointer (some a))).run P w = .ok u w:=fun w hw=>by
 have:=p8 (P:=P) (t:=t) hc ho ht w hw
 rwa [K0]at this
theorem aM8{β:Type}[A3 β]{y:β}{es c:List Value}(hc:∀j u,es[j]?=some u→I5 h (a.add j)=some u)(hy:A3.enc h c y)(hp:∀j u,c[j]?=some u→es[0+j]?=some u):At h a y:=by
 have:=bc5 hc hy hp
 rwa [K0]at this
theorem A0{S:World→Prop}{s:Sem Value}{u:Value}{K:Fr→World→Prop}{f:Fr}{d:Option Nat}{w0:World}(hS:S w0)(h:∀w',S w'→s.run P w' = .ok u w'):B6 P S s K f d w=K (A7 f d u) w:=by
 refine propext ⟨?_,fun hk=>⟨u,h,hk⟩⟩;rintro⟨v,hv,hk⟩;have:=(hv w0 hS).symm.trans (h w0 hS);simp only[Result.ok.injEq,and_true]at this;rw[←this];exact hk
theorem At.sv2(ha:At h a x)(ht:C1 P t=true)(hu:(P.underlying t).isSome=true)(hi:(P.info? t).isSome=true)(hs:E5 P t=A3.sz α):
  ∃sv,SV h sv x∧(∀w,B4 h (d7 w)→(Instr.loadAt t (.pointer (some a))).run P w = .ok sv w)∧(∀(S:World→Prop) (w0:World),S w0→(∀w,S w→B4 h (d7 w))→∀K f d w,B6 P S (Instr.loadAt t (.pointer (some a))) K f d w=K (A7 f d sv) w):=by
 obtain⟨sv,h1,h2⟩:=ha.sv (P:=P) (t:=t) ht hu hi hs;exact⟨sv,h1,h2,fun S w0 hS hw K f d w=>A0 hS fun w' hw'=>h2 w' (hw w' hw')⟩
theorem bn8(hv:SV h v x)(hw:B4 h (d7 w)):∃a w',(Instr.box T v).run P w = .ok (.pointer (some a)) w'∧o6 w w'∧At (d7 w') a x:=by
 obtain⟨cs,rfl,he⟩:=hv;have hx:=o6.alloc w (.cells (List.toArray cs) T);refine⟨⟨w.heap.size,0,none⟩,w.alloc (.cells (List.toArray cs) T),rfl,hx,cs,A3.mono (p6 hw (b7 hx)) he,fun j u hj=>?_⟩;rw[←aj7,add_lit,ez8,eH9];simpa using hj
theorem bm7(hv:SV h v x)(hw:B4 h (d7 w)){z:Value}(hz:G2 P T=some z)(hsz:z.cells.size=E5 P T)(hs:E5 P T=A3.sz α):
  ∃a wz w',(Instr.alloc T true (.tuple #[])).run P w = .ok (.pointer (some a)) wz∧(Instr.storeAt T (.pointer (some a)) v).run P wz = .ok () w'∧o6 w w'∧At (d7 w') a x:=by
 obtain⟨cs,rfl,he⟩:=hv;obtain⟨h1,h2⟩:=aH8 (P:=P) (w:=w) (T:=T) hz hsz (cs:=List.toArray cs) (by simpa[hs]using A3.len he) (by simpa using A3.one he);have hx:=o6.alloc w (.cells (List.toArray cs) T);refine⟨_,_,_,h1,h2,hx,cs,A3.mono (p6 hw (b7 hx)) he,fun j u hj=>?_⟩;rw[←aj7,add_lit,ez8,eH9];simpa using hj
end
def eG6:=@Classical.byContradiction
def eJ7:=@List.any_eq_true
def eG5:=@List.getElem?_replicate
def eE6:=@List.getElem?_set_ne
def eB5:=@List.mem_iff_getElem
def eC5:=@Option.getD_some
def ey2:=@congrArg
abbrev W:=BitVec 64
instance:I7 W:=⟨fun x=>.int .u64 (x.toNat:Nat),fun _=>rfl⟩
section
variable {P:Program} {t:TypeId}
theorem bm6(n:Nat)(h:n<18446744073709551616):IntKind.u64.wrap (n:Int)=(n:Int):=by
 have:IntKind.u64.wrap (n:Int)=IntKind.u64.wrap (n:Int):=rfl;unfold IntKind.wrap;simp[IntKind.bits,IntKind.signed];omega
theorem bA0(x:W):BitVec.ofInt IntKind.u64.bits ((x.toNat:Nat):Int)=x:=by
 show BitVec.ofInt 64 ((x.toNat:Nat):Int)=x;rw[BitVec.ofInt_natCast,BitVec.ofNat_toNat];simp
theorem bx4(f:Nat)(hf:f<1000000000000):B9 P .quo t (.int .i64 f) (.int .i64 64)=some (.int .i64 ((f / 64:Nat):Int)):=by
 have h1:(f:Int).tdiv 64=((f / 64:Nat):Int):=by rfl
 simp only[B9,E6,eC9,h1];rw[if_neg (by decide),IntWalk.i64_in _ (by omega)]
theorem cs7(f:Nat):B9 P .rem t (.int .i64 f) (.int .i64 64)=some (.int .i64 ((f % 64:Nat):Int)):=by
 have h1:(f:Int).tmod 64=((f % 64:Nat):Int):=by rfl
 simp only[B9,E6,eC9,h1];rw[if_neg (by decide)]
theorem cs8(x:W)(k:Nat)(hk:k<64):B9 P .shr t (.int .u64 ((x.toNat:Nat):Int)) (.int .i64 k)=some (.int .u64 (((x >>> k).toNat:Nat):Int)):=by
 simp only[B9];rw[if_neg (by omega)];have h1:min ((k:Int).toNat) IntKind.u64.bits=k:=by
  show min ((k:Int).toNat) 64=k;omega
 rw[h1,BitVec.toNat_ushiftRight,Nat.shiftRight_eq_div_pow];have h2:((x.toNat:Nat):Int).fdiv (2 ^ k)=((x.toNat / 2 ^ k:Nat):Int):=by
  rw[Int.fdiv_eq_ediv_of_nonneg _ (by exact Int.le_of_lt (Int.pow_pos (by decide)))];simp
 rw[h2]
theorem cs5(x:W)(k:Nat):B9 P .and t (.int .u64 (((x >>> k).toNat:Nat):Int)) (.int .u64 1)=some (.int .u64 (if x.getLsbD k then 1 else 0)):=by
 have h1:BitVec.ofInt IntKind.u64.bits 1=(1#64:W):=rfl;simp only[B9,E6,eC9,bA0,h1];have h2:((x >>> k) &&& 1#64:W)=if x.getLsbD k then 1#64 else 0#64:=by
  apply BitVec.eq_of_getLsbD_eq;intro i hi;rw[BitVec.getLsbD_and,BitVec.getLsbD_ushiftRight];by_cases h0:i=0
  ·subst h0;cases hx:x.getLsbD k<;>simp[]
  ·have:(1#64:W).getLsbD i=false:=by
    rw[BitVec.getLsbD_one];simp[h0]
   rw[this,Bool.and_false];split
   ·exact this.symm
   ·simp
 show some (Value.int .u64 (IntKind.u64.wrap ((((x >>> k) &&& 1#64:W).toNat:Nat):Int)))=_;rw[h2];cases x.getLsbD k<;>rfl
theorem db9(b:Bool):B9 P .eql t (.int .u64 (if b then 1 else 0)) (.int .u64 0)=some (.bool (!b)):=by
 cases b<;>rfl
theorem dc0(b:Bool):B9 P .eql t (.int .u64 (if b then 1 else 0)) (.int .u64 1)=some (.bool b):=by
 cases b<;>rfl
theorem dc2(k:Nat)(hk:k<64):B9 P .shl t (.int .u64 1) (.int .i64 k)=some (.int .u64 (((1#64 <<< k:W).toNat:Nat):Int)):=by
 simp only[B9];rw[if_neg (by omega)];have h1:min ((k:Int).toNat) IntKind.u64.bits=k:=by
  show min ((k:Int).toNat) 64=k;omega
 rw[h1];have h2:(1:Int)*2 ^ k=((2 ^ k:Nat):Int):=by simp
 have h3:2 ^ k<18446744073709551616:=by
  have:(2:Nat) ^ k<2 ^ 64:=Nat.pow_lt_pow_right (by decide) hk;simpa using this
 have h5:(1#64 <<< k:W).toNat=2 ^ k:=by
  rw[BitVec.toNat_shiftLeft,Nat.shiftLeft_eq];show(1*2 ^ k) % 2 ^ 64=2 ^ k;rw[Nat.one_mul];exact Nat.mod_eq_of_lt (Nat.pow_lt_pow_right (by decide) hk)
 rw[h2,bm6 _ h3,h5]
theorem cs6(x y:W):B9 P .or t (.int .u64 ((x.toNat:Nat):Int)) (.int .u64 ((y.toNat:Nat):Int))=some (.int .u64 (((x ||| y).toNat:Nat):Int)):=by
 simp only[B9,E6,eC9,bA0];rw[bm6 _ (by exact(x ||| y).isLt)];rfl
theorem bq5(x y:W):B9 P .andNot t (.int .u64 ((x.toNat:Nat):Int)) (.int .u64 ((y.toNat:Nat):Int))=some (.int .u64 (((x &&& ~~~y).toNat:Nat):Int)):=by
 simp only[B9,E6,eC9,bA0];rw[bm6 _ (by exact(x &&& ~~~y).isLt)];rfl
theorem dc1(x:W):B9 P .neq t (.int .u64 ((x.toNat:Nat):Int)) (.int .u64 0)=some (.bool (x != 0#64)):=by
 simp only[B9,E6,eC9]
 congr 2
 rw[eJ1];simp only[bne_iff_ne,ne_eq];constructor
 ·intro h e;subst e;exact h rfl
 ·intro h e;apply h;apply BitVec.eq_of_toNat_eq;simpa using e
end
theorem el8{K:Fr→World→Prop}{f:Fr}{d:Option Nat}{w:World}{v:Value}{D:Prop}:aw7 (some v) K f d w D=K (A7 f d v) w:=propext eD5
def N4(ws:List W)(f:Nat):Bool:=(ws.getD (f / 64) 0#64).getLsbD (f % 64)
def cn2(ws:List W)(f:Nat):List W:=ws.set (f / 64) (ws.getD (f / 64) 0#64 ||| (1#64 <<< (f % 64)))
theorem cw0{ws:List W}{f:Nat}(hf:f / 64<ws.length)(g:Nat):N4 (cn2 ws f) g=(decide (g=f)||N4 ws g):=by
 unfold N4 cn2;by_cases hd:g / 64=f / 64
 ·have h1:(ws.set (f / 64) (ws.getD (f / 64) 0#64 ||| (1#64 <<< (f % 64)))).getD (g / 64) 0#64=ws.getD (f / 64) 0#64 ||| (1#64 <<< (f % 64)):=by
   rw[hd];simp[List.getD,hf]
  rw[h1,BitVec.getLsbD_or,hd];have h2:(1#64 <<< (f % 64):W).getLsbD (g % 64)=decide (g=f):=by
   rw[BitVec.getLsbD_shiftLeft,BitVec.getLsbD_one];rw[eJ1];simp;omega
  rw[h2,Bool.or_comm]
 ·have h1:(ws.set (f / 64) (ws.getD (f / 64) 0#64 ||| (1#64 <<< (f % 64)))).getD (g / 64) 0#64=ws.getD (g / 64) 0#64:=by
   simp only[List.getD];rw[eE6 (fun e=>hd e.symm)]
  have h3:g≠f:=fun e=>hd (by rw[e]);rw[h1];simp[h3]
theorem bH3{n f:Nat}:N4 (List.replicate n 0#64) f=false:=by
 unfold N4;have:(List.replicate n (0#64:W)).getD (f / 64) 0#64=0#64:=by
  simp only[List.getD,eG5];split<;>rfl
 rw[this];simp
theorem cB7(ws:List W)(f:Nat):(cn2 ws f).length=ws.length:=by simp[cn2]
def orB(b c:List W):List W:=List.zipWith (· ||| ·) b c
def ad3(b c:List W):Bool:=(List.zipWith (fun x y=>(y &&& ~~~x:W) != 0#64) b c).any id
theorem cv0{α:Type}(g:W→W→α)(d:α)(hd:g 0#64 0#64=d){b c:List W}(hl:b.length=c.length)(i:Nat):(List.zipWith g b c).getD i d=g (b.getD i 0#64) (c.getD i 0#64):=by
 simp only[List.getD,List.getElem?_zipWith];by_cases hi:i<b.length
 ·rw[ew4 hi,ew4 (by omega)];rfl
 ·rw[eD2 (by omega),eD2 (by omega)];simp[hd]
theorem av9{b c:List W}(hl:b.length=c.length)(f:Nat):N4 (orB b c) f=(N4 b f||N4 c f):=by
 unfold N4 orB;rw[cv0 (· ||| ·) 0#64 (by simp) hl,BitVec.getLsbD_or]
theorem bt9{b c:List W}(hl:b.length=c.length):ad3 b c=true↔∃f,N4 c f=true∧N4 b f=false:=by
 unfold ad3;rw[eJ7];constructor
 ·rintro⟨x,hx,hx1⟩;simp only[id]at hx1;subst hx1;obtain⟨i,hi,e⟩:=eB5.1 hx;rw[List.getElem_zipWith]at e;simp only[List.length_zipWith]at hi;have hne:(c[i]'(by omega) &&& ~~~b[i]'(by omega):W)≠0#64:=by simpa using e
  have:∃k,k<64∧(c[i]'(by omega) &&& ~~~b[i]'(by omega):W).getLsbD k=true:=by
   refine eG6 fun hno=>hne ?_;apply BitVec.eq_of_getLsbD_eq;intro k hk;have h1:¬(c[i]'(by omega) &&& ~~~b[i]'(by omega):W).getLsbD k=true:=fun h2=>hno ⟨k,hk,h2⟩;simp only[Bool.not_eq_true]at h1;rw[h1];simp
  obtain⟨k,hk,hk2⟩:=this;rw[BitVec.getLsbD_and,BitVec.getLsbD_not]at hk2;have hd1:(i*64+k) / 64=i:=by omega
  have hd2:(i*64+k) % 64=k:=by omega
  simp only[ey9,eA7,Bool.not_eq_true']at hk2;refine⟨i*64+k,?_,?_⟩
  ·unfold N4;rw[hd1,hd2];simp only[List.getD,ew4 (show i<c.length by omega),eC5];exact hk2.1
  ·unfold N4;rw[hd1,hd2];simp only[List.getD,ew4 (show i<b.length by omega),eC5];exact hk2.2.2
 ·rintro⟨f,h1,h2⟩;have hi:f / 64<c.length:=by
   refine eG6 fun hno=>?_;unfold N4 at h1;simp only[List.getD,eD2 (show c.length≤f / 64 by omega),Option.getD_none]at h1;simp at h1
  refine⟨true,?_,rfl⟩;refine eB5.2 ⟨f / 64,by simp;omega,?_⟩;rw[List.getElem_zipWith];simp only[bne_iff_ne,ne_eq];intro e;unfold N4 at h1 h2;simp only[List.getD,ew4 hi,ew4 (show f / 64<b.length by omega),eC5]at h1 h2;have:=ey2 (fun x:W=>x.getLsbD (f % 64)) e;simp only[BitVec.getLsbD_and,BitVec.getLsbD_not,h1,h2]at this;simp at this;omega
theorem bA6{b c:List W}(hl:b.length=c.length):(orB b c).length=b.length:=by simp[orB,hl]
def eG4:=@Bool.true_and
def bE2:Value→Option Bool
 | .bool b=>some b
 | _=>none
theorem eb7{b:Bool}:bE2 (.bool b)=some b:=rfl
theorem eb8:bE2 undef=none:=rfl
theorem dc5{ops:Array Oper}{f:Fr}{j:Nat}:aH5 ops f j=match cv8 ops j with|some d=>bE2 (f d)|none=>none:=by
 unfold aH5 cv8;cases(ops[j]?).bind (·.dst)with
 | none=>rfl
 | some d=>
  show(match f d with | .bool b=>some b|_=>none)=bE2 (f d);unfold bE2;cases f d<;>rfl
theorem eq7{P:Program}{ops:Array Oper}{l:List Oper}{K:Fr→World→Prop}{f:Fr}{w:World}{d:Option Nat}{op:Op}{ty:TypeId}{pos:String}{aft:Array Edge}{j:Nat}{b:Bool}:
  Rn P ops (⟨d,op,ty,pos,aft,some (j,b)⟩::l) K f w =
   if aH5 ops f j=some b then B1 P none ⟨d,op,ty,pos,aft,none⟩ (Rn P ops l K) f w else Rn P ops l K (A7 f d undef) w:=propext eD5
theorem dZ9{P:Program}{Q:Exit→Fr→World→Prop}{f:Fr}{w:World}{id:Nat}{ops:Array Oper}:CW P (.region id ops false) Q f w=Rn P ops ops.toList (Q .normal) f w:=propext eD5
theorem ea5{P:Program}{ops:Array Oper}{K:Fr→World→Prop}{f:Fr}{w:World}:Rn P ops [] K f w=K f w:=propext eD5
theorem ed9{P:Program}{ops:Array Oper}{l:List Oper}{K:Fr→World→Prop}{f:Fr}{w:World}{d:Option Nat}{op:Op}{ty:TypeId}{pos:String}{aft:Array Edge}:
  Rn P ops (⟨d,op,ty,pos,aft,none⟩::l) K f w=B1 P none ⟨d,op,ty,pos,aft,none⟩ (Rn P ops l K) f w:=propext eD5
theorem em7{K:Fr→World→Prop}{f:Fr}{d:Option Nat}{w:World}{v:Value}:ab1 (.ok v w) K f d=K (A7 f d v) w:=propext eD5
theorem em8{K:Fr→World→Prop}{f:Fr}{d:Option Nat}{w:World}{v:Unit}:aV1 (.ok v w) K f d=K (A7 f d undef) w:=propext eD5
theorem az8(h:Hp){α:Type}[A3 α]:R h (.slice none 0 0) ([]:List α):=⟨none,0,0,rfl,rfl,ex9 _,[],rfl,fun j u hj=>by simp at hj⟩
section
variable {P:Program} {t:TypeId}
theorem bl5(b:Array UInt8):(.string ⟨b⟩:Value)=o7 (ofA b):=by
 simp[o7,ofA]
theorem ea7{a:A6}{b:Array UInt8}:B9 P .eql t (o7 a) (.string ⟨b⟩)=some (.bool (decide (a=ofA b))):=by
 rw[bl5,bZ4]
theorem eb4{a:A6}{b:Array UInt8}:B9 P .neq t (o7 a) (.string ⟨b⟩)=some (.bool (!decide (a=ofA b))):=by
 rw[bl5,cK9]
def chr(s:A6)(i:Nat):Option UInt8:=s.b[i]?
theorem db6(l:List UInt8)(i:Nat):(⟨l.toArray⟩:ByteArray)[i]?=l[i]?:=by
 by_cases h:i<l.length
 ·rw[getElem?_pos (⟨l.toArray⟩:ByteArray) i (by show i<l.toArray.size;simpa using h),ByteArray.getElem_eq_getElem_data];simp[h]
 ·rw[getElem?_neg (⟨l.toArray⟩:ByteArray) i (by show ¬i<l.toArray.size;simpa using h)];simp[h]
theorem cX9{s:A6}{k:IntKind}{i:Nat}{c:UInt8}(h:bB8 P t=true)(ha:C4 P t=none)(hc:chr s i=some c):U4 P t (o7 s) (.int k (i:Int))=some (.int .u8 (c.toNat:Int)):=by
 have h2:(⟨s.b.toArray⟩:ByteArray)[i]?=some c:=(db6 s.b i).trans hc;simp only[U4,ha,o7,h,eG4,ez1,h2,eC3,ek8,eC9]
theorem ek9{v:Value}(he:(A8 P t).isSome=true)(hs:isS v=true):O8 P t v=some (.int .i64 (vlen v:Nat)):=by
 simp only[O8,he,hs,eC9]
theorem eb2{a b:Int}:B9 P .lss t (.int .i64 a) (.int .i64 b)=some (.bool (decide (a<b))):=by simp[B9,E6]
theorem eb1{a b:Int}:B9 P .leq t (.int .i64 a) (.int .i64 b)=some (.bool (decide (a≤b))):=by simp[B9,E6]
theorem eb0{a b:Int}:B9 P .gtr t (.int .i64 a) (.int .i64 b)=some (.bool (decide (b<a))):=by simp[B9,E6]
theorem ea9{a b:Int}:B9 P .geq t (.int .i64 a) (.int .i64 b)=some (.bool (decide (b≤a))):=by simp[B9,E6]
theorem ea8{a b:Int}:B9 P .eql t (.int .i64 a) (.int .i64 b)=some (.bool (decide (a=b))):=by simp[B9,E6];rfl
theorem eb5{a b:Int}:B9 P .neq t (.int .i64 a) (.int .i64 b)=some (.bool (!decide (a=b))):=by simp[B9,E6];rfl
theorem ea6{a b:Int}:B9 P .add t (.int .i64 a) (.int .i64 b)=some (.int .i64 (IntKind.i64.wrap (a+b))):=by simp[B9,E6]
theorem eb6{a b:Int}:B9 P .sub t (.int .i64 a) (.int .i64 b)=some (.int .i64 (IntKind.i64.wrap (a-b))):=by simp[B9,E6]
theorem dD4{a b:Int}:B9 P .leq t (.int .u8 a) (.int .u8 b)=some (.bool (decide (a≤b))):=by simp[B9,E6]
theorem dD3{a b:Int}:B9 P .geq t (.int .u8 a) (.int .u8 b)=some (.bool (decide (b≤a))):=by simp[B9,E6]
theorem eq5{b:Bool}:unV .not (.bool b)=some (.bool (!b)):=by simp[unV]
theorem be7{a:Option Addr}{op:BinOp}(ho:op = .eql)(h:H2 P t=2):B9 P op t (.pointer a) (.pointer none)=some (.bool a.isNone):=by
 subst ho;simp[B9,h]
end
def eJ4:=@Nat.le_of_not_lt
theorem bd3{w:World}{b:Nat}(h:w.heap.size≤b):d7 w b=none:=by
 show w.heap[b]?=none;simp[h]
theorem C5{w:World}{b:Nat}(h:d7 w b=none):w.heap.size≤b:=eJ4 fun hlt=>by simp[d7,hlt]at h
theorem V4{v:Value}(h:isS v=true):v.oneCell'=true:=by
 cases v<;>simp[isS]at h;rfl
theorem D9{v:Value}(h:isS v=true):v.cells=#[v]:=by
 cases v<;>simp[isS]at h;rfl
section
variable {P:Program} {h:Hp} {w:World} {t T:TypeId} {v:Value}
theorem F0{gb i:Nat}{cs:Array Value}{u:Value}(hh:w.heap[gb]?=some (.cells cs T (0,0)))(hu:cs[i]?=some u)(ht:C1 P t=false):(Instr.loadAt t (.pointer (some ⟨gb,i,none⟩))).run P w = .ok u w:=
 Q4 ht (by rw[eD9 w gb i cs T (0,0) hh];exact hu)
theorem ai0{gb i:Nat}{cs:Array Value}{x:Value}(hh:w.heap[gb]?=some (.cells cs T (0,0)))(hi:i<cs.size)(hx:x.cells=#[x])(h1:x.oneCell'=true){inf:TypeInfo}(hinf:P.info? t=some inf)(hs:inf.size=1):
  ∃w',(Instr.storeAt t (.pointer (some ⟨gb,i,none⟩)) x).run P w = .ok () w'∧w'.heap[gb]?=some (.cells (cs.setIfInBounds i x) T (0,0))∧o9 (fun b=>b=gb) w w':=by
 have hcell:w.cell? ⟨gb,i,.none⟩=some cs[i]:=by rw[eD9 w gb i cs T (0,0) hh,eF3 hi]
 have hfr:w.frozen? ⟨gb,i,.none⟩=false:=frozen_of_row w gb i cs T hh;exact⟨_,aI6 (P:=P) (t:=t) hinf hs hx h1 hcell hfr,heap_setCell_same w gb i cs T x hh,o9.setCell _ _ _ rfl⟩
theorem ab3{gb:Nat}{cur cs:Array Value}(hh:w.heap[gb]?=some (.cells cur T (0,0))){z:Value}(hz:G2 P T=some z)(hcur:cur.size=E5 P T)(hc:cs.size=E5 P T)(h1:∀u∈cs.toList,u.oneCell'=true):
  ∃w',(Instr.storeAt T (.pointer (some ⟨gb,0,none⟩)) (.agg cs)).run P w = .ok () w'∧w'.heap[gb]?=some (.cells cs T (0,0))∧o9 (fun b=>b=gb) w w':=by
 obtain⟨i,hi,hiz⟩:=p9 hz;have hst:=run_storeCells_from (P:=P) gb T cs.toList 0 cur w hh (by simp[hc,hcur]) h1;simp only[eH2,eG1,Array.toArray_toList]at hst;refine⟨_,?_,setRow_heap w gb cur cs T (0,0) hh,o9.setRow _ _ _ rfl⟩;unfold Instr.storeAt storeVar;simp only[Instr.sureAddr,ey8,eA0,ey0,sizeOf,L5,hi,Value.cells];rw[C8 hi]at hc;simp only[hc,ne_eq,not_true_eq_false,eE5];exact hst
theorem R2{gb:Nat}{cs:Array Value}(hh:w.heap[gb]?=some (.cells cs T (0,0)))(ht:C1 P T=true)(hu:(P.underlying T).isSome=true)(hi:(P.info? T).isSome=true)(hs:E5 P T=cs.size):
  (Instr.loadAt T (.pointer (some ⟨gb,0,none⟩))).run P w = .ok (.agg cs) w:=by
 have:=bi4 (P:=P) (w:=w) (a:=⟨gb,0,none⟩) (cs:=cs.toList) ht hu hi (by simpa using hs) fun j u hj=>by
  have ha:(⟨gb,0,.none⟩:Addr).add j=⟨gb,j,.none⟩:=by unfold Addr.add;split<;>simp_all
  rw[ha,eD9 w gb j cs T (0,0) hh];simpa using hj
 simpa using this
theorem L0{fn:Func}{R:Value→World→Prop}{f:Fr}{a:Nat}{ty:TypeId}{ad:Addr}(h:fn.results=#[.cell a ty])(hf:f a = .pointer (some ad))(hl:(Instr.loadAt ty (.pointer (some ad))).run P w = .ok v w)(hR:R v w):bn3 P fn R .ret f w:=by
 refine⟨[v],?_,hR⟩;rw[h];refine⟨?_,trivial⟩;show(do loadVar ty (←asAddr (f a)):Sem Value).run P w = .ok v w;rw[hf];exact hl
theorem cw1{h:Hp}{w:World}{N:Nat→Prop}(hw:B4 h (d7 w))(hN:∀b,N b→h b=none):B4 h (B8 w N):=fun b o e=>by
 have hn:¬N b:=fun hb=>by rw[hN b hb]at e;cases e
 rw[D3 hn];exact hw b o e
theorem C9{w w':World}{N:Nat→Prop}(hm:o9 N w w'):B4 (B8 w N) (d7 w'):=I0 (B3 w N) hm fun b hb=>H3 hb
theorem bH4{w w':World}{N:Nat→Prop}(hm:o9 N w w')(hN:∀b,N b→b<w.heap.size):B4 (B8 w N) (B8 w' N):=G6 hm (fun b h=>h) fun b h=>.inl h
section
variable {α:Type} [A3 α] {x:α} {N:Nat→Prop}
theorem dZ2(hv:SV h v x)(hw:B4 h (B8 w N))(hN:∀b,N b→b<w.heap.size){z:Value}(hz:G2 P T=some z)(hsz:z.cells.size=E5 P T)(hs:E5 P T=A3.sz α):
  ∃a wz w',(Instr.alloc T true (.tuple #[])).run P w = .ok (.pointer (some a)) wz∧(Instr.storeAt T (.pointer (some a)) v).run P wz = .ok () w'∧o6 w w'∧At (B8 w' N) a x:=by
 obtain⟨cs,rfl,he⟩:=hv;obtain⟨h1,h2⟩:=aH8 (P:=P) (w:=w) (T:=T) hz hsz (cs:=List.toArray cs) (by simpa[hs]using A3.len he) (by simpa using A3.one he);have hx:=o6.alloc w (.cells (List.toArray cs) T);refine⟨_,_,_,h1,h2,hx,cs,A3.mono (p6 hw (bH4 (hx.weaken fun _ _ h=>h.elim) hN)) he,fun j u hj=>?_⟩;have hn:¬N w.heap.size:=fun hb=>by have:=hN _ hb;omega
 have:I5 (d7 (w.alloc (.cells (List.toArray cs) T))) ((⟨w.heap.size,0,none⟩:Addr).add j)=some u:=by
  rw[←aj7,add_lit,ez8,eH9];simpa using hj
 rw[add_lit]at this ⊢;unfold I5 at *;simp only at *;rw[D3 hn];exact this
end
end
section
variable {P:Program}
theorem D1{k:Nat}{args:List Value}{w:World}{K:Fr→World→Prop}{f:Fr}{d:Option Nat}{v:Value}(hb:ag0 P k=true)
  (h:Calls P k args.toArray w fun e w'=>∃u,e = .returned u∧(u=v∧w'=w)) (hk:K (A7 f d v) w):ar5 P k args w K f d:=
 z6 hb h fun u w' ⟨hu,hw⟩=>by rw[hu,hw];exact hk
theorem B7{k:Nat}{args:List Value}{w:World}{K:Fr→World→Prop}{f:Fr}{d:Option Nat}{v:Value}(hb:ag0 P k=true)
  (h:Calls P k args.toArray w fun e w'=>∃u,e = .returned u∧(u=v∧o6 w w')) (hk:∀w',o6 w w'→K (A7 f d v) w'):ar5 P k args w K f d:=
 z6 hb h fun u w' ⟨hu,hw⟩=>by rw[hu];exact hk w' hw
end
section
variable {P:Program} {t T:TypeId}
theorem aQ9(g o:Nat):∀(vs:List Value) (i:Nat) (cur:Array Value) (w:World),w.heap[g]?=some (.cells cur T (0,0))→o+i+vs.length≤cur.size→(∀v∈vs,v.oneCell'=true) →
  ∃w',(storeCells ⟨g,o,none⟩ vs i).run P w = .ok () w'∧w'.heap[g]?=some (.cells (cur.toList.take (o+i)++vs++cur.toList.drop (o+i+vs.length)).toArray T (0,0))∧o9 (fun b=>b=g) w w'
 | [],i,cur,w,hg,hl,_=>by
  refine⟨w,rfl,?_,o9.refl _⟩;simp only[ez3,eC7,Nat.add_zero,ez9,Array.toArray_toList];exact hg
 | v::rest,i,cur,w,hg,hl,h1=>by
  simp only[ey7]at hl;have hi:o+i<cur.size:=by omega
  have hadd:(⟨g,o,none⟩:Addr).add i=⟨g,o+i,none⟩:=add_lit g o i;have hcell:w.cell? ⟨g,o+i,none⟩=some cur[o+i]:=by rw[eD9 w g (o+i) cur T (0,0) hg,eF3 hi]
  have hfro:w.frozen? ⟨g,o+i,none⟩=false:=frozen_of_row w g (o+i) cur T hg;have hst:(store ((⟨g,o,none⟩:Addr).add i) v).run P w = .ok () (w.setCell ⟨g,o+i,none⟩ v):=by
   rw[hadd,run_store P w _ v _ (h1 v (by simp)),hcell];simp[hfro]
  obtain⟨w',h2,h3,h4⟩:=aQ9 g o rest (i+1) (cur.setIfInBounds (o+i) v) (w.setCell ⟨g,o+i,none⟩ v) (heap_setCell_same w g (o+i) cur T v hg) (by simp;omega) (fun x hx=>h1 x (by simp[hx]));refine⟨w',?_,?_,(o9.setCell (M:=fun b=>b=g) w ⟨g,o+i,none⟩ v rfl).trans h4⟩
  ·simp only[storeCells,ey8,hst,ey0,h2]
  ·rw[h3]
   congr 3
   have hlen:cur.toList.length=cur.size:=by simp
   simp only[Array.toList_setIfInBounds,ey7];rw[show o+(i+1)=o+i+1 by omega,List.take_set,ex2 (by omega),List.set_append_right (h:=by simp;omega)];have e1:o+i-(cur.toList.take (o+i)).length=0:=by simp;omega
   rw[e1,List.drop_set_of_lt (by omega)];simp[ey6,eF8,Nat.add_comm 1]
theorem bc7{w:World}{gb o:Nat}{cur:Array Value}{cs:List Value}(hh:w.heap[gb]?=some (.cells cur T (0,0)))(ho:o+cs.length≤cur.size)(h1:∀u∈cs,u.oneCell'=true)(hi:(P.info? t).isSome=true)(hs:E5 P t=cs.length):
  ∃w',(Instr.storeAt t (.pointer (some ⟨gb,o,none⟩)) (.agg (List.toArray cs))).run P w = .ok () w'∧w'.heap[gb]?=some (.cells (cur.toList.take o++cs++cur.toList.drop (o+cs.length)).toArray T (0,0))∧o9 (fun b=>b=gb) w w':=by
 obtain⟨w',h2,h3,h4⟩:=aQ9 (P:=P) gb o cs 0 cur w hh (by omega) h1;refine⟨w',?_,h3,h4⟩;obtain⟨i,hi'⟩:=eC2.1 hi;have hsz:i.size=cs.length:=by rw[←hs,C8 hi']
 unfold Instr.storeAt storeVar;simp only[Instr.sureAddr,ey8,eA0,ey0,sizeOf,L5,hi',Value.cells,hsz];simp only[eE9,ne_eq,not_true_eq_false,eE5];exact h2
end
def I4(k:Hp)(a:Addr)(v:Value):Prop:=∃cs,v = .agg (List.toArray cs)∧∀j u,cs[j]?=some u→I5 k (a.add j)=some u
theorem ab2{c d:List Value}(h:(Value.agg (List.toArray c)) = .agg (List.toArray d)):d=c:=by
 simp only[Value.agg.injEq]at h;have:=ey2 Array.toList h;simpa using this.symm
section
variable {α:Type} [A3 α] {h k:Hp} {v:Value} {x:α} {P:Program} {t T:TypeId} {w:World} {a:Addr} {N:Nat→Prop}
theorem I4.mono{k':Hp}(hk:B4 k k'):I4 k a v→I4 k' a v:=fun⟨cs,e,hc⟩=>⟨cs,e,fun j u hj=>F8 hk (hc j u hj)⟩
theorem be6{es c:List Value}(hc:∀j u,es[j]?=some u→I5 k (a.add j)=some u){o:Nat}(hp:∀j u,c[j]?=some u→es[o+j]?=some u):I4 k (a.add o) (.agg (List.toArray c)):=
 ⟨c,rfl,fun j u hj=>by rw[Addr.add_add'];exact hc _ _ (hp j u hj)⟩
theorem bq0{es c:List Value}(hc:∀j u,es[j]?=some u→I5 k (a.add j)=some u)(hp:∀j u,c[j]?=some u→es[0+j]?=some u):I4 k a (.agg (List.toArray c)):=by
 have:=be6 hc hp
 rwa [K0]at this
theorem I4.whole(ha:I4 k a v)(hv:SV h v x)(ht:C1 P t=true)(hu:(P.underlying t).isSome=true)(hi:(P.info? t).isSome=true)(hs:E5 P t=A3.sz α):
  (∀w,B4 k (d7 w)→(Instr.loadAt t (.pointer (some a))).run P w = .ok v w)∧(∀(S:World→Prop) (w0:World),S w0→(∀w,S w→B4 k (d7 w))→∀K f d w,B6 P S (Instr.loadAt t (.pointer (some a))) K f d w=K (A7 f d v) w):=by
 obtain⟨cs,rfl,hc⟩:=ha;obtain⟨cs2,e,he⟩:=hv;obtain rfl:=ab2 e;have h1:∀w,B4 k (d7 w)→(Instr.loadAt t (.pointer (some a))).run P w = .ok (.agg (List.toArray cs2)) w:=fun w hw=>bi4 ht hu hi (by rw[hs,A3.len he]) fun j u hj=>F8 hw (hc j u hj);exact⟨h1,fun S w0 hS hw K f d w=>A0 hS fun w' hw'=>h1 w' (hw w' hw')⟩
theorem bZ1{w:World}{cs:List Value}(hN:∀b,N b→b<w.heap.size):I4 (B8 (w.alloc (.cells (List.toArray cs) T)) N) ⟨w.heap.size,0,none⟩ (.agg (List.toArray cs)):=by
 refine⟨cs,rfl,fun j u hj=>?_⟩;have hn:¬N w.heap.size:=fun hb=>by have:=hN _ hb;omega
 have:I5 (d7 (w.alloc (.cells (List.toArray cs) T))) ((⟨w.heap.size,0,none⟩:Addr).add j)=some u:=by
  rw[←aj7,add_lit,ez8,eH9];simpa using hj
 rw[add_lit]at this ⊢;unfold I5 at *;simp only at *;rw[D3 hn];exact this
theorem ch8(hv:SV h v x)(hN:∀b,N b→b<w.heap.size):∃a w',(Instr.box T v).run P w = .ok (.pointer (some a)) w'∧o6 w w'∧I4 (B8 w' N) a v:=by
 obtain⟨cs,rfl,he⟩:=hv;exact⟨⟨w.heap.size,0,none⟩,w.alloc (.cells (List.toArray cs) T),rfl,o6.alloc w _,bZ1 hN⟩
theorem bC7(hv:SV h v x)(hN:∀b,N b→b<w.heap.size){z:Value}(hz:G2 P T=some z)(hsz:z.cells.size=E5 P T)(hs:E5 P T=A3.sz α):
  ∃a wz w',(Instr.alloc T true (.tuple #[])).run P w = .ok (.pointer (some a)) wz∧(Instr.storeAt T (.pointer (some a)) v).run P wz = .ok () w'∧o6 w w'∧I4 (B8 w' N) a v:=by
 obtain⟨cs,rfl,he⟩:=hv;obtain⟨h1,h2⟩:=aH8 (P:=P) (w:=w) (T:=T) hz hsz (cs:=List.toArray cs) (by simpa[hs]using A3.len he) (by simpa using A3.one he);exact⟨_,_,_,h1,h2,o6.alloc w _,bZ1 hN⟩
end
theorem o9.chain{M N:Nat→Prop}{a b c:World}(h:o9 M a b)(k:o9 N b c)(hN:∀i,i<a.heap.size→N i→M i):o9 M a c:=
 ⟨k.os.trans h.os,k.tape.trans h.tape,k.output.trans h.output,ex3 h.size k.size,fun i hi hm=>(k.block i (eC4 hi h.size) fun hn=>hm (hN i hi hn)).trans (h.block i hi hm)⟩
theorem o9.up{M:Nat→Prop}{a b:World}(h:o6 a b):o9 M a b:=h.weaken fun _ _ h=>h.elim
theorem cG5:C1 prog 2=false:=by kernel_rfl
theorem aR6:E5 prog 3=1:=by kernel_rfl
theorem ay2:G2 prog 3=some (.int .i64 0):=by kernel_rfl
theorem F2:C1 prog 3=false:=by kernel_rfl
theorem aD9:E5 prog 4=1:=by kernel_rfl
theorem S1:G2 prog 4=some (.bool false):=by kernel_rfl
theorem ah6:C1 prog 4=false:=by kernel_rfl
theorem dW5:E5 prog 9=1:=by kernel_rfl
theorem dY8:G2 prog 9=some (.string ⟨#[]⟩):=by kernel_rfl
theorem S0:C1 prog 9=false:=by kernel_rfl
theorem dj6:C4 prog 9=none:=by kernel_rfl
theorem dx8:bB8 prog 9=true:=by kernel_rfl
theorem cI0:E5 prog 22=1:=by kernel_rfl
theorem bO1:G2 prog 22=some (.slice none 0 0):=by kernel_rfl
theorem M2:C1 prog 22=false:=by kernel_rfl
theorem da3:H2 prog 22=3:=by kernel_rfl
theorem bv4:C1 prog 23=false:=by kernel_rfl
theorem ce7:(prog.info? 25).isSome=true:=by kernel_rfl
theorem bv6:E5 prog 25=2:=by kernel_rfl
theorem da9:G2 prog 25=some (.agg #[.slice none 0 0,.slice none 0 0]):=by kernel_rfl
theorem ce5:C1 prog 25=true:=by kernel_rfl
theorem cf2:(prog.underlying 25).isSome=true:=by kernel_rfl
theorem cZ9:E9 prog 25=some (#[.slice none 0 0,.slice none 0 0],[(0,1),(1,1)]):=by kernel_rfl
theorem da4:E5 prog 30=1:=by kernel_rfl
theorem dY4:G2 prog 30=some (.slice none 0 0):=by kernel_rfl
theorem bv5:C1 prog 30=false:=by kernel_rfl
theorem da5:E5 prog 32=1:=by kernel_rfl
theorem dY5:G2 prog 32=some (.slice none 0 0):=by kernel_rfl
theorem cG6:C1 prog 32=false:=by kernel_rfl
theorem az5:(prog.info? 36).isSome=true:=by kernel_rfl
theorem Y6:E5 prog 36=4:=by kernel_rfl
theorem bv7:G2 prog 36=some (.agg #[.string ⟨#[]⟩,.int .i64 0,.int .i64 0,.string ⟨#[]⟩]):=by kernel_rfl
theorem aI8:C1 prog 36=true:=by kernel_rfl
theorem aJ0:(prog.underlying 36).isSome=true:=by kernel_rfl
theorem ce8:E9 prog 36=some (#[.string ⟨#[]⟩,.int .i64 0,.int .i64 0,.string ⟨#[]⟩],[(0,1),(1,1),(2,1),(3,1)]):=by kernel_rfl
theorem bN2:C1 prog 39=false:=by kernel_rfl
theorem bm1:(prog.info? 41).isSome=true:=by kernel_rfl
theorem ao9:E5 prog 41=4:=by kernel_rfl
theorem cI6:G2 prog 41=some (.agg #[.int .i64 0,.int .i64 0,.string ⟨#[]⟩,.slice none 0 0]):=by kernel_rfl
theorem bl8:C1 prog 41=true:=by kernel_rfl
theorem bm5:(prog.underlying 41).isSome=true:=by kernel_rfl
theorem ce9:E9 prog 41=some (#[.int .i64 0,.int .i64 0,.string ⟨#[]⟩,.slice none 0 0],[(0,1),(1,1),(2,1),(3,1)]):=by kernel_rfl
theorem bN3:C1 prog 42=false:=by kernel_rfl
theorem au6:C1 prog 43=false:=by kernel_rfl
theorem aI9:(prog.info? 45).isSome=true:=by kernel_rfl
theorem W9:E5 prog 45=13:=by kernel_rfl
theorem cf3:G2 prog 45=some (.agg #[.int .i64 0,.int .i64 0,.slice none 0 0,.string ⟨#[]⟩,.string ⟨#[]⟩,.int .i64 0,.int .i64 0,.string ⟨#[]⟩,.slice none 0 0,.bool false,.slice none 0 0,.slice none 0 0,.slice none 0 0]):=by kernel_rfl
theorem aR4:C1 prog 45=true:=by kernel_rfl
theorem aR7:(prog.underlying 45).isSome=true:=by kernel_rfl
theorem bm2:E9 prog 45=some (#[.int .i64 0,.int .i64 0,.slice none 0 0,.string ⟨#[]⟩,.string ⟨#[]⟩,.int .i64 0,.int .i64 0,.string ⟨#[]⟩,.slice none 0 0,.bool false,.slice none 0 0,.slice none 0 0,.slice none 0 0],[(0,1),(1,1),(2,1),(3,1),(4,1),(5,4),(9,1),(10,1),(11,1),(12,1)]):=by kernel_rfl
theorem bN4:C1 prog 49=false:=by kernel_rfl
theorem aj2:(prog.info? 51).isSome=true:=by kernel_rfl
theorem N0:E5 prog 51=5:=by kernel_rfl
theorem cI7:G2 prog 51=some (.agg #[.string ⟨#[]⟩,.slice none 0 0,.slice none 0 0,.slice none 0 0,.slice none 0 0]):=by kernel_rfl
theorem aj1:C1 prog 51=true:=by kernel_rfl
theorem aj3:(prog.underlying 51).isSome=true:=by kernel_rfl
theorem cH5:E9 prog 51=some (#[.string ⟨#[]⟩,.slice none 0 0,.slice none 0 0,.slice none 0 0,.slice none 0 0],[(0,1),(1,1),(2,1),(3,1),(4,1)]):=by kernel_rfl
theorem bN7:(prog.info? 57).isSome=true:=by kernel_rfl
theorem au7:E5 prog 57=16:=by kernel_rfl
theorem db0:G2 prog 57=some (.agg #[.int .i64 0,.int .i64 0,.slice none 0 0,.string ⟨#[]⟩,.string ⟨#[]⟩,.int .i64 0,.int .i64 0,.string ⟨#[]⟩,.slice none 0 0,.bool false,.slice none 0 0,.slice none 0 0,.slice none 0 0,.int .i64 0,.int .i64 0,.bool false]):=by kernel_rfl
theorem bN5:C1 prog 57=true:=by kernel_rfl
theorem bN9:(prog.underlying 57).isSome=true:=by kernel_rfl
theorem cH6:E9 prog 57=some (#[.int .i64 0,.int .i64 0,.slice none 0 0,.string ⟨#[]⟩,.string ⟨#[]⟩,.int .i64 0,.int .i64 0,.string ⟨#[]⟩,.slice none 0 0,.bool false,.slice none 0 0,.slice none 0 0,.slice none 0 0,.int .i64 0,.int .i64 0,.bool false],[(0,13),(13,1),(14,1),(15,1)]):=by kernel_rfl
theorem aD7:(prog.info? 60).isSome=true:=by kernel_rfl
theorem ac9:E5 prog 60=9:=by kernel_rfl
theorem bv8:G2 prog 60=some (.agg #[.string ⟨#[]⟩,.int .i64 0,.int .i64 0,.string ⟨#[]⟩,.string ⟨#[]⟩,.int .i64 0,.int .i64 0,.string ⟨#[]⟩,.int .i64 0]):=by kernel_rfl
theorem aR5:C1 prog 60=true:=by kernel_rfl
theorem aR8:(prog.underlying 60).isSome=true:=by kernel_rfl
theorem da0:E9 prog 60=some (#[.string ⟨#[]⟩,.int .i64 0,.int .i64 0,.string ⟨#[]⟩,.string ⟨#[]⟩,.int .i64 0,.int .i64 0,.string ⟨#[]⟩,.int .i64 0],[(0,4),(4,4),(8,1)]):=by kernel_rfl
theorem cZ8:(prog.info? 64).isSome=true:=by kernel_rfl
theorem cf1:E5 prog 64=3:=by kernel_rfl
theorem dY6:G2 prog 64=some (.agg #[.int .i64 0,.int .i64 0,.string ⟨#[]⟩]):=by kernel_rfl
theorem cZ7:C1 prog 64=true:=by kernel_rfl
theorem da8:(prog.underlying 64).isSome=true:=by kernel_rfl
theorem bb5:(prog.info? 68).isSome=true:=by kernel_rfl
theorem ap0:E5 prog 68=2:=by kernel_rfl
theorem dY7:G2 prog 68=some (.agg #[.string ⟨#[]⟩,.bool false]):=by kernel_rfl
theorem bb2:C1 prog 68=true:=by kernel_rfl
theorem bb7:(prog.underlying 68).isSome=true:=by kernel_rfl
theorem cf0:E9 prog 68=some (#[.string ⟨#[]⟩,.bool false],[(0,1),(1,1)]):=by kernel_rfl
theorem bb3:C1 prog 78=false:=by kernel_rfl
theorem bb4:C1 prog 89=false:=by kernel_rfl
theorem da6:E5 prog 90=1:=by kernel_rfl
theorem dY9:G2 prog 90=some (.slice none 0 0):=by kernel_rfl
theorem ce6:C1 prog 90=false:=by kernel_rfl
theorem da7:E5 prog 91=1:=by kernel_rfl
theorem dZ0:G2 prog 91=some (.slice none 0 0):=by kernel_rfl
theorem ah7:C1 prog 91=false:=by kernel_rfl
theorem da1:E9 prog 93=some (#[.pointer none,.slice none 0 0,.slice none 0 0,.slice none 0 0,.slice none 0 0,.slice none 0 0],[(0,1),(1,1),(2,1),(3,1),(4,1),(5,1)]):=by kernel_rfl
theorem bN8:(prog.info? 97).isSome=true:=by kernel_rfl
theorem bb6:E5 prog 97=3:=by kernel_rfl
theorem dZ1:G2 prog 97=some (.agg #[.int .i64 0,.int .i64 0,.string ⟨#[]⟩]):=by kernel_rfl
theorem bN6:C1 prog 97=true:=by kernel_rfl
theorem bO0:(prog.underlying 97).isSome=true:=by kernel_rfl
theorem da2:E9 prog 97=some (#[.int .i64 0,.int .i64 0,.string ⟨#[]⟩],[(0,1),(1,1),(2,1)]):=by kernel_rfl
theorem ax9:(prog.info? 101).isSome=true:=by kernel_rfl
theorem T2:E5 prog 101=6:=by kernel_rfl
theorem cI1:G2 prog 101=some (.agg #[.bool false,.string ⟨#[]⟩,.int .i64 0,.int .i64 0,.string ⟨#[]⟩,.slice none 0 0]):=by kernel_rfl
theorem ax8:C1 prog 101=true:=by kernel_rfl
theorem ay0:(prog.underlying 101).isSome=true:=by kernel_rfl
theorem bX1:E9 prog 101=some (#[.bool false,.string ⟨#[]⟩,.int .i64 0,.int .i64 0,.string ⟨#[]⟩,.slice none 0 0],[(0,1),(1,1),(2,4)]):=by kernel_rfl
theorem cG4:C1 prog 105=false:=by kernel_rfl
theorem bW9:(prog.info? 107).isSome=true:=by kernel_rfl
theorem bX3:E5 prog 107=2:=by kernel_rfl
theorem bX7:G2 prog 107=some (.agg #[.int .i64 0,.int .i64 0]):=by kernel_rfl
theorem bW7:C1 prog 107=true:=by kernel_rfl
theorem bX5:(prog.underlying 107).isSome=true:=by kernel_rfl
theorem bC2:E9 prog 107=some (#[.int .i64 0,.int .i64 0],[(0,1),(1,1)]):=by kernel_rfl
theorem cH8:E5 prog 111=1:=by kernel_rfl
theorem cI2:G2 prog 111=some (.slice none 0 0):=by kernel_rfl
theorem aL6:C1 prog 111=false:=by kernel_rfl
theorem aD8:E5 prog 112=1:=by kernel_rfl
theorem R6:G2 prog 112=some (.slice none 0 0):=by kernel_rfl
theorem O2:C1 prog 112=false:=by kernel_rfl
theorem bW6:A8 prog 112=some 3:=by kernel_rfl
theorem cH7:H2 prog 112=3:=by kernel_rfl
theorem cG7:E9 prog 114=some (#[.slice none 0 0,.slice none 0 0,.slice none 0 0,.slice none 0 0,.slice none 0 0],[(0,2),(2,1),(3,1),(4,1)]):=by kernel_rfl
theorem cG8:E9 prog 116=some (#[.pointer none,.int .i64 0,.string ⟨#[]⟩,.slice none 0 0,.slice none 0 0,.slice none 0 0,.slice none 0 0,.slice none 0 0,.slice none 0 0],[(0,1),(1,1),(2,5),(7,1),(8,1)]):=by kernel_rfl
theorem X8:(prog.info? 121).isSome=true:=by kernel_rfl
theorem I6:E5 prog 121=17:=by kernel_rfl
theorem bX8:G2 prog 121=some (.agg #[.int .i64 0,.int .i64 0,.slice none 0 0,.string ⟨#[]⟩,.string ⟨#[]⟩,.int .i64 0,.int .i64 0,.string ⟨#[]⟩,.slice none 0 0,.bool false,.slice none 0 0,.slice none 0 0,.slice none 0 0,.int .i64 0,.int .i64 0,.int .i64 0,.int .i64 0]):=by kernel_rfl
theorem X7:C1 prog 121=true:=by kernel_rfl
theorem X9:(prog.underlying 121).isSome=true:=by kernel_rfl
theorem bX2:E9 prog 121=some (#[.int .i64 0,.int .i64 0,.slice none 0 0,.string ⟨#[]⟩,.string ⟨#[]⟩,.int .i64 0,.int .i64 0,.string ⟨#[]⟩,.slice none 0 0,.bool false,.slice none 0 0,.slice none 0 0,.slice none 0 0,.int .i64 0,.int .i64 0,.int .i64 0,.int .i64 0],[(0,13),(13,1),(14,1),(15,1),(16,1)]):=by kernel_rfl
theorem ar2:C1 prog 126=false:=by kernel_rfl
theorem bX0:(prog.info? 128).isSome=true:=by kernel_rfl
theorem bm3:E5 prog 128=2:=by kernel_rfl
theorem cI3:G2 prog 128=some (.agg #[.int .i64 0,.int .i64 0]):=by kernel_rfl
theorem bW8:C1 prog 128=true:=by kernel_rfl
theorem bX6:(prog.underlying 128).isSome=true:=by kernel_rfl
theorem cG9:E9 prog 128=some (#[.int .i64 0,.int .i64 0],[(0,1),(1,1)]):=by kernel_rfl
theorem bC0:C1 prog 144=false:=by kernel_rfl
theorem bC3:E5 prog 149=1:=by kernel_rfl
theorem aW4:G2 prog 149=some (.slice none 0 0):=by kernel_rfl
theorem af3:C1 prog 149=false:=by kernel_rfl
theorem cH0:E9 prog 151=some (#[.pointer none,.int .i64 0,.int .i64 0,.slice none 0 0,.slice none 0 0],[(0,1),(1,1),(2,1),(3,1),(4,1)]):=by kernel_rfl
theorem cH9:E5 prog 153=1:=by kernel_rfl
theorem cI4:G2 prog 153=some (.slice none 0 0):=by kernel_rfl
theorem Q9:C1 prog 153=false:=by kernel_rfl
theorem bl9:(prog.info? 186).isSome=true:=by kernel_rfl
theorem aL8:E5 prog 186=3:=by kernel_rfl
theorem cI5:G2 prog 186=some (.agg #[.int .i64 0,.int .i64 0,.int .i64 0]):=by kernel_rfl
theorem bC1:C1 prog 186=true:=by kernel_rfl
theorem bC5:(prog.underlying 186).isSome=true:=by kernel_rfl
theorem cH1:E9 prog 186=some (#[.int .i64 0,.int .i64 0,.int .i64 0],[(0,1),(1,1),(2,1)]):=by kernel_rfl
theorem bm0:(prog.info? 189).isSome=true:=by kernel_rfl
theorem aa0:E5 prog 189=2:=by kernel_rfl
theorem aW5:G2 prog 189=some (.agg #[.slice none 0 0,.int .i64 0]):=by kernel_rfl
theorem bl7:C1 prog 189=true:=by kernel_rfl
theorem bm4:(prog.underlying 189).isSome=true:=by kernel_rfl
theorem cH2:E9 prog 189=some (#[.slice none 0 0,.int .i64 0],[(0,1),(1,1)]):=by kernel_rfl
theorem cH3:E9 prog 197=some (#[.int .i64 0],[(0,1)]):=by kernel_rfl
theorem bC4:E5 prog 220=1:=by kernel_rfl
theorem ay1:G2 prog 220=some (.int .u64 0):=by kernel_rfl
theorem af4:C1 prog 220=false:=by kernel_rfl
theorem cH4:E9 prog 234=some (#[.slice none 0 0,.slice none 0 0],[(0,1),(1,1)]):=by kernel_rfl
theorem bX4:E5 prog 275=1:=by kernel_rfl
theorem aW6:G2 prog 275=some (.slice none 0 0):=by kernel_rfl
theorem aL7:C1 prog 275=false:=by kernel_rfl
theorem hm:prog.follows .mixedOrders=true:=by kernel_rfl

theorem TY:(prog.info? 3).isSome=true∧E5 prog 3=1∧(prog.info? 4).isSome=true∧E5 prog 4=1∧(prog.info? 9).isSome=true∧E5 prog 9=1∧A8 prog 9=none∧bB8 prog 9=true∧(prog.info? 22).isSome=true∧E5 prog 22=1∧A8 prog 22=some 9∧A8 prog 23=some 51∧y5 prog 25 0=some (0,22)∧y5 prog 25 1=some (1,23)∧A8 prog 30=some 36∧A8 prog 32=some 60∧(prog.info? 36).isSome=true∧E5 prog 36=4∧y5 prog 36 0=some (0,9)∧y5 prog 36 1=some (1,3)∧y5 prog 36 2=some (2,3)∧y5 prog 36 3=some (3,9)∧A8 prog 39=some 41∧(prog.info? 41).isSome=true∧E5 prog 41=4∧y5 prog 41 0=some (0,3)∧y5 prog 41 1=some (1,2)∧y5 prog 41 2=some (2,9)∧y5 prog 41 3=some (3,39)∧A8 prog 42=some 101∧A8 prog 43=some 45∧(prog.info? 45).isSome=true∧E5 prog 45=13∧y5 prog 45 0=some (0,3)∧y5 prog 45 1=some (1,3)∧y5 prog 45 2=some (2,22)∧y5 prog 45 3=some (3,9)∧y5 prog 45 4=some (4,9)∧y5 prog 45 5=some (5,41)∧y5 prog 45 6=some (9,4)∧y5 prog 45 7=some (10,42)∧y5 prog 45 8=some (11,43)∧y5 prog 45 9=some (12,43)∧A8 prog 49=some 68∧(prog.info? 51).isSome=true∧E5 prog 51=5∧y5 prog 51 0=some (0,9)∧y5 prog 51 1=some (1,49)∧y5 prog 51 2=some (2,22)∧y5 prog 51 3=some (3,43)∧y5 prog 51 4=some (4,22)∧A8 prog 54=some 57∧(prog.info? 57).isSome=true∧E5 prog 57=16∧y5 prog 57 0=some (0,45)∧(prog.info? 60).isSome=true∧E5 prog 60=9∧y5 prog 60 0=some (0,36)∧y5 prog 60 1=some (4,36)∧y5 prog 60 2=some (8,3)∧A8 prog 61=some 64∧(prog.info? 64).isSome=true∧E5 prog 64=3∧y5 prog 64 0=some (0,3)∧y5 prog 64 1=some (1,3)∧y5 prog 64 2=some (2,9)∧(prog.info? 68).isSome=true∧E5 prog 68=2∧y5 prog 68 0=some (0,9)∧y5 prog 68 1=some (1,4)∧A8 prog 90=some 126∧A8 prog 91=some 22∧y5 prog 93 0=some (0,89)∧y5 prog 93 1=some (1,90)∧y5 prog 93 2=some (2,91)∧y5 prog 93 3=some (3,91)∧y5 prog 93 4=some (4,91)∧y5 prog 93 5=some (5,91)∧A8 prog 95=some 97∧(prog.info? 97).isSome=true∧E5 prog 97=3∧y5 prog 97 0=some (0,3)∧y5 prog 97 1=some (1,3)∧y5 prog 97 2=some (2,9)∧(prog.info? 101).isSome=true∧E5 prog 101=6∧y5 prog 101 0=some (0,4)∧y5 prog 101 1=some (1,9)∧y5 prog 101 2=some (2,41)∧y5 prog 107 0=some (0,105)∧A8 prog 111=some 121∧(prog.info? 112).isSome=true∧E5 prog 112=1∧A8 prog 112=some 3∧y5 prog 114 0=some (0,25)∧y5 prog 114 1=some (2,111)∧y5 prog 114 2=some (3,112)∧y5 prog 114 3=some (4,112)∧y5 prog 116 0=some (0,78)∧y5 prog 116 2=some (2,51)∧y5 prog 116 3=some (7,30)∧y5 prog 116 4=some (8,32)∧(prog.info? 121).isSome=true∧E5 prog 121=17∧y5 prog 121 0=some (0,45)∧y5 prog 121 1=some (13,3)∧y5 prog 121 3=some (15,3)∧y5 prog 121 4=some (16,3)∧A8 prog 125=some 128∧(prog.info? 126).isSome=true∧E5 prog 126=1∧(prog.info? 128).isSome=true∧E5 prog 128=2∧A8 prog 128=none∧C4 prog 128=some (2,3)∧A8 prog 144=some 186∧(prog.info? 149).isSome=true∧E5 prog 149=1∧A8 prog 149=some 4∧y5 prog 151 0=some (0,89)∧y5 prog 151 1=some (1,3)∧y5 prog 151 2=some (2,3)∧y5 prog 151 3=some (3,144)∧y5 prog 151 4=some (4,149)∧A8 prog 153=some 112∧A8 prog 166=some 149∧H2 prog 177=2∧(prog.info? 186).isSome=true∧E5 prog 186=3∧y5 prog 186 0=some (0,3)∧y5 prog 186 1=some (1,3)∧y5 prog 186 2=some (2,3)∧y5 prog 189 0=some (0,153)∧y5 prog 189 1=some (1,3)∧y5 prog 197 0=some (0,3)∧(prog.info? 220).isSome=true∧E5 prog 220=1∧y5 prog 234 0=some (0,153)∧y5 prog 234 1=some (1,153)∧A8 prog 243=some 275∧(prog.info? 275).isSome=true∧E5 prog 275=1∧A8 prog 275=some 220:=⟨by kernel_rfl,aR6,by kernel_rfl,aD9,by kernel_rfl,dW5,by kernel_rfl,dx8,by kernel_rfl,cI0,by kernel_rfl,by kernel_rfl,by kernel_rfl,by kernel_rfl,by kernel_rfl,by kernel_rfl,az5,Y6,by kernel_rfl,by kernel_rfl,by kernel_rfl,by kernel_rfl,by kernel_rfl,bm1,ao9,by kernel_rfl,by kernel_rfl,by kernel_rfl,by kernel_rfl,by kernel_rfl,by kernel_rfl,aI9,W9,by kernel_rfl,by kernel_rfl,by kernel_rfl,by kernel_rfl,by kernel_rfl,by kernel_rfl,by kernel_rfl,by kernel_rfl,by kernel_rfl,by kernel_rfl,by kernel_rfl,aj2,N0,by kernel_rfl,by kernel_rfl,by kernel_rfl,by kernel_rfl,by kernel_rfl,by kernel_rfl,bN7,au7,by kernel_rfl,aD7,ac9,by kernel_rfl,by kernel_rfl,by kernel_rfl,by kernel_rfl,cZ8,cf1,by kernel_rfl,by kernel_rfl,by kernel_rfl,bb5,ap0,by kernel_rfl,by kernel_rfl,by kernel_rfl,by kernel_rfl,by kernel_rfl,by kernel_rfl,by kernel_rfl,by kernel_rfl,by kernel_rfl,by kernel_rfl,by kernel_rfl,bN8,bb6,by kernel_rfl,by kernel_rfl,by kernel_rfl,ax9,T2,by kernel_rfl,by kernel_rfl,by kernel_rfl,by kernel_rfl,by kernel_rfl,by kernel_rfl,aD8,bW6,by kernel_rfl,by kernel_rfl,by kernel_rfl,by kernel_rfl,by kernel_rfl,by kernel_rfl,by kernel_rfl,by kernel_rfl,X8,I6,by kernel_rfl,by kernel_rfl,by kernel_rfl,by kernel_rfl,by kernel_rfl,by kernel_rfl,by kernel_rfl,bX0,bm3,by kernel_rfl,by kernel_rfl,by kernel_rfl,by kernel_rfl,bC3,by kernel_rfl,by kernel_rfl,by kernel_rfl,by kernel_rfl,by kernel_rfl,by kernel_rfl,by kernel_rfl,by kernel_rfl,by kernel_rfl,bl9,aL8,by kernel_rfl,by kernel_rfl,by kernel_rfl,by kernel_rfl,by kernel_rfl,by kernel_rfl,by kernel_rfl,bC4,by kernel_rfl,by kernel_rfl,by kernel_rfl,by kernel_rfl,bX4,by kernel_rfl⟩
theorem dG9{l:List Value}(h:l.length=2):∃a b,l=[a,b]:=by
 match l,h with
 | [a,b],_=>exact⟨a,b,rfl⟩
theorem bt2{l:List Value}(h:l.length=4):∃a b c d,l=[a,b,c,d]:=by
 match l,h with
 | [a,b,c,d],_=>exact⟨a,b,c,d,rfl⟩
theorem aC7{l:List Value}(h:l.length=13):∃a b c d e f g i j k m n o,l=[a,b,c,d,e,f,g,i,j,k,m,n,o]:=by
 match l,h with
 | [a,b,c,d,e,f,g,i,j,k,m,n,o],_=>exact⟨a,b,c,d,e,f,g,i,j,k,m,n,o,rfl⟩
theorem cM6{h:Hp}{cs:List Value}{x:Pa}:A3.enc h cs x→cs=([o7 x.name]:List Value)++([.bool x.ref]:List Value):=by
 intro he;exact he
theorem At.pa{h:Hp}{a:Addr}{x:Pa}(ha:At h a x):(∀w,B4 h (d7 w)→(Instr.loadAt 9 (.pointer (some a))).run prog w = .ok (o7 x.name) w∧(Instr.loadAt 4 (.pointer (some (a.add 1)))).run prog w = .ok (.bool x.ref) w)∧(∀(S:World→Prop) (w0:World),S w0→(∀w,S w→B4 h (d7 w))→(∀K f d w,B6 prog S (Instr.loadAt 9 (.pointer (some a))) K f d w=K (A7 f d (o7 x.name)) w)∧(∀K f d w,B6 prog S (Instr.loadAt 4 (.pointer (some (a.add 1)))) K f d w=K (A7 f d (.bool x.ref)) w)):=by
 obtain⟨cs,he,hc⟩:=ha;obtain rfl:=cM6 he;exact⟨fun w hw=>⟨D8 hc rfl S0 w hw,p8 hc (o:=1) rfl ah6 w hw⟩,fun S w0 hS hw=>⟨fun K f d w=>A0 hS fun w' hw'=>D8 hc rfl S0 w' (hw w' hw'),fun K f d w=>A0 hS fun w' hw'=>p8 hc (o:=1) rfl ah6 w' (hw w' hw')⟩⟩
theorem At.pa_v{h:Hp}{a:Addr}{x:Pa}(ha:At h a x):∃sv,SV h sv x∧(∀w,B4 h (d7 w)→(Instr.loadAt 68 (.pointer (some a))).run prog w = .ok sv w)∧(∀(S:World→Prop) (w0:World),S w0→(∀w,S w→B4 h (d7 w))→∀K f d w,B6 prog S (Instr.loadAt 68 (.pointer (some a))) K f d w=K (A7 f d sv) w):=ha.sv2 bb2 bb7 bb5 ap0
theorem bZ7{h:Hp}{v:Value}{x:Pa}{w:World}(hv:SV h v x)(hw:B4 h (d7 w)):∃a w',(Instr.box 68 v).run prog w = .ok (.pointer (some a)) w'∧o6 w w'∧At (d7 w') a x:=bn8 hv hw
theorem aG7{h:Hp}{v:Value}{x:Pa}{w:World}(hv:SV h v x)(hw:B4 h (d7 w)):∃a wz w',(Instr.alloc 68 true (.tuple #[])).run prog w = .ok (.pointer (some a)) wz∧(Instr.storeAt 68 (.pointer (some a)) v).run prog wz = .ok () w'∧o6 w w'∧At (d7 w') a x:=bm7 hv hw dY7 rfl ap0
theorem cM8{h:Hp}{cs:List Value}{x:Sp}:A3.enc h cs x→cs=([.int .i64 x.src]:List Value)++([.int .i64 x.dst]:List Value)++([.int .i64 x.kind]:List Value):=by
 intro he;exact he
theorem At.sp{h:Hp}{a:Addr}{x:Sp}(ha:At h a x):(∀w,B4 h (d7 w)→(Instr.loadAt 3 (.pointer (some a))).run prog w = .ok (.int .i64 x.src) w∧(Instr.loadAt 3 (.pointer (some (a.add 1)))).run prog w = .ok (.int .i64 x.dst) w∧(Instr.loadAt 3 (.pointer (some (a.add 2)))).run prog w = .ok (.int .i64 x.kind) w)∧(∀(S:World→Prop) (w0:World),S w0→(∀w,S w→B4 h (d7 w))→(∀K f d w,B6 prog S (Instr.loadAt 3 (.pointer (some a))) K f d w=K (A7 f d (.int .i64 x.src)) w)∧(∀K f d w,B6 prog S (Instr.loadAt 3 (.pointer (some (a.add 1)))) K f d w=K (A7 f d (.int .i64 x.dst)) w)∧(∀K f d w,B6 prog S (Instr.loadAt 3 (.pointer (some (a.add 2)))) K f d w=K (A7 f d (.int .i64 x.kind)) w)):=by
 obtain⟨cs,he,hc⟩:=ha;obtain rfl:=cM8 he;exact⟨fun w hw=>⟨D8 hc rfl F2 w hw,p8 hc (o:=1) rfl F2 w hw,p8 hc (o:=2) rfl F2 w hw⟩,fun S w0 hS hw=>⟨fun K f d w=>A0 hS fun w' hw'=>D8 hc rfl F2 w' (hw w' hw'),fun K f d w=>A0 hS fun w' hw'=>p8 hc (o:=1) rfl F2 w' (hw w' hw'),fun K f d w=>A0 hS fun w' hw'=>p8 hc (o:=2) rfl F2 w' (hw w' hw')⟩⟩
theorem At.sp_v{h:Hp}{a:Addr}{x:Sp}(ha:At h a x):∃sv,SV h sv x∧(∀w,B4 h (d7 w)→(Instr.loadAt 186 (.pointer (some a))).run prog w = .ok sv w)∧(∀(S:World→Prop) (w0:World),S w0→(∀w,S w→B4 h (d7 w))→∀K f d w,B6 prog S (Instr.loadAt 186 (.pointer (some a))) K f d w=K (A7 f d sv) w):=ha.sv2 bC1 bC5 bl9 aL8
theorem bZ8{h:Hp}{v:Value}{x:Sp}{w:World}(hv:SV h v x)(hw:B4 h (d7 w)):∃a w',(Instr.box 186 v).run prog w = .ok (.pointer (some a)) w'∧o6 w w'∧At (d7 w') a x:=bn8 hv hw
theorem cV4{h:Hp}{v:Value}{x:Sp}{w:World}(hv:SV h v x)(hw:B4 h (d7 w)):∃a wz w',(Instr.alloc 186 true (.tuple #[])).run prog w = .ok (.pointer (some a)) wz∧(Instr.storeAt 186 (.pointer (some a)) v).run prog wz = .ok () w'∧o6 w w'∧At (d7 w') a x:=bm7 hv hw cI5 rfl aL8
theorem cb0{h:Hp}{cs:List Value}{x:Fw}:A3.enc h cs x→cs=([.int .i64 x.src]:List Value)++([.int .i64 x.dst]:List Value)++([o7 x.var]:List Value):=by
 intro he;exact he
theorem At.fw{h:Hp}{a:Addr}{x:Fw}(ha:At h a x):(∀w,B4 h (d7 w)→(Instr.loadAt 3 (.pointer (some a))).run prog w = .ok (.int .i64 x.src) w∧(Instr.loadAt 3 (.pointer (some (a.add 1)))).run prog w = .ok (.int .i64 x.dst) w∧(Instr.loadAt 9 (.pointer (some (a.add 2)))).run prog w = .ok (o7 x.var) w)∧(∀(S:World→Prop) (w0:World),S w0→(∀w,S w→B4 h (d7 w))→(∀K f d w,B6 prog S (Instr.loadAt 3 (.pointer (some a))) K f d w=K (A7 f d (.int .i64 x.src)) w)∧(∀K f d w,B6 prog S (Instr.loadAt 3 (.pointer (some (a.add 1)))) K f d w=K (A7 f d (.int .i64 x.dst)) w)∧(∀K f d w,B6 prog S (Instr.loadAt 9 (.pointer (some (a.add 2)))) K f d w=K (A7 f d (o7 x.var)) w)):=by
 obtain⟨cs,he,hc⟩:=ha;obtain rfl:=cb0 he;exact⟨fun w hw=>⟨D8 hc rfl F2 w hw,p8 hc (o:=1) rfl F2 w hw,p8 hc (o:=2) rfl S0 w hw⟩,fun S w0 hS hw=>⟨fun K f d w=>A0 hS fun w' hw'=>D8 hc rfl F2 w' (hw w' hw'),fun K f d w=>A0 hS fun w' hw'=>p8 hc (o:=1) rfl F2 w' (hw w' hw'),fun K f d w=>A0 hS fun w' hw'=>p8 hc (o:=2) rfl S0 w' (hw w' hw')⟩⟩
theorem I4.fw{h k:Hp}{a:Addr}{v:Value}{x:Fw}(hv:SV h v x)(ha:I4 k a v):(∀w,B4 k (d7 w)→(Instr.loadAt 3 (.pointer (some a))).run prog w = .ok (.int .i64 x.src) w∧(Instr.loadAt 3 (.pointer (some (a.add 1)))).run prog w = .ok (.int .i64 x.dst) w∧(Instr.loadAt 9 (.pointer (some (a.add 2)))).run prog w = .ok (o7 x.var) w)∧(∀(S:World→Prop) (w0:World),S w0→(∀w,S w→B4 k (d7 w))→(∀K f d w,B6 prog S (Instr.loadAt 3 (.pointer (some a))) K f d w=K (A7 f d (.int .i64 x.src)) w)∧(∀K f d w,B6 prog S (Instr.loadAt 3 (.pointer (some (a.add 1)))) K f d w=K (A7 f d (.int .i64 x.dst)) w)∧(∀K f d w,B6 prog S (Instr.loadAt 9 (.pointer (some (a.add 2)))) K f d w=K (A7 f d (o7 x.var)) w)):=by
 obtain⟨cs,rfl,he⟩:=hv;obtain⟨cs2,e2,hc⟩:=ha;obtain rfl:=ab2 e2;obtain rfl:=cb0 he;exact⟨fun w hw=>⟨D8 hc rfl F2 w hw,p8 hc (o:=1) rfl F2 w hw,p8 hc (o:=2) rfl S0 w hw⟩,fun S w0 hS hw=>⟨fun K f d w=>A0 hS fun w' hw'=>D8 hc rfl F2 w' (hw w' hw'),fun K f d w=>A0 hS fun w' hw'=>p8 hc (o:=1) rfl F2 w' (hw w' hw'),fun K f d w=>A0 hS fun w' hw'=>p8 hc (o:=2) rfl S0 w' (hw w' hw')⟩⟩
theorem At.fw_v{h:Hp}{a:Addr}{x:Fw}(ha:At h a x):∃sv,SV h sv x∧(∀w,B4 h (d7 w)→(Instr.loadAt 97 (.pointer (some a))).run prog w = .ok sv w)∧(∀(S:World→Prop) (w0:World),S w0→(∀w,S w→B4 h (d7 w))→∀K f d w,B6 prog S (Instr.loadAt 97 (.pointer (some a))) K f d w=K (A7 f d sv) w):=ha.sv2 bN6 bO0 bN8 bb6
theorem cf5{h:Hp}{v:Value}{x:Fw}{w:World}(hv:SV h v x)(hw:B4 h (d7 w)):∃a wz w',(Instr.alloc 97 true (.tuple #[])).run prog w = .ok (.pointer (some a)) wz∧(Instr.storeAt 97 (.pointer (some a)) v).run prog wz = .ok () w'∧o6 w w'∧At (d7 w') a x:=bm7 hv hw dZ1 rfl bb6
theorem cM9{h:Hp}{cs:List Value}{x:Vx}:A3.enc h cs x→cs=([o7 x.proc]:List Value)++([.int .i64 x.kind]:List Value)++([.int .i64 x.id]:List Value)++([o7 x.slot]:List Value):=by
 intro he;exact he
theorem At.vx{h:Hp}{a:Addr}{x:Vx}(ha:At h a x):(∀w,B4 h (d7 w)→(Instr.loadAt 9 (.pointer (some a))).run prog w = .ok (o7 x.proc) w∧(Instr.loadAt 3 (.pointer (some (a.add 1)))).run prog w = .ok (.int .i64 x.kind) w∧(Instr.loadAt 3 (.pointer (some (a.add 2)))).run prog w = .ok (.int .i64 x.id) w∧(Instr.loadAt 9 (.pointer (some (a.add 3)))).run prog w = .ok (o7 x.slot) w)∧(∀(S:World→Prop) (w0:World),S w0→(∀w,S w→B4 h (d7 w))→(∀K f d w,B6 prog S (Instr.loadAt 9 (.pointer (some a))) K f d w=K (A7 f d (o7 x.proc)) w)∧(∀K f d w,B6 prog S (Instr.loadAt 3 (.pointer (some (a.add 1)))) K f d w=K (A7 f d (.int .i64 x.kind)) w)∧(∀K f d w,B6 prog S (Instr.loadAt 3 (.pointer (some (a.add 2)))) K f d w=K (A7 f d (.int .i64 x.id)) w)∧(∀K f d w,B6 prog S (Instr.loadAt 9 (.pointer (some (a.add 3)))) K f d w=K (A7 f d (o7 x.slot)) w)):=by
 obtain⟨cs,he,hc⟩:=ha;obtain rfl:=cM9 he;exact⟨fun w hw=>⟨D8 hc rfl S0 w hw,p8 hc (o:=1) rfl F2 w hw,p8 hc (o:=2) rfl F2 w hw,p8 hc (o:=3) rfl S0 w hw⟩,fun S w0 hS hw=>⟨fun K f d w=>A0 hS fun w' hw'=>D8 hc rfl S0 w' (hw w' hw'),fun K f d w=>A0 hS fun w' hw'=>p8 hc (o:=1) rfl F2 w' (hw w' hw'),fun K f d w=>A0 hS fun w' hw'=>p8 hc (o:=2) rfl F2 w' (hw w' hw'),fun K f d w=>A0 hS fun w' hw'=>p8 hc (o:=3) rfl S0 w' (hw w' hw')⟩⟩
theorem I4.vx_v{h k:Hp}{a:Addr}{v:Value}{x:Vx}(hv:SV h v x)(ha:I4 k a v):(∀w,B4 k (d7 w)→(Instr.loadAt 36 (.pointer (some a))).run prog w = .ok v w)∧(∀(S:World→Prop) (w0:World),S w0→(∀w,S w→B4 k (d7 w))→∀K f d w,B6 prog S (Instr.loadAt 36 (.pointer (some a))) K f d w=K (A7 f d v) w):=ha.whole hv aI8 aJ0 az5 Y6
theorem ca1{h:Hp}{v:Value}{x:Vx}{w:World}(N:Nat→Prop)(hv:SV h v x)(hN:∀b,N b→b<w.heap.size):∃a w',(Instr.box 36 v).run prog w = .ok (.pointer (some a)) w'∧o6 w w'∧I4 (B8 w' N) a v:=ch8 hv hN
theorem cf9{h:Hp}{v:Value}{x:Vx}{w:World}(N:Nat→Prop)(hv:SV h v x)(hN:∀b,N b→b<w.heap.size):∃a wz w',(Instr.alloc 36 true (.tuple #[])).run prog w = .ok (.pointer (some a)) wz∧(Instr.storeAt 36 (.pointer (some a)) v).run prog wz = .ok () w'∧o6 w w'∧I4 (B8 w' N) a v:=bC7 hv hN bv7 rfl Y6
theorem At.vx_v{h:Hp}{a:Addr}{x:Vx}(ha:At h a x):∃sv,SV h sv x∧(∀w,B4 h (d7 w)→(Instr.loadAt 36 (.pointer (some a))).run prog w = .ok sv w)∧(∀(S:World→Prop) (w0:World),S w0→(∀w,S w→B4 h (d7 w))→∀K f d w,B6 prog S (Instr.loadAt 36 (.pointer (some a))) K f d w=K (A7 f d sv) w):=ha.sv2 aI8 aJ0 az5 Y6
theorem bc9{h:Hp}{v:Value}{x:Vx}{w:World}(hv:SV h v x)(hw:B4 h (d7 w)):∃a w',(Instr.box 36 v).run prog w = .ok (.pointer (some a)) w'∧o6 w w'∧At (d7 w') a x:=bn8 hv hw
theorem cf6{h:Hp}{v:Value}{x:Vx}{w:World}(hv:SV h v x)(hw:B4 h (d7 w)):∃a wz w',(Instr.alloc 36 true (.tuple #[])).run prog w = .ok (.pointer (some a)) wz∧(Instr.storeAt 36 (.pointer (some a)) v).run prog wz = .ok () w'∧o6 w w'∧At (d7 w') a x:=bm7 hv hw bv7 rfl Y6
theorem cM5{h:Hp}{cs:List Value}{x:Eg}:A3.enc h cs x→∃c_src c_dst,cs=c_src++c_dst++([.int .i64 x.kind]:List Value)∧A3.enc h c_src x.src∧A3.enc h c_dst x.dst:=by
 intro he;exact⟨x.src.cells,x.dst.cells,he,rfl,rfl⟩
theorem At.eg{h:Hp}{a:Addr}{x:Eg}(ha:At h a x):At h a x.src∧At h (a.add 4) x.dst∧(∀w,B4 h (d7 w)→(Instr.loadAt 3 (.pointer (some (a.add 8)))).run prog w = .ok (.int .i64 x.kind) w)∧(∀(S:World→Prop) (w0:World),S w0→(∀w,S w→B4 h (d7 w))→(∀K f d w,B6 prog S (Instr.loadAt 3 (.pointer (some (a.add 8)))) K f d w=K (A7 f d (.int .i64 x.kind)) w)):=by
 obtain⟨cs,he,hc⟩:=ha;obtain⟨c_src,c_dst,rfl,h_src,h_dst⟩:=cM5 he;obtain⟨a_src0,a_src1,a_src2,a_src3,rfl⟩:=bt2 (A3.len h_src);obtain⟨a_dst0,a_dst1,a_dst2,a_dst3,rfl⟩:=bt2 (A3.len h_dst);exact⟨aM8 hc h_src (fun j u hj=>by
  match j,hj with
  | 0,hj=>exact hj
  | 1,hj=>exact hj
  | 2,hj=>exact hj
  | 3,hj=>exact hj
  | m+4,hj=>simp at hj),bc5 hc h_dst (fun j u hj=>by
  match j,hj with
  | 0,hj=>exact hj
  | 1,hj=>exact hj
  | 2,hj=>exact hj
  | 3,hj=>exact hj
  | m+4,hj=>simp at hj),fun w hw=>p8 hc (o:=8) rfl F2 w hw,fun S w0 hS hw=>fun K f d w=>A0 hS fun w' hw'=>p8 hc (o:=8) rfl F2 w' (hw w' hw')⟩
theorem I4.eg_v{h k:Hp}{a:Addr}{v:Value}{x:Eg}(hv:SV h v x)(ha:I4 k a v):(∀w,B4 k (d7 w)→(Instr.loadAt 60 (.pointer (some a))).run prog w = .ok v w)∧(∀(S:World→Prop) (w0:World),S w0→(∀w,S w→B4 k (d7 w))→∀K f d w,B6 prog S (Instr.loadAt 60 (.pointer (some a))) K f d w=K (A7 f d v) w):=ha.whole hv aR5 aR8 aD7 ac9
theorem cV5{h:Hp}{v:Value}{x:Eg}{w:World}(N:Nat→Prop)(hv:SV h v x)(hN:∀b,N b→b<w.heap.size):∃a wz w',(Instr.alloc 60 true (.tuple #[])).run prog w = .ok (.pointer (some a)) wz∧(Instr.storeAt 60 (.pointer (some a)) v).run prog wz = .ok () w'∧o6 w w'∧I4 (B8 w' N) a v:=bC7 hv hN bv8 rfl ac9
theorem At.eg_v{h:Hp}{a:Addr}{x:Eg}(ha:At h a x):∃sv,SV h sv x∧(∀w,B4 h (d7 w)→(Instr.loadAt 60 (.pointer (some a))).run prog w = .ok sv w)∧(∀(S:World→Prop) (w0:World),S w0→(∀w,S w→B4 h (d7 w))→∀K f d w,B6 prog S (Instr.loadAt 60 (.pointer (some a))) K f d w=K (A7 f d sv) w):=ha.sv2 aR5 aR8 aD7 ac9
theorem bZ5{h:Hp}{v:Value}{x:Eg}{w:World}(hv:SV h v x)(hw:B4 h (d7 w)):∃a w',(Instr.box 60 v).run prog w = .ok (.pointer (some a)) w'∧o6 w w'∧At (d7 w') a x:=bn8 hv hw
theorem bC6{h:Hp}{v:Value}{x:Eg}{w:World}(hv:SV h v x)(hw:B4 h (d7 w)):∃a wz w',(Instr.alloc 60 true (.tuple #[])).run prog w = .ok (.pointer (some a)) wz∧(Instr.storeAt 60 (.pointer (some a)) v).run prog wz = .ok () w'∧o6 w w'∧At (d7 w') a x:=bm7 hv hw bv8 rfl ac9
theorem ca9{h:Hp}{cs:List Value}{x:Ex}:A3.enc h cs x→∃v_kids,cs=([.int .i64 x.op]:List Value)++([.int .i64 x.n]:List Value)++([o7 x.name]:List Value)++([v_kids]:List Value)∧R h v_kids x.kids:=by
 intro he;obtain⟨vk,rfl,h1⟩:=bf9.1 he;exact⟨vk,rfl,h1⟩
theorem At.ex{h:Hp}{a:Addr}{x:Ex}(ha:At h a x):∃v_kids,R h v_kids x.kids∧(∀w,B4 h (d7 w)→(Instr.loadAt 3 (.pointer (some a))).run prog w = .ok (.int .i64 x.op) w∧(Instr.loadAt 2 (.pointer (some (a.add 1)))).run prog w = .ok (.int .i64 x.n) w∧(Instr.loadAt 9 (.pointer (some (a.add 2)))).run prog w = .ok (o7 x.name) w∧(Instr.loadAt 39 (.pointer (some (a.add 3)))).run prog w = .ok (v_kids) w)∧(∀(S:World→Prop) (w0:World),S w0→(∀w,S w→B4 h (d7 w))→(∀K f d w,B6 prog S (Instr.loadAt 3 (.pointer (some a))) K f d w=K (A7 f d (.int .i64 x.op)) w)∧(∀K f d w,B6 prog S (Instr.loadAt 2 (.pointer (some (a.add 1)))) K f d w=K (A7 f d (.int .i64 x.n)) w)∧(∀K f d w,B6 prog S (Instr.loadAt 9 (.pointer (some (a.add 2)))) K f d w=K (A7 f d (o7 x.name)) w)∧(∀K f d w,B6 prog S (Instr.loadAt 39 (.pointer (some (a.add 3)))) K f d w=K (A7 f d (v_kids)) w)):=by
 obtain⟨cs,he,hc⟩:=ha;obtain⟨v_kids,rfl,h_kids⟩:=ca9 he;exact⟨_,h_kids,fun w hw=>⟨D8 hc rfl F2 w hw,p8 hc (o:=1) rfl cG5 w hw,p8 hc (o:=2) rfl S0 w hw,p8 hc (o:=3) rfl bN2 w hw⟩,fun S w0 hS hw=>⟨fun K f d w=>A0 hS fun w' hw'=>D8 hc rfl F2 w' (hw w' hw'),fun K f d w=>A0 hS fun w' hw'=>p8 hc (o:=1) rfl cG5 w' (hw w' hw'),fun K f d w=>A0 hS fun w' hw'=>p8 hc (o:=2) rfl S0 w' (hw w' hw'),fun K f d w=>A0 hS fun w' hw'=>p8 hc (o:=3) rfl bN2 w' (hw w' hw')⟩⟩
theorem I4.ex{h k:Hp}{a:Addr}{v:Value}{x:Ex}(hv:SV h v x)(ha:I4 k a v):∃v_kids,R h v_kids x.kids∧(∀w,B4 k (d7 w)→(Instr.loadAt 3 (.pointer (some a))).run prog w = .ok (.int .i64 x.op) w∧(Instr.loadAt 2 (.pointer (some (a.add 1)))).run prog w = .ok (.int .i64 x.n) w∧(Instr.loadAt 9 (.pointer (some (a.add 2)))).run prog w = .ok (o7 x.name) w∧(Instr.loadAt 39 (.pointer (some (a.add 3)))).run prog w = .ok (v_kids) w)∧(∀(S:World→Prop) (w0:World),S w0→(∀w,S w→B4 k (d7 w))→(∀K f d w,B6 prog S (Instr.loadAt 3 (.pointer (some a))) K f d w=K (A7 f d (.int .i64 x.op)) w)∧(∀K f d w,B6 prog S (Instr.loadAt 2 (.pointer (some (a.add 1)))) K f d w=K (A7 f d (.int .i64 x.n)) w)∧(∀K f d w,B6 prog S (Instr.loadAt 9 (.pointer (some (a.add 2)))) K f d w=K (A7 f d (o7 x.name)) w)∧(∀K f d w,B6 prog S (Instr.loadAt 39 (.pointer (some (a.add 3)))) K f d w=K (A7 f d (v_kids)) w)):=by
 obtain⟨cs,rfl,he⟩:=hv;obtain⟨cs2,e2,hc⟩:=ha;obtain rfl:=ab2 e2;obtain⟨v_kids,rfl,h_kids⟩:=ca9 he;exact⟨_,h_kids,fun w hw=>⟨D8 hc rfl F2 w hw,p8 hc (o:=1) rfl cG5 w hw,p8 hc (o:=2) rfl S0 w hw,p8 hc (o:=3) rfl bN2 w hw⟩,fun S w0 hS hw=>⟨fun K f d w=>A0 hS fun w' hw'=>D8 hc rfl F2 w' (hw w' hw'),fun K f d w=>A0 hS fun w' hw'=>p8 hc (o:=1) rfl cG5 w' (hw w' hw'),fun K f d w=>A0 hS fun w' hw'=>p8 hc (o:=2) rfl S0 w' (hw w' hw'),fun K f d w=>A0 hS fun w' hw'=>p8 hc (o:=3) rfl bN2 w' (hw w' hw')⟩⟩
theorem I4.ex_v{h k:Hp}{a:Addr}{v:Value}{x:Ex}(hv:SV h v x)(ha:I4 k a v):(∀w,B4 k (d7 w)→(Instr.loadAt 41 (.pointer (some a))).run prog w = .ok v w)∧(∀(S:World→Prop) (w0:World),S w0→(∀w,S w→B4 k (d7 w))→∀K f d w,B6 prog S (Instr.loadAt 41 (.pointer (some a))) K f d w=K (A7 f d v) w):=ha.whole hv bl8 bm5 bm1 ao9
theorem bd0{h:Hp}{v:Value}{x:Ex}{w:World}(N:Nat→Prop)(hv:SV h v x)(hN:∀b,N b→b<w.heap.size):∃a w',(Instr.box 41 v).run prog w = .ok (.pointer (some a)) w'∧o6 w w'∧I4 (B8 w' N) a v:=ch8 hv hN
theorem cV6{h:Hp}{v:Value}{x:Ex}{w:World}(N:Nat→Prop)(hv:SV h v x)(hN:∀b,N b→b<w.heap.size):∃a wz w',(Instr.alloc 41 true (.tuple #[])).run prog w = .ok (.pointer (some a)) wz∧(Instr.storeAt 41 (.pointer (some a)) v).run prog wz = .ok () w'∧o6 w w'∧I4 (B8 w' N) a v:=bC7 hv hN cI6 rfl ao9
theorem At.ex_v{h:Hp}{a:Addr}{x:Ex}(ha:At h a x):∃sv,SV h sv x∧(∀w,B4 h (d7 w)→(Instr.loadAt 41 (.pointer (some a))).run prog w = .ok sv w)∧(∀(S:World→Prop) (w0:World),S w0→(∀w,S w→B4 h (d7 w))→∀K f d w,B6 prog S (Instr.loadAt 41 (.pointer (some a))) K f d w=K (A7 f d sv) w):=ha.sv2 bl8 bm5 bm1 ao9
theorem aE6{h:Hp}{v:Value}{x:Ex}{w:World}(hv:SV h v x)(hw:B4 h (d7 w)):∃a w',(Instr.box 41 v).run prog w = .ok (.pointer (some a)) w'∧o6 w w'∧At (d7 w') a x:=bn8 hv hw
theorem cV2{h:Hp}{v:Value}{x:Ex}{w:World}(hv:SV h v x)(hw:B4 h (d7 w)):∃a wz w',(Instr.alloc 41 true (.tuple #[])).run prog w = .ok (.pointer (some a)) wz∧(Instr.storeAt 41 (.pointer (some a)) v).run prog wz = .ok () w'∧o6 w w'∧At (d7 w') a x:=bm7 hv hw cI6 rfl ao9
theorem ca8{h:Hp}{cs:List Value}{x:Ar}:A3.enc h cs x→∃c_x,cs=([.bool x.ref]:List Value)++([o7 x.name]:List Value)++c_x∧A3.enc h c_x x.x:=by
 rintro⟨c,rfl,h1⟩;exact⟨c,rfl,h1⟩
theorem At.ar{h:Hp}{a:Addr}{x:Ar}(ha:At h a x):At h (a.add 2) x.x∧(∀w,B4 h (d7 w)→(Instr.loadAt 4 (.pointer (some a))).run prog w = .ok (.bool x.ref) w∧(Instr.loadAt 9 (.pointer (some (a.add 1)))).run prog w = .ok (o7 x.name) w)∧(∀(S:World→Prop) (w0:World),S w0→(∀w,S w→B4 h (d7 w))→(∀K f d w,B6 prog S (Instr.loadAt 4 (.pointer (some a))) K f d w=K (A7 f d (.bool x.ref)) w)∧(∀K f d w,B6 prog S (Instr.loadAt 9 (.pointer (some (a.add 1)))) K f d w=K (A7 f d (o7 x.name)) w)):=by
 obtain⟨cs,he,hc⟩:=ha;obtain⟨c_x,rfl,h_x⟩:=ca8 he;obtain⟨a_x0,a_x1,a_x2,a_x3,rfl⟩:=bt2 (A3.len h_x);exact⟨bc5 hc h_x (fun j u hj=>by
  match j,hj with
  | 0,hj=>exact hj
  | 1,hj=>exact hj
  | 2,hj=>exact hj
  | 3,hj=>exact hj
  | m+4,hj=>simp at hj),fun w hw=>⟨D8 hc rfl ah6 w hw,p8 hc (o:=1) rfl S0 w hw⟩,fun S w0 hS hw=>⟨fun K f d w=>A0 hS fun w' hw'=>D8 hc rfl ah6 w' (hw w' hw'),fun K f d w=>A0 hS fun w' hw'=>p8 hc (o:=1) rfl S0 w' (hw w' hw')⟩⟩
theorem I4.ar{h k:Hp}{a:Addr}{v:Value}{x:Ar}(hv:SV h v x)(ha:I4 k a v):∃u_x,SV h u_x x.x∧I4 k (a.add 2) u_x∧(∀w,B4 k (d7 w)→(Instr.loadAt 4 (.pointer (some a))).run prog w = .ok (.bool x.ref) w∧(Instr.loadAt 9 (.pointer (some (a.add 1)))).run prog w = .ok (o7 x.name) w)∧(∀(S:World→Prop) (w0:World),S w0→(∀w,S w→B4 k (d7 w))→(∀K f d w,B6 prog S (Instr.loadAt 4 (.pointer (some a))) K f d w=K (A7 f d (.bool x.ref)) w)∧(∀K f d w,B6 prog S (Instr.loadAt 9 (.pointer (some (a.add 1)))) K f d w=K (A7 f d (o7 x.name)) w)):=by
 obtain⟨cs,rfl,he⟩:=hv;obtain⟨cs2,e2,hc⟩:=ha;obtain rfl:=ab2 e2;obtain⟨c_x,rfl,h_x⟩:=ca8 he;obtain⟨a_x0,a_x1,a_x2,a_x3,rfl⟩:=bt2 (A3.len h_x);exact⟨_,⟨_,rfl,h_x⟩,be6 hc (fun j u hj=>by
  match j,hj with
  | 0,hj=>exact hj
  | 1,hj=>exact hj
  | 2,hj=>exact hj
  | 3,hj=>exact hj
  | m+4,hj=>simp at hj),fun w hw=>⟨D8 hc rfl ah6 w hw,p8 hc (o:=1) rfl S0 w hw⟩,fun S w0 hS hw=>⟨fun K f d w=>A0 hS fun w' hw'=>D8 hc rfl ah6 w' (hw w' hw'),fun K f d w=>A0 hS fun w' hw'=>p8 hc (o:=1) rfl S0 w' (hw w' hw')⟩⟩
theorem cf7{h:Hp}{v:Value}{x:Ar}{w:World}(N:Nat→Prop)(hv:SV h v x)(hN:∀b,N b→b<w.heap.size):∃a wz w',(Instr.alloc 101 true (.tuple #[])).run prog w = .ok (.pointer (some a)) wz∧(Instr.storeAt 101 (.pointer (some a)) v).run prog wz = .ok () w'∧o6 w w'∧I4 (B8 w' N) a v:=bC7 hv hN cI1 rfl T2
theorem At.ar_v{h:Hp}{a:Addr}{x:Ar}(ha:At h a x):∃sv,SV h sv x∧(∀w,B4 h (d7 w)→(Instr.loadAt 101 (.pointer (some a))).run prog w = .ok sv w)∧(∀(S:World→Prop) (w0:World),S w0→(∀w,S w→B4 h (d7 w))→∀K f d w,B6 prog S (Instr.loadAt 101 (.pointer (some a))) K f d w=K (A7 f d sv) w):=ha.sv2 ax8 ay0 ax9 T2
theorem cL0{h:Hp}{v:Value}{x:Ar}{w:World}(hv:SV h v x)(hw:B4 h (d7 w)):∃a w',(Instr.box 101 v).run prog w = .ok (.pointer (some a)) w'∧o6 w w'∧At (d7 w') a x:=bn8 hv hw
theorem aS0{h:Hp}{v:Value}{x:Ar}{w:World}(hv:SV h v x)(hw:B4 h (d7 w)):∃a wz w',(Instr.alloc 101 true (.tuple #[])).run prog w = .ok (.pointer (some a)) wz∧(Instr.storeAt 101 (.pointer (some a)) v).run prog wz = .ok () w'∧o6 w w'∧At (d7 w') a x:=bm7 hv hw cI1 rfl T2
theorem cb3{h:Hp}{cs:List Value}{x:St}:A3.enc h cs x→∃v_labels c_x v_args v_thn v_els,cs=([.int .i64 x.id]:List Value)++([.int .i64 x.kind]:List Value)++([v_labels]:List Value)++([o7 x.name]:List Value)++([o7 x.proc]:List Value)++c_x++([.bool x.has]:List Value)++([v_args]:List Value)++([v_thn]:List Value)++([v_els]:List Value)∧R h v_labels x.labels∧A3.enc h c_x x.x∧R h v_args x.args∧R h v_thn x.thn∧R h v_els x.els:=by
 intro he;obtain⟨vl,cx,va,vt,ve,rfl,h1,h2,h3,h4,h5⟩:=aT6.1 he;exact⟨vl,cx,va,vt,ve,by simp,h1,h2,h3,h4,h5⟩
theorem At.st{h:Hp}{a:Addr}{x:St}(ha:At h a x):∃v_labels v_args v_thn v_els,R h v_labels x.labels∧R h v_args x.args∧R h v_thn x.thn∧R h v_els x.els∧At h (a.add 5) x.x∧(∀w,B4 h (d7 w)→(Instr.loadAt 3 (.pointer (some a))).run prog w = .ok (.int .i64 x.id) w∧(Instr.loadAt 3 (.pointer (some (a.add 1)))).run prog w = .ok (.int .i64 x.kind) w∧(Instr.loadAt 22 (.pointer (some (a.add 2)))).run prog w = .ok (v_labels) w∧(Instr.loadAt 9 (.pointer (some (a.add 3)))).run prog w = .ok (o7 x.name) w∧(Instr.loadAt 9 (.pointer (some (a.add 4)))).run prog w = .ok (o7 x.proc) w∧(Instr.loadAt 4 (.pointer (some (a.add 9)))).run prog w = .ok (.bool x.has) w∧(Instr.loadAt 42 (.pointer (some (a.add 10)))).run prog w = .ok (v_args) w∧(Instr.loadAt 43 (.pointer (some (a.add 11)))).run prog w = .ok (v_thn) w∧(Instr.loadAt 43 (.pointer (some (a.add 12)))).run prog w = .ok (v_els) w)∧(∀(S:World→Prop) (w0:World),S w0→(∀w,S w→B4 h (d7 w))→(∀K f d w,B6 prog S (Instr.loadAt 3 (.pointer (some a))) K f d w=K (A7 f d (.int .i64 x.id)) w)∧(∀K f d w,B6 prog S (Instr.loadAt 3 (.pointer (some (a.add 1)))) K f d w=K (A7 f d (.int .i64 x.kind)) w)∧(∀K f d w,B6 prog S (Instr.loadAt 22 (.pointer (some (a.add 2)))) K f d w=K (A7 f d (v_labels)) w)∧(∀K f d w,B6 prog S (Instr.loadAt 9 (.pointer (some (a.add 3)))) K f d w=K (A7 f d (o7 x.name)) w)∧(∀K f d w,B6 prog S (Instr.loadAt 9 (.pointer (some (a.add 4)))) K f d w=K (A7 f d (o7 x.proc)) w)∧(∀K f d w,B6 prog S (Instr.loadAt 4 (.pointer (some (a.add 9)))) K f d w=K (A7 f d (.bool x.has)) w)∧(∀K f d w,B6 prog S (Instr.loadAt 42 (.pointer (some (a.add 10)))) K f d w=K (A7 f d (v_args)) w)∧(∀K f d w,B6 prog S (Instr.loadAt 43 (.pointer (some (a.add 11)))) K f d w=K (A7 f d (v_thn)) w)∧(∀K f d w,B6 prog S (Instr.loadAt 43 (.pointer (some (a.add 12)))) K f d w=K (A7 f d (v_els)) w)):=by
 obtain⟨cs,he,hc⟩:=ha;obtain⟨v_labels,c_x,v_args,v_thn,v_els,rfl,h_labels,h_x,h_args,h_thn,h_els⟩:=cb3 he;obtain⟨a_x0,a_x1,a_x2,a_x3,rfl⟩:=bt2 (A3.len h_x);exact⟨_,_,_,_,h_labels,h_args,h_thn,h_els,bc5 hc h_x (fun j u hj=>by
  match j,hj with
  | 0,hj=>exact hj
  | 1,hj=>exact hj
  | 2,hj=>exact hj
  | 3,hj=>exact hj
  | m+4,hj=>simp at hj),fun w hw=>⟨D8 hc rfl F2 w hw,p8 hc (o:=1) rfl F2 w hw,p8 hc (o:=2) rfl M2 w hw,p8 hc (o:=3) rfl S0 w hw,p8 hc (o:=4) rfl S0 w hw,p8 hc (o:=9) rfl ah6 w hw,p8 hc (o:=10) rfl bN3 w hw,p8 hc (o:=11) rfl au6 w hw,p8 hc (o:=12) rfl au6 w hw⟩,fun S w0 hS hw=>⟨fun K f d w=>A0 hS fun w' hw'=>D8 hc rfl F2 w' (hw w' hw'),fun K f d w=>A0 hS fun w' hw'=>p8 hc (o:=1) rfl F2 w' (hw w' hw'),fun K f d w=>A0 hS fun w' hw'=>p8 hc (o:=2) rfl M2 w' (hw w' hw'),fun K f d w=>A0 hS fun w' hw'=>p8 hc (o:=3) rfl S0 w' (hw w' hw'),fun K f d w=>A0 hS fun w' hw'=>p8 hc (o:=4) rfl S0 w' (hw w' hw'),fun K f d w=>A0 hS fun w' hw'=>p8 hc (o:=9) rfl ah6 w' (hw w' hw'),fun K f d w=>A0 hS fun w' hw'=>p8 hc (o:=10) rfl bN3 w' (hw w' hw'),fun K f d w=>A0 hS fun w' hw'=>p8 hc (o:=11) rfl au6 w' (hw w' hw'),fun K f d w=>A0 hS fun w' hw'=>p8 hc (o:=12) rfl au6 w' (hw w' hw')⟩⟩
theorem I4.st{h k:Hp}{a:Addr}{v:Value}{x:St}(hv:SV h v x)(ha:I4 k a v):∃v_labels u_x v_args v_thn v_els,R h v_labels x.labels∧SV h u_x x.x∧I4 k (a.add 5) u_x∧R h v_args x.args∧R h v_thn x.thn∧R h v_els x.els∧(∀w,B4 k (d7 w)→(Instr.loadAt 3 (.pointer (some a))).run prog w = .ok (.int .i64 x.id) w∧(Instr.loadAt 3 (.pointer (some (a.add 1)))).run prog w = .ok (.int .i64 x.kind) w∧(Instr.loadAt 22 (.pointer (some (a.add 2)))).run prog w = .ok (v_labels) w∧(Instr.loadAt 9 (.pointer (some (a.add 3)))).run prog w = .ok (o7 x.name) w∧(Instr.loadAt 9 (.pointer (some (a.add 4)))).run prog w = .ok (o7 x.proc) w∧(Instr.loadAt 4 (.pointer (some (a.add 9)))).run prog w = .ok (.bool x.has) w∧(Instr.loadAt 42 (.pointer (some (a.add 10)))).run prog w = .ok (v_args) w∧(Instr.loadAt 43 (.pointer (some (a.add 11)))).run prog w = .ok (v_thn) w∧(Instr.loadAt 43 (.pointer (some (a.add 12)))).run prog w = .ok (v_els) w)∧(∀(S:World→Prop) (w0:World),S w0→(∀w,S w→B4 k (d7 w))→(∀K f d w,B6 prog S (Instr.loadAt 3 (.pointer (some a))) K f d w=K (A7 f d (.int .i64 x.id)) w)∧(∀K f d w,B6 prog S (Instr.loadAt 3 (.pointer (some (a.add 1)))) K f d w=K (A7 f d (.int .i64 x.kind)) w)∧(∀K f d w,B6 prog S (Instr.loadAt 22 (.pointer (some (a.add 2)))) K f d w=K (A7 f d (v_labels)) w)∧(∀K f d w,B6 prog S (Instr.loadAt 9 (.pointer (some (a.add 3)))) K f d w=K (A7 f d (o7 x.name)) w)∧(∀K f d w,B6 prog S (Instr.loadAt 9 (.pointer (some (a.add 4)))) K f d w=K (A7 f d (o7 x.proc)) w)∧(∀K f d w,B6 prog S (Instr.loadAt 4 (.pointer (some (a.add 9)))) K f d w=K (A7 f d (.bool x.has)) w)∧(∀K f d w,B6 prog S (Instr.loadAt 42 (.pointer (some (a.add 10)))) K f d w=K (A7 f d (v_args)) w)∧(∀K f d w,B6 prog S (Instr.loadAt 43 (.pointer (some (a.add 11)))) K f d w=K (A7 f d (v_thn)) w)∧(∀K f d w,B6 prog S (Instr.loadAt 43 (.pointer (some (a.add 12)))) K f d w=K (A7 f d (v_els)) w)):=by
 obtain⟨cs,rfl,he⟩:=hv;obtain⟨cs2,e2,hc⟩:=ha;obtain rfl:=ab2 e2;obtain⟨v_labels,c_x,v_args,v_thn,v_els,rfl,h_labels,h_x,h_args,h_thn,h_els⟩:=cb3 he;obtain⟨a_x0,a_x1,a_x2,a_x3,rfl⟩:=bt2 (A3.len h_x);exact⟨_,_,_,_,_,h_labels,⟨_,rfl,h_x⟩,be6 hc (fun j u hj=>by
  match j,hj with
  | 0,hj=>exact hj
  | 1,hj=>exact hj
  | 2,hj=>exact hj
  | 3,hj=>exact hj
  | m+4,hj=>simp at hj),h_args,h_thn,h_els,fun w hw=>⟨D8 hc rfl F2 w hw,p8 hc (o:=1) rfl F2 w hw,p8 hc (o:=2) rfl M2 w hw,p8 hc (o:=3) rfl S0 w hw,p8 hc (o:=4) rfl S0 w hw,p8 hc (o:=9) rfl ah6 w hw,p8 hc (o:=10) rfl bN3 w hw,p8 hc (o:=11) rfl au6 w hw,p8 hc (o:=12) rfl au6 w hw⟩,fun S w0 hS hw=>⟨fun K f d w=>A0 hS fun w' hw'=>D8 hc rfl F2 w' (hw w' hw'),fun K f d w=>A0 hS fun w' hw'=>p8 hc (o:=1) rfl F2 w' (hw w' hw'),fun K f d w=>A0 hS fun w' hw'=>p8 hc (o:=2) rfl M2 w' (hw w' hw'),fun K f d w=>A0 hS fun w' hw'=>p8 hc (o:=3) rfl S0 w' (hw w' hw'),fun K f d w=>A0 hS fun w' hw'=>p8 hc (o:=4) rfl S0 w' (hw w' hw'),fun K f d w=>A0 hS fun w' hw'=>p8 hc (o:=9) rfl ah6 w' (hw w' hw'),fun K f d w=>A0 hS fun w' hw'=>p8 hc (o:=10) rfl bN3 w' (hw w' hw'),fun K f d w=>A0 hS fun w' hw'=>p8 hc (o:=11) rfl au6 w' (hw w' hw'),fun K f d w=>A0 hS fun w' hw'=>p8 hc (o:=12) rfl au6 w' (hw w' hw')⟩⟩
theorem I4.st_v{h k:Hp}{a:Addr}{v:Value}{x:St}(hv:SV h v x)(ha:I4 k a v):(∀w,B4 k (d7 w)→(Instr.loadAt 45 (.pointer (some a))).run prog w = .ok v w)∧(∀(S:World→Prop) (w0:World),S w0→(∀w,S w→B4 k (d7 w))→∀K f d w,B6 prog S (Instr.loadAt 45 (.pointer (some a))) K f d w=K (A7 f d v) w):=ha.whole hv aR4 aR7 aI9 W9
theorem ca0{h:Hp}{v:Value}{x:St}{w:World}(N:Nat→Prop)(hv:SV h v x)(hN:∀b,N b→b<w.heap.size):∃a w',(Instr.box 45 v).run prog w = .ok (.pointer (some a)) w'∧o6 w w'∧I4 (B8 w' N) a v:=ch8 hv hN
theorem cV7{h:Hp}{v:Value}{x:St}{w:World}(N:Nat→Prop)(hv:SV h v x)(hN:∀b,N b→b<w.heap.size):∃a wz w',(Instr.alloc 45 true (.tuple #[])).run prog w = .ok (.pointer (some a)) wz∧(Instr.storeAt 45 (.pointer (some a)) v).run prog wz = .ok () w'∧o6 w w'∧I4 (B8 w' N) a v:=bC7 hv hN cf3 rfl W9
theorem At.st_v{h:Hp}{a:Addr}{x:St}(ha:At h a x):∃sv,SV h sv x∧(∀w,B4 h (d7 w)→(Instr.loadAt 45 (.pointer (some a))).run prog w = .ok sv w)∧(∀(S:World→Prop) (w0:World),S w0→(∀w,S w→B4 h (d7 w))→∀K f d w,B6 prog S (Instr.loadAt 45 (.pointer (some a))) K f d w=K (A7 f d sv) w):=ha.sv2 aR4 aR7 aI9 W9
theorem aj6{h:Hp}{v:Value}{x:St}{w:World}(hv:SV h v x)(hw:B4 h (d7 w)):∃a w',(Instr.box 45 v).run prog w = .ok (.pointer (some a)) w'∧o6 w w'∧At (d7 w') a x:=bn8 hv hw
theorem aS1{h:Hp}{v:Value}{x:St}{w:World}(hv:SV h v x)(hw:B4 h (d7 w)):∃a wz w',(Instr.alloc 45 true (.tuple #[])).run prog w = .ok (.pointer (some a)) wz∧(Instr.storeAt 45 (.pointer (some a)) v).run prog wz = .ok () w'∧o6 w w'∧At (d7 w') a x:=bm7 hv hw cf3 rfl W9
theorem cb2{h:Hp}{cs:List Value}{x:Pr}:A3.enc h cs x→∃v_params v_vars v_body v_fin,cs=([o7 x.name]:List Value)++([v_params]:List Value)++([v_vars]:List Value)++([v_body]:List Value)++([v_fin]:List Value)∧R h v_params x.params∧R h v_vars x.vars∧R h v_body x.body∧R h v_fin x.fin:=by
 rintro⟨v1,v2,v3,v4,rfl,h1,h2,h3,h4⟩;exact⟨v1,v2,v3,v4,rfl,h1,h2,h3,h4⟩
theorem At.pr{h:Hp}{a:Addr}{x:Pr}(ha:At h a x):∃v_params v_vars v_body v_fin,R h v_params x.params∧R h v_vars x.vars∧R h v_body x.body∧R h v_fin x.fin∧(∀w,B4 h (d7 w)→(Instr.loadAt 9 (.pointer (some a))).run prog w = .ok (o7 x.name) w∧(Instr.loadAt 49 (.pointer (some (a.add 1)))).run prog w = .ok (v_params) w∧(Instr.loadAt 22 (.pointer (some (a.add 2)))).run prog w = .ok (v_vars) w∧(Instr.loadAt 43 (.pointer (some (a.add 3)))).run prog w = .ok (v_body) w∧(Instr.loadAt 22 (.pointer (some (a.add 4)))).run prog w = .ok (v_fin) w)∧(∀(S:World→Prop) (w0:World),S w0→(∀w,S w→B4 h (d7 w))→(∀K f d w,B6 prog S (Instr.loadAt 9 (.pointer (some a))) K f d w=K (A7 f d (o7 x.name)) w)∧(∀K f d w,B6 prog S (Instr.loadAt 49 (.pointer (some (a.add 1)))) K f d w=K (A7 f d (v_params)) w)∧(∀K f d w,B6 prog S (Instr.loadAt 22 (.pointer (some (a.add 2)))) K f d w=K (A7 f d (v_vars)) w)∧(∀K f d w,B6 prog S (Instr.loadAt 43 (.pointer (some (a.add 3)))) K f d w=K (A7 f d (v_body)) w)∧(∀K f d w,B6 prog S (Instr.loadAt 22 (.pointer (some (a.add 4)))) K f d w=K (A7 f d (v_fin)) w)):=by
 obtain⟨cs,he,hc⟩:=ha;obtain⟨v_params,v_vars,v_body,v_fin,rfl,h_params,h_vars,h_body,h_fin⟩:=cb2 he;exact⟨_,_,_,_,h_params,h_vars,h_body,h_fin,fun w hw=>⟨D8 hc rfl S0 w hw,p8 hc (o:=1) rfl bN4 w hw,p8 hc (o:=2) rfl M2 w hw,p8 hc (o:=3) rfl au6 w hw,p8 hc (o:=4) rfl M2 w hw⟩,fun S w0 hS hw=>⟨fun K f d w=>A0 hS fun w' hw'=>D8 hc rfl S0 w' (hw w' hw'),fun K f d w=>A0 hS fun w' hw'=>p8 hc (o:=1) rfl bN4 w' (hw w' hw'),fun K f d w=>A0 hS fun w' hw'=>p8 hc (o:=2) rfl M2 w' (hw w' hw'),fun K f d w=>A0 hS fun w' hw'=>p8 hc (o:=3) rfl au6 w' (hw w' hw'),fun K f d w=>A0 hS fun w' hw'=>p8 hc (o:=4) rfl M2 w' (hw w' hw')⟩⟩
theorem I4.pr{h k:Hp}{a:Addr}{v:Value}{x:Pr}(hv:SV h v x)(ha:I4 k a v):∃v_params v_vars v_body v_fin,R h v_params x.params∧R h v_vars x.vars∧R h v_body x.body∧R h v_fin x.fin∧(∀w,B4 k (d7 w)→(Instr.loadAt 9 (.pointer (some a))).run prog w = .ok (o7 x.name) w∧(Instr.loadAt 49 (.pointer (some (a.add 1)))).run prog w = .ok (v_params) w∧(Instr.loadAt 22 (.pointer (some (a.add 2)))).run prog w = .ok (v_vars) w∧(Instr.loadAt 43 (.pointer (some (a.add 3)))).run prog w = .ok (v_body) w∧(Instr.loadAt 22 (.pointer (some (a.add 4)))).run prog w = .ok (v_fin) w)∧(∀(S:World→Prop) (w0:World),S w0→(∀w,S w→B4 k (d7 w))→(∀K f d w,B6 prog S (Instr.loadAt 9 (.pointer (some a))) K f d w=K (A7 f d (o7 x.name)) w)∧(∀K f d w,B6 prog S (Instr.loadAt 49 (.pointer (some (a.add 1)))) K f d w=K (A7 f d (v_params)) w)∧(∀K f d w,B6 prog S (Instr.loadAt 22 (.pointer (some (a.add 2)))) K f d w=K (A7 f d (v_vars)) w)∧(∀K f d w,B6 prog S (Instr.loadAt 43 (.pointer (some (a.add 3)))) K f d w=K (A7 f d (v_body)) w)∧(∀K f d w,B6 prog S (Instr.loadAt 22 (.pointer (some (a.add 4)))) K f d w=K (A7 f d (v_fin)) w)):=by
 obtain⟨cs,rfl,he⟩:=hv;obtain⟨cs2,e2,hc⟩:=ha;obtain rfl:=ab2 e2;obtain⟨v_params,v_vars,v_body,v_fin,rfl,h_params,h_vars,h_body,h_fin⟩:=cb2 he;exact⟨_,_,_,_,h_params,h_vars,h_body,h_fin,fun w hw=>⟨D8 hc rfl S0 w hw,p8 hc (o:=1) rfl bN4 w hw,p8 hc (o:=2) rfl M2 w hw,p8 hc (o:=3) rfl au6 w hw,p8 hc (o:=4) rfl M2 w hw⟩,fun S w0 hS hw=>⟨fun K f d w=>A0 hS fun w' hw'=>D8 hc rfl S0 w' (hw w' hw'),fun K f d w=>A0 hS fun w' hw'=>p8 hc (o:=1) rfl bN4 w' (hw w' hw'),fun K f d w=>A0 hS fun w' hw'=>p8 hc (o:=2) rfl M2 w' (hw w' hw'),fun K f d w=>A0 hS fun w' hw'=>p8 hc (o:=3) rfl au6 w' (hw w' hw'),fun K f d w=>A0 hS fun w' hw'=>p8 hc (o:=4) rfl M2 w' (hw w' hw')⟩⟩
theorem I4.pr_v{h k:Hp}{a:Addr}{v:Value}{x:Pr}(hv:SV h v x)(ha:I4 k a v):(∀w,B4 k (d7 w)→(Instr.loadAt 51 (.pointer (some a))).run prog w = .ok v w)∧(∀(S:World→Prop) (w0:World),S w0→(∀w,S w→B4 k (d7 w))→∀K f d w,B6 prog S (Instr.loadAt 51 (.pointer (some a))) K f d w=K (A7 f d v) w):=ha.whole hv aj1 aj3 aj2 N0
theorem bZ9{h:Hp}{v:Value}{x:Pr}{w:World}(N:Nat→Prop)(hv:SV h v x)(hN:∀b,N b→b<w.heap.size):∃a w',(Instr.box 51 v).run prog w = .ok (.pointer (some a)) w'∧o6 w w'∧I4 (B8 w' N) a v:=ch8 hv hN
theorem aH0{h:Hp}{v:Value}{x:Pr}{w:World}(N:Nat→Prop)(hv:SV h v x)(hN:∀b,N b→b<w.heap.size):∃a wz w',(Instr.alloc 51 true (.tuple #[])).run prog w = .ok (.pointer (some a)) wz∧(Instr.storeAt 51 (.pointer (some a)) v).run prog wz = .ok () w'∧o6 w w'∧I4 (B8 w' N) a v:=bC7 hv hN cI7 rfl N0
theorem bc8{h:Hp}{v:Value}{x:Pr}{w:World}(hv:SV h v x)(hw:B4 h (d7 w)):∃a w',(Instr.box 51 v).run prog w = .ok (.pointer (some a)) w'∧o6 w w'∧At (d7 w') a x:=bn8 hv hw
theorem aG8{h:Hp}{v:Value}{x:Pr}{w:World}(hv:SV h v x)(hw:B4 h (d7 w)):∃a wz w',(Instr.alloc 51 true (.tuple #[])).run prog w = .ok (.pointer (some a)) wz∧(Instr.storeAt 51 (.pointer (some a)) v).run prog wz = .ok () w'∧o6 w w'∧At (d7 w') a x:=bm7 hv hw cI7 rfl N0
theorem by3{h:Hp}{cs:List Value}{x:Pg}:A3.enc h cs x→∃v_globals v_procs,cs=([v_globals]:List Value)++([v_procs]:List Value)∧R h v_globals x.globals∧R h v_procs x.procs:=by
 rintro⟨v1,v2,rfl,h1,h2⟩;exact⟨v1,v2,rfl,h1,h2⟩
theorem At.pg{h:Hp}{a:Addr}{x:Pg}(ha:At h a x):∃v_globals v_procs,R h v_globals x.globals∧R h v_procs x.procs∧(∀w,B4 h (d7 w)→(Instr.loadAt 22 (.pointer (some a))).run prog w = .ok (v_globals) w∧(Instr.loadAt 23 (.pointer (some (a.add 1)))).run prog w = .ok (v_procs) w)∧(∀(S:World→Prop) (w0:World),S w0→(∀w,S w→B4 h (d7 w))→(∀K f d w,B6 prog S (Instr.loadAt 22 (.pointer (some a))) K f d w=K (A7 f d (v_globals)) w)∧(∀K f d w,B6 prog S (Instr.loadAt 23 (.pointer (some (a.add 1)))) K f d w=K (A7 f d (v_procs)) w)):=by
 obtain⟨cs,he,hc⟩:=ha;obtain⟨v_globals,v_procs,rfl,h_globals,h_procs⟩:=by3 he;exact⟨_,_,h_globals,h_procs,fun w hw=>⟨D8 hc rfl M2 w hw,p8 hc (o:=1) rfl bv4 w hw⟩,fun S w0 hS hw=>⟨fun K f d w=>A0 hS fun w' hw'=>D8 hc rfl M2 w' (hw w' hw'),fun K f d w=>A0 hS fun w' hw'=>p8 hc (o:=1) rfl bv4 w' (hw w' hw')⟩⟩
theorem I4.pg{h k:Hp}{a:Addr}{v:Value}{x:Pg}(hv:SV h v x)(ha:I4 k a v):∃v_globals v_procs,R h v_globals x.globals∧R h v_procs x.procs∧(∀w,B4 k (d7 w)→(Instr.loadAt 22 (.pointer (some a))).run prog w = .ok (v_globals) w∧(Instr.loadAt 23 (.pointer (some (a.add 1)))).run prog w = .ok (v_procs) w)∧(∀(S:World→Prop) (w0:World),S w0→(∀w,S w→B4 k (d7 w))→(∀K f d w,B6 prog S (Instr.loadAt 22 (.pointer (some a))) K f d w=K (A7 f d (v_globals)) w)∧(∀K f d w,B6 prog S (Instr.loadAt 23 (.pointer (some (a.add 1)))) K f d w=K (A7 f d (v_procs)) w)):=by
 obtain⟨cs,rfl,he⟩:=hv;obtain⟨cs2,e2,hc⟩:=ha;obtain rfl:=ab2 e2;obtain⟨v_globals,v_procs,rfl,h_globals,h_procs⟩:=by3 he;exact⟨_,_,h_globals,h_procs,fun w hw=>⟨D8 hc rfl M2 w hw,p8 hc (o:=1) rfl bv4 w hw⟩,fun S w0 hS hw=>⟨fun K f d w=>A0 hS fun w' hw'=>D8 hc rfl M2 w' (hw w' hw'),fun K f d w=>A0 hS fun w' hw'=>p8 hc (o:=1) rfl bv4 w' (hw w' hw')⟩⟩
theorem I4.pg_v{h k:Hp}{a:Addr}{v:Value}{x:Pg}(hv:SV h v x)(ha:I4 k a v):(∀w,B4 k (d7 w)→(Instr.loadAt 25 (.pointer (some a))).run prog w = .ok v w)∧(∀(S:World→Prop) (w0:World),S w0→(∀w,S w→B4 k (d7 w))→∀K f d w,B6 prog S (Instr.loadAt 25 (.pointer (some a))) K f d w=K (A7 f d v) w):=ha.whole hv ce5 cf2 ce7 bv6
theorem V2{h:Hp}{v:Value}{x:Pg}{w:World}(N:Nat→Prop)(hv:SV h v x)(hN:∀b,N b→b<w.heap.size):∃a w',(Instr.box 25 v).run prog w = .ok (.pointer (some a)) w'∧o6 w w'∧I4 (B8 w' N) a v:=ch8 hv hN
theorem At.pg_v{h:Hp}{a:Addr}{x:Pg}(ha:At h a x):∃sv,SV h sv x∧(∀w,B4 h (d7 w)→(Instr.loadAt 25 (.pointer (some a))).run prog w = .ok sv w)∧(∀(S:World→Prop) (w0:World),S w0→(∀w,S w→B4 h (d7 w))→∀K f d w,B6 prog S (Instr.loadAt 25 (.pointer (some a))) K f d w=K (A7 f d sv) w):=ha.sv2 ce5 cf2 ce7 bv6
theorem R3{h:Hp}{v:Value}{x:Pg}{w:World}(hv:SV h v x)(hw:B4 h (d7 w)):∃a w',(Instr.box 25 v).run prog w = .ok (.pointer (some a)) w'∧o6 w w'∧At (d7 w') a x:=bn8 hv hw
theorem cV3{h:Hp}{v:Value}{x:Pg}{w:World}(hv:SV h v x)(hw:B4 h (d7 w)):∃a wz w',(Instr.alloc 25 true (.tuple #[])).run prog w = .ok (.pointer (some a)) wz∧(Instr.storeAt 25 (.pointer (some a)) v).run prog wz = .ok () w'∧o6 w w'∧At (d7 w') a x:=bm7 hv hw da9 rfl bv6
theorem aF0{h:Hp}{cs:List Value}{x:It}:A3.enc h cs x→∃c_s,cs=c_s++([.int .i64 x.proc]:List Value)++([.int .i64 x.up]:List Value)++([.int .i64 x.next]:List Value)++([.int .i64 x.loop]:List Value)∧A3.enc h c_s x.s:=by
 rintro⟨c,rfl,h1⟩;exact⟨c,by simp,h1⟩
theorem At.it{h:Hp}{a:Addr}{x:It}(ha:At h a x):At h a x.s∧(∀w,B4 h (d7 w)→(Instr.loadAt 3 (.pointer (some (a.add 13)))).run prog w = .ok (.int .i64 x.proc) w∧(Instr.loadAt 3 (.pointer (some (a.add 14)))).run prog w = .ok (.int .i64 x.up) w∧(Instr.loadAt 3 (.pointer (some (a.add 15)))).run prog w = .ok (.int .i64 x.next) w∧(Instr.loadAt 3 (.pointer (some (a.add 16)))).run prog w = .ok (.int .i64 x.loop) w)∧(∀(S:World→Prop) (w0:World),S w0→(∀w,S w→B4 h (d7 w))→(∀K f d w,B6 prog S (Instr.loadAt 3 (.pointer (some (a.add 13)))) K f d w=K (A7 f d (.int .i64 x.proc)) w)∧(∀K f d w,B6 prog S (Instr.loadAt 3 (.pointer (some (a.add 14)))) K f d w=K (A7 f d (.int .i64 x.up)) w)∧(∀K f d w,B6 prog S (Instr.loadAt 3 (.pointer (some (a.add 15)))) K f d w=K (A7 f d (.int .i64 x.next)) w)∧(∀K f d w,B6 prog S (Instr.loadAt 3 (.pointer (some (a.add 16)))) K f d w=K (A7 f d (.int .i64 x.loop)) w)):=by
 obtain⟨cs,he,hc⟩:=ha;obtain⟨c_s,rfl,h_s⟩:=aF0 he;obtain⟨a_s0,a_s1,a_s2,a_s3,a_s4,a_s5,a_s6,a_s7,a_s8,a_s9,a_s10,a_s11,a_s12,rfl⟩:=aC7 (A3.len h_s);exact⟨aM8 hc h_s (fun j u hj=>by
  match j,hj with
  | 0,hj=>exact hj
  | 1,hj=>exact hj
  | 2,hj=>exact hj
  | 3,hj=>exact hj
  | 4,hj=>exact hj
  | 5,hj=>exact hj
  | 6,hj=>exact hj
  | 7,hj=>exact hj
  | 8,hj=>exact hj
  | 9,hj=>exact hj
  | 10,hj=>exact hj
  | 11,hj=>exact hj
  | 12,hj=>exact hj
  | m+13,hj=>simp at hj),fun w hw=>⟨p8 hc (o:=13) rfl F2 w hw,p8 hc (o:=14) rfl F2 w hw,p8 hc (o:=15) rfl F2 w hw,p8 hc (o:=16) rfl F2 w hw⟩,fun S w0 hS hw=>⟨fun K f d w=>A0 hS fun w' hw'=>p8 hc (o:=13) rfl F2 w' (hw w' hw'),fun K f d w=>A0 hS fun w' hw'=>p8 hc (o:=14) rfl F2 w' (hw w' hw'),fun K f d w=>A0 hS fun w' hw'=>p8 hc (o:=15) rfl F2 w' (hw w' hw'),fun K f d w=>A0 hS fun w' hw'=>p8 hc (o:=16) rfl F2 w' (hw w' hw')⟩⟩
theorem I4.it{h k:Hp}{a:Addr}{v:Value}{x:It}(hv:SV h v x)(ha:I4 k a v):∃u_s,SV h u_s x.s∧I4 k a u_s∧(∀w,B4 k (d7 w)→(Instr.loadAt 3 (.pointer (some (a.add 13)))).run prog w = .ok (.int .i64 x.proc) w∧(Instr.loadAt 3 (.pointer (some (a.add 14)))).run prog w = .ok (.int .i64 x.up) w∧(Instr.loadAt 3 (.pointer (some (a.add 15)))).run prog w = .ok (.int .i64 x.next) w∧(Instr.loadAt 3 (.pointer (some (a.add 16)))).run prog w = .ok (.int .i64 x.loop) w)∧(∀(S:World→Prop) (w0:World),S w0→(∀w,S w→B4 k (d7 w))→(∀K f d w,B6 prog S (Instr.loadAt 3 (.pointer (some (a.add 13)))) K f d w=K (A7 f d (.int .i64 x.proc)) w)∧(∀K f d w,B6 prog S (Instr.loadAt 3 (.pointer (some (a.add 14)))) K f d w=K (A7 f d (.int .i64 x.up)) w)∧(∀K f d w,B6 prog S (Instr.loadAt 3 (.pointer (some (a.add 15)))) K f d w=K (A7 f d (.int .i64 x.next)) w)∧(∀K f d w,B6 prog S (Instr.loadAt 3 (.pointer (some (a.add 16)))) K f d w=K (A7 f d (.int .i64 x.loop)) w)):=by
 obtain⟨cs,rfl,he⟩:=hv;obtain⟨cs2,e2,hc⟩:=ha;obtain rfl:=ab2 e2;obtain⟨c_s,rfl,h_s⟩:=aF0 he;obtain⟨a_s0,a_s1,a_s2,a_s3,a_s4,a_s5,a_s6,a_s7,a_s8,a_s9,a_s10,a_s11,a_s12,rfl⟩:=aC7 (A3.len h_s);exact⟨_,⟨_,rfl,h_s⟩,bq0 hc (fun j u hj=>by
  match j,hj with
  | 0,hj=>exact hj
  | 1,hj=>exact hj
  | 2,hj=>exact hj
  | 3,hj=>exact hj
  | 4,hj=>exact hj
  | 5,hj=>exact hj
  | 6,hj=>exact hj
  | 7,hj=>exact hj
  | 8,hj=>exact hj
  | 9,hj=>exact hj
  | 10,hj=>exact hj
  | 11,hj=>exact hj
  | 12,hj=>exact hj
  | m+13,hj=>simp at hj),fun w hw=>⟨p8 hc (o:=13) rfl F2 w hw,p8 hc (o:=14) rfl F2 w hw,p8 hc (o:=15) rfl F2 w hw,p8 hc (o:=16) rfl F2 w hw⟩,fun S w0 hS hw=>⟨fun K f d w=>A0 hS fun w' hw'=>p8 hc (o:=13) rfl F2 w' (hw w' hw'),fun K f d w=>A0 hS fun w' hw'=>p8 hc (o:=14) rfl F2 w' (hw w' hw'),fun K f d w=>A0 hS fun w' hw'=>p8 hc (o:=15) rfl F2 w' (hw w' hw'),fun K f d w=>A0 hS fun w' hw'=>p8 hc (o:=16) rfl F2 w' (hw w' hw')⟩⟩
theorem I4.it_v{h k:Hp}{a:Addr}{v:Value}{x:It}(hv:SV h v x)(ha:I4 k a v):(∀w,B4 k (d7 w)→(Instr.loadAt 121 (.pointer (some a))).run prog w = .ok v w)∧(∀(S:World→Prop) (w0:World),S w0→(∀w,S w→B4 k (d7 w))→∀K f d w,B6 prog S (Instr.loadAt 121 (.pointer (some a))) K f d w=K (A7 f d v) w):=ha.whole hv X7 X9 X8 I6
theorem cL1{h:Hp}{v:Value}{x:It}{w:World}(N:Nat→Prop)(hv:SV h v x)(hN:∀b,N b→b<w.heap.size):∃a w',(Instr.box 121 v).run prog w = .ok (.pointer (some a)) w'∧o6 w w'∧I4 (B8 w' N) a v:=ch8 hv hN
theorem aG9{h:Hp}{v:Value}{x:It}{w:World}(N:Nat→Prop)(hv:SV h v x)(hN:∀b,N b→b<w.heap.size):∃a wz w',(Instr.alloc 121 true (.tuple #[])).run prog w = .ok (.pointer (some a)) wz∧(Instr.storeAt 121 (.pointer (some a)) v).run prog wz = .ok () w'∧o6 w w'∧I4 (B8 w' N) a v:=bC7 hv hN bX8 rfl I6
theorem bZ6{h:Hp}{v:Value}{x:It}{w:World}(hv:SV h v x)(hw:B4 h (d7 w)):∃a w',(Instr.box 121 v).run prog w = .ok (.pointer (some a)) w'∧o6 w w'∧At (d7 w') a x:=bn8 hv hw
theorem ay3{h:Hp}{v:Value}{x:It}{w:World}(hv:SV h v x)(hw:B4 h (d7 w)):∃a wz w',(Instr.alloc 121 true (.tuple #[])).run prog w = .ok (.pointer (some a)) wz∧(Instr.storeAt 121 (.pointer (some a)) v).run prog wz = .ok () w'∧o6 w w'∧At (d7 w') a x:=bm7 hv hw bX8 rfl I6
theorem cM7{h:Hp}{cs:List Value}{x:Sh}:A3.enc h cs x→∃c_p v_l v_lo v_hi,cs=c_p++([v_l]:List Value)++([v_lo]:List Value)++([v_hi]:List Value)∧A3.enc h c_p x.p∧R h v_l x.l∧R h v_lo x.lo∧R h v_hi x.hi:=by
 rintro⟨c,v1,v2,v3,rfl,h1,h2,h3,h4⟩;exact⟨c,v1,v2,v3,by simp,h1,h2,h3,h4⟩
theorem At.sh{h:Hp}{a:Addr}{x:Sh}(ha:At h a x):∃v_l v_lo v_hi,R h v_l x.l∧R h v_lo x.lo∧R h v_hi x.hi∧At h a x.p∧(∀w,B4 h (d7 w)→(Instr.loadAt 111 (.pointer (some (a.add 2)))).run prog w = .ok (v_l) w∧(Instr.loadAt 112 (.pointer (some (a.add 3)))).run prog w = .ok (v_lo) w∧(Instr.loadAt 112 (.pointer (some (a.add 4)))).run prog w = .ok (v_hi) w)∧(∀(S:World→Prop) (w0:World),S w0→(∀w,S w→B4 h (d7 w))→(∀K f d w,B6 prog S (Instr.loadAt 111 (.pointer (some (a.add 2)))) K f d w=K (A7 f d (v_l)) w)∧(∀K f d w,B6 prog S (Instr.loadAt 112 (.pointer (some (a.add 3)))) K f d w=K (A7 f d (v_lo)) w)∧(∀K f d w,B6 prog S (Instr.loadAt 112 (.pointer (some (a.add 4)))) K f d w=K (A7 f d (v_hi)) w)):=by
 obtain⟨cs,he,hc⟩:=ha;obtain⟨c_p,v_l,v_lo,v_hi,rfl,h_p,h_l,h_lo,h_hi⟩:=cM7 he;obtain⟨a_p0,a_p1,rfl⟩:=dG9 (A3.len h_p);exact⟨_,_,_,h_l,h_lo,h_hi,aM8 hc h_p (fun j u hj=>by
  match j,hj with
  | 0,hj=>exact hj
  | 1,hj=>exact hj
  | m+2,hj=>simp at hj),fun w hw=>⟨p8 hc (o:=2) rfl aL6 w hw,p8 hc (o:=3) rfl O2 w hw,p8 hc (o:=4) rfl O2 w hw⟩,fun S w0 hS hw=>⟨fun K f d w=>A0 hS fun w' hw'=>p8 hc (o:=2) rfl aL6 w' (hw w' hw'),fun K f d w=>A0 hS fun w' hw'=>p8 hc (o:=3) rfl O2 w' (hw w' hw'),fun K f d w=>A0 hS fun w' hw'=>p8 hc (o:=4) rfl O2 w' (hw w' hw')⟩⟩
section
variable {P:Program} {w:World} {h:Hp} {t T sz by_:Nat} {v:Value}
theorem ao0{α:Type}[A3 α]{e:TypeId}(hs:E8 P t T sz by_=true)(hsz:A3.sz α=sz){xs ys:List α}(ho:A9 h w T v xs){u:Value}(hu:R h u ys)
  (hl:xs.length+ys.length≤1000000000000) (hb:(xs.length+ys.length)*by_≤140737488355328) (hw:B4 h (d7 w)) :
  ∃v' w',(Builtin.append_ #[t,t] e #[v,u]).run P w = .ok v' w'∧A9 h w' T v' (xs++ys)∧o9 (A4 v) w w'∧E0 w v v':=by
 obtain⟨h1,⟨z,hz,hzs⟩,h3,h4,h5,h6⟩:=P2 hs;obtain⟨i,hi,hiz⟩:=p9 hz;have hby:i.bytes=by_:=by rw[←h4,as1 hi]
 have hsi:i.size=sz:=by rw[←h3,C8 hi]
 obtain⟨a,n,c,he,hn,hnc,es,hes,hce⟩:=hu;simp at he;subst he;have ht:=J7 h1;by_cases hy:ys=[]
 ·subst hy;refine⟨v,w,?_,by simpa using ho,o9.refl _,fun b hb=>.inl hb⟩;have hn0:n=0:=by simpa using hn
  subst hn0;rcases ho with⟨rfl,rfl⟩|⟨b,c',cur,rfl,k1,k2,k3,k4,k5,k6⟩
  ·cases a<;>simp[Builtin.append_,run_underlying ht,sizeOf,typeInfo,hi,Builtin.lenOf,Builtin.firstCells,loadCells,loadCellsFrom]
  ·cases a<;>simp[Builtin.append_,run_underlying ht,sizeOf,typeInfo,hi,Builtin.lenOf,Builtin.firstCells,loadCells,loadCellsFrom,k3,storeCells]
 ·have hne:es≠[]:=by
   intro e;have:=J8 hes;rw[e]at this;have hp:0<ys.length:=List.length_pos_iff.2 hy;have:=A3.pos (α:=α);have:=Nat.mul_pos hp this;simp at *;omega
  obtain⟨x0,hx0⟩:∃x0,es[0]?=some x0:=by
   cases es with
   | nil=>exact absurd rfl hne
   | cons x _=>exact⟨x,rfl⟩
  obtain⟨ad,rfl,_⟩:=hce 0 x0 hx0;exact aK7 (e:=e) ht hi hiz (by rw[hsi,hsz]) (by rw[hzs,hsi]) ho (ad:=ad) hn hes (fun j u hj=>by
   obtain⟨ad',e',hc⟩:=hce j u hj;obtain rfl:=ey4 e';exact F8 hw hc) hy (by simp only[maxLen];omega) (by rw[hby];exact hb) hw
theorem dH0{α:Type}[A3 α](hs:E8 P t T sz by_=true)(hw:B4 h (d7 w)):
  ∃v w',(Instr.buildSlice t 0 #[]).run P w = .ok v w'∧A9 h w' T v ([]:List α)∧o6 w w'∧(∀b,A4 v b→w.heap.size≤b):=by
 obtain⟨h1,⟨z,hz,hzs⟩,h3,h4,h5,h6⟩:=P2 hs;obtain⟨i,hi,hiz⟩:=p9 hz;refine⟨.slice (some ⟨w.heap.size,0,none⟩) 0 0,w.alloc (.cells #[] T),?_,.inr ⟨w.heap.size,0,#[],rfl,aw0 hw (ex9 _),eA5 w _,by simp,by simp,by simp,by simp[M7]⟩,o6.alloc _ _,fun b hb=>by simp[A4,Value.ownBlock]at hb;omega⟩;unfold Instr.buildSlice;simp only[ey8,F3,J7 h1,ey0,M8 (show(P.info? T).isSome=true by rw[hi];rfl),Sem.run_ite,Nat.zero_mul,eA0];rw[if_neg (by decide),if_pos trivial];have e0:∀(g:Nat→Value),(Array.range 0).map g=#[]:=fun g=>by simp
 simp only[e0,Instr.fill];rfl
end
section
variable {P:Program} {h k:Hp} {w:World} {t T sz by_:Nat} {v u:Value}
theorem ah4{α:Type}[I7 α]{e:TypeId}(hs:E8 P t T 1 by_=true){xs ys:List α}(ho:A9 h w T v xs)(hu:R k u ys)(hk:B4 k (d7 w))(h63:xs.length+ys.length≤1000000000000)(hb:(xs.length+ys.length)*by_≤140737488355328)(hw:B4 h (d7 w)):
  ∃v' w',(Builtin.append_ #[t,t] e #[v,u]).run P w = .ok v' w'∧A9 h w' T v' (xs++ys)∧o9 (A4 v) w w'∧E0 w v v':=by
 obtain⟨h1,⟨z,hz,hzs⟩,h3,h4,h5,h6⟩:=P2 hs;obtain⟨i,hi,hiz⟩:=p9 hz;have hby:i.bytes=by_:=by rw[←h4,as1 hi]
 have hsi:i.size=1:=by rw[←h3,C8 hi]
 by_cases hy:ys=[]
 ·subst hy;obtain⟨a,n,c,he,hn,hnc,es,hes,hce⟩:=hu;have hu':R h u ([]:List α):=⟨a,n,c,he,hn,hnc,[],rfl,fun j u hj=>by simp at hj⟩;exact ao0 hs rfl ho hu' h63 hb hw
 ·obtain⟨a,n,c,he,hn,hnc,es,hes,hce⟩:=hu;simp at he;subst he;have hne:es≠[]:=by
   intro e;have:=J8 hes;rw[e]at this;have hp:0<ys.length:=List.length_pos_iff.2 hy;have h7:(A3.sz α)=1:=rfl;rw[h7]at this;simp at this;omega
  obtain⟨x0,hx0⟩:∃x0,es[0]?=some x0:=by
   cases es with
   | nil=>exact absurd rfl hne
   | cons x _=>exact⟨x,rfl⟩
  obtain⟨ad,rfl,_⟩:=hce 0 x0 hx0;exact aK7 (e:=e) (J7 h1) hi hiz (by rw[hsi];rfl) (by rw[hzs,hsi]) ho (ad:=ad) hn (aT7 hes) (fun j u hj=>by
   obtain⟨ad',e',hc⟩:=hce j u hj;obtain rfl:=ey4 e';exact F8 hk hc) hy (by simp only[maxLen];omega) (by rw[hby];exact hb) hw
end
section
variable {P:Program} {K:Fr→World→Prop} {f:Fr} {w:World} {d:Option Nat} {ty:TypeId} {pos:String} {aft:Array Edge} {S:World→Prop}
def be8(P:Program)(g:Value)(args:List Value)(w:World)(K:Fr→World→Prop)(f:Fr)(d:Option Nat):Prop:=match g with
 | .func (.func k) first cap=>ar5 P k (first.toList++args++cap.toList) w K f d
 | _=>False
theorem dE5{k:Nat}{first cap:Array Value}{args:List Value}:be8 P (.func (.func k) first cap) args w K f d=ar5 P k (first.toList++args++cap.toList) w K f d:=propext eD5
theorem dI0{j:Nat}{asz:Array Operand}{ts:Array TypeId}:B1 P none ⟨d,.call {callee:=.value (.tmp j),args:=asz,argTypes:=ts},ty,pos,aft,none⟩ K f w=be8 P (f j) (asz.toList.map (ev f)) w K f d:=by
 simp only[B1,ao1,V6,aS5,ev,aI4,be8]
 all_goals (generalize f j=g;cases g<;>try rfl)
theorem dH7{j:Nat}{asz:Array Operand}{ts:Array TypeId}:B1 P (some S) ⟨d,.call {callee:=.value (.tmp j),args:=asz,argTypes:=ts},ty,pos,aft,none⟩ K f w=be8 P (f j) (asz.toList.map (ev f)) w (F6 S K) f d:=by
 simp only[B1,ao1,V6,aS5,ev,aI4,be8]
 all_goals (generalize f j=g;cases g<;>try rfl)
end
theorem dE8{P:Program}{b d:Code}{Q:Exit→Fr→World→Prop}{f:Fr}{w:World}(keep:List Nat)(I:Fr→World→Prop)(hkp:keep.all (fun i=>!(wrC b).contains i)=true)
  (h1:CW P b (W8 I Q) f w) (h2:∀f' w',(∀i∈keep,f' i=f i)→I f' w'→CW P d Q f' w'):CW P (.seq b d) Q f w:=by
 rw[bd9];refine cp2 b (W8 I Q) _ f w (fun e f' w' hf h=>?_) h1;have hk':∀i∈keep,f' i=f i:=fun i hi=>hf i fun hm=>by
  have:=eI4.1 hkp i hi;simp[hm]at this
 cases e
 case normal=>exact h2 f' w' hk' h
 all_goals exact h
def aw3(c:UInt8):Bool:=decide (97≤c.toNat)&&decide (c.toNat≤122)
def by1(c:UInt8):Bool:=decide (48≤c.toNat)&&decide (c.toNat≤57)
def Z1(c:UInt8):Bool:=aw3 c||by1 c
def bY1:List A6:=[ofA #[103,108,111,98,97,108],ofA #[112,114,111,99],ofA #[118,97,114],ofA #[114,101,102],ofA #[105,102],ofA #[101,108,115,101],ofA #[119,104,105,108,101],ofA #[98,114,101,97,107],ofA #[99,111,110,116,105,110,117,101],ofA #[114,101,116,117,114,110],ofA #[103,111,116,111],ofA #[114,101,97,100],ofA #[112,114,105,110,116]]
def bO4(s:A6):Bool:=bY1.contains s
def Y4(s:A6):Bool:=match s.b with
 | []=>false
 | c::l=>decide (l.length<8)&&aw3 c&&l.all Z1 && !bO4 s
def ae5(l:List A6):Bool:=l.all Y4
def as8(op:Int):Int:=if op=1∨op=2 then 0 else if op=3∨op=4 then 1 else if 5≤op∧op≤17 then 2 else -1
def W5:Nat→Ex→Bool
 | 0,_=>false
 | n+1,x=>if(x.kids.length:Int)≠as8 x.op then false
   else if x.op=1 then decide (0≤x.n)&&decide (x.name=e0)
   else if x.op=2 then decide (x.n=0)&&Y4 x.name
   else if x.n≠0∨x.name≠e0 then false
   else x.kids.all (W5 n)
def cA4(x:Ex):Bool:=decide (x.op=0)&&decide (x.n=0)&&decide (x.name=e0)&&decide (x.kids.length=0)
def X5(s:A6)(b:Bool):Bool:=(b&&Y4 s)||(!b&&decide (s=e0))
def af5(x:Ex)(b:Bool):Bool:=(b&&W5 20 x)||(!b&&cA4 x)
def aO1(l:List Ar):Bool:=l.all fun a=>X5 a.name a.ref&&af5 a.x (!a.ref)
structure Fl where
 name:Bool
 proc:Bool
 x:Bool
 has:Bool
 thn:Bool
 els:Bool
def T5(s:St):Option Fl:=
 if s.kind=1 then some ⟨true,false,true,s.has,false,false⟩
 else if s.kind=2∨s.kind=10 then some ⟨true,false,false,s.has,false,false⟩
 else if s.kind=3 then some ⟨false,false,true,s.has,false,false⟩
 else if s.kind=4 then some ⟨decide (s.name≠e0),true,false,s.has,false,false⟩
 else if s.kind=5 then some ⟨false,false,true,s.has,true,true⟩
 else if s.kind=6 then some ⟨false,false,true,s.has,true,false⟩
 else if s.kind=9 then some ⟨false,false,s.has,false,false,false⟩
 else if s.kind=7∨s.kind=8 then some ⟨false,false,false,s.has,false,false⟩
 else none
def aj9(s:St):Bool:=match T5 s with
 | none=>false
 | some k=>!(k.has||(!k.thn&&decide (0<s.thn.length))||(!k.els&&decide (0<s.els.length))||(!decide (s.kind=4)&&decide (0<s.args.length))) &&
   X5 s.name k.name&&X5 s.proc k.proc&&af5 s.x k.x&&aO1 s.args
def I3:Nat→List St→Int→Option Int
 | 0,l,n=>if l.length=0 then some n else none
 | d+1,l,n=>l.foldlM (fun n s=>if n+1>200∨s.id≠n+1∨ae5 s.labels=false∨aj9 s=false then none else(I3 d s.thn (n+1)).bind fun m=>I3 d s.els m) n
def W7(f:Pr)(n:Int):Option Int:=
 if f.params.length>8∨f.vars.length>16∨Y4 f.name=false∨ae5 f.vars=false∨ae5 f.fin=false∨(f.params.all fun a=>Y4 a.name)=false then none else I3 12 f.body n
def P9(p:Pg):Bool:=decide (p.globals.length≤16)&&decide (p.procs.length≤16)&&ae5 p.globals&&(p.procs.foldlM (fun n f=>W7 f n) 0).isSome
mutual
def af9:Ex→List A6→List A6
 | .mk op _ name kids,out=>ak1 kids (if op=2∧out.contains name=false then out++[name]else out)
def ak1:List Ex→List A6→List A6
 | [],out=>out
 | x::xs,out=>ak1 xs (af9 x out)
end
def Z7(x:Ex):List A6:=if W5 20 x then af9 x []else[]
mutual
def U6:St→Nat
 | .mk _ _ _ _ _ _ _ _ thn els=>1+A5 thn+A5 els
def A5:List St→Nat
 | []=>0
 | t::l=>U6 t+A5 l
end
theorem ao5(t:St):U6 t=1+A5 t.thn+A5 t.els:=by
 cases t;simp only[U6,St.thn,St.els]
theorem bv1(t:St):0<U6 t:=by rw[ao5];omega
theorem bQ8:∀{l:List St} {t:St},t∈l→U6 t≤A5 l
 | s::l,t,h=>by
  rw[A5];rcases ey3.1 h with rfl|h
  ·omega
  ·have:=bQ8 h;omega
theorem aK1:∀(l m:List St),A5 (l++m)=A5 l+A5 m
 | [],m=>by simp[A5]
 | s::l,m=>by rw[eH6,A5,A5,aK1 l m];omega
theorem P5:∀(l:List St),l.length≤A5 l
 | []=>by simp
 | s::l=>by have:=P5 l;have:=bv1 s;rw[A5,ey7];omega
def wtT(s:A6):Nat:=1+s.b.length
def au9:List A6→Nat
 | []=>0
 | s::l=>wtT s+au9 l
mutual
def R0:Ex→Nat
 | .mk _ _ name kids=>wtT name+ap2 kids
def ap2:List Ex→Nat
 | []=>0
 | x::l=>R0 x+ap2 l
end
def ai3(a:Ar):Nat:=R0 a.x+wtT a.name
def Y7:List Ar→Nat
 | []=>0
 | a::l=>ai3 a+Y7 l
mutual
def O0:St→Nat
 | .mk _ _ labels name proc x _ args thn els=>R0 x+au9 labels+wtT name+wtT proc+Y7 args+G5 thn+G5 els
def G5:List St→Nat
 | []=>0
 | x::l=>O0 x+G5 l
end
def bn1:List Pa→Nat
 | []=>0
 | a::l=>wtT a.name+bn1 l
def T3(f:Pr):Nat:=wtT f.name+au9 f.vars+au9 f.fin+bn1 f.params+G5 f.body
def az6:List Pr→Nat
 | []=>0
 | f::l=>T3 f+az6 l
def D6(p:Pg):Nat:=au9 p.globals+az6 p.procs
theorem S3:∀(l:List A6),l.length≤au9 l
 | []=>by simp[au9]
 | s::l=>by have:=S3 l;simp only[au9,wtT,ey7];omega
theorem aE3(x:Ex):1≤R0 x:=by cases x;simp only[R0,wtT];omega
theorem bw4:∀(l:List Ex),l.length≤ap2 l
 | []=>by simp[ap2]
 | s::l=>by have:=bw4 l;have:=aE3 s;simp only[ap2,ey7];omega
theorem aX1:∀{l:List Ex} {s:Ex},s∈l→R0 s≤ap2 l
 | t::l,s,h=>by
  simp only[ap2];rcases ey3.1 h with rfl|h
  ·omega
  ·have:=aX1 h;omega
theorem bD1(x:Ex):R0 x=wtT x.name+ap2 x.kids:=by cases x;simp only[R0,Ex.name,Ex.kids]
theorem al9:∀(l:List Ar),l.length≤Y7 l
 | []=>by simp[Y7]
 | s::l=>by have:=al9 l;have:=aE3 s.x;simp only[Y7,ai3,ey7];omega
theorem aH1:∀{l:List Ar} {s:Ar},s∈l→ai3 s≤Y7 l
 | t::l,s,h=>by
  simp only[Y7];rcases ey3.1 h with rfl|h
  ·omega
  ·have:=aH1 h;omega
theorem P4(s:St):O0 s=R0 s.x+au9 s.labels+wtT s.name+wtT s.proc+Y7 s.args+G5 s.thn+G5 s.els:=by
 cases s;simp only[O0,St.x,St.labels,St.name,St.proc,St.args,St.thn,St.els]
theorem bO5(s:St):3≤O0 s:=by rw[P4];have:=aE3 s.x;simp only[wtT];omega
theorem bw9:∀(l:List St),3*l.length≤G5 l
 | []=>by simp[G5]
 | s::l=>by have:=bw9 l;have:=bO5 s;simp only[G5,ey7];omega
theorem af7:∀{l:List St} {s:St},s∈l→O0 s≤G5 l
 | t::l,s,h=>by
  simp only[G5];rcases ey3.1 h with rfl|h
  ·omega
  ·have:=af7 h;omega
theorem af6:∀(l:List Pa),l.length≤bn1 l
 | []=>by simp[bn1]
 | s::l=>by have:=af6 l;simp only[bn1,wtT,ey7];omega
theorem aa9:∀(l:List Pr),l.length≤az6 l
 | []=>by simp[az6]
 | s::l=>by have:=aa9 l;simp only[az6,T3,wtT,ey7];omega
theorem am0:∀{l:List Pr} {s:Pr},s∈l→T3 s≤az6 l
 | t::l,s,h=>by
  simp only[az6];rcases ey3.1 h with rfl|h
  ·omega
  ·have:=am0 h;omega
mutual
theorem bw8:∀(s:St),3*U6 s≤O0 s
 | .mk _ _ labels name proc x _ args thn els=>by
  have h1:=ap3 thn;have h2:=ap3 els;have h3:=aE3 x;simp only[U6,O0,wtT];omega
theorem ap3:∀(l:List St),3*A5 l≤G5 l
 | []=>by simp[A5,G5]
 | s::l=>by
  have h1:=bw8 s;have h2:=ap3 l;simp only[A5,G5];omega
end
def eH0:=@Bool.eq_false_iff
def eH4:=@Bool.or_true
def eI2:=@Bool.true_or
def ew6:=@List.forall_mem_cons
def ex8:=@List.getElem_mem
def ex6:=@Nat.zero_le
def eB0:=@decide_eq_decide
theorem zJ{a b:Prop}(x:a)(y:b):a∧b:=⟨x,y⟩
def n3:=zJ (zJ (zJ (zJ (zJ (zJ @bd9 @ea2) (zJ @dZ5 (zJ @dC4 @dZ8))) (zJ (zJ @dZ9 @dZ6) (zJ @dZ7 (zJ @ed7 @ed3)))) (zJ (zJ (zJ @dL4 @ed4) (zJ @ed5 (zJ @dD5 @dB1))) (zJ (zJ @dD6 @dD7) (zJ @ec1 (zJ @ec0 @ea5))))) (zJ (zJ (zJ (zJ @ed9 @eq7) (zJ @dC2 (zJ @ec9 @dC3))) (zJ (zJ @ed0 @em1) (zJ @eu5 (zJ @cP2 @dJ0)))) (zJ (zJ (zJ @cP3 @dJ1) (zJ @dJ2 (zJ @df7 @cY7))) (zJ (zJ @cY6 @dI9) (zJ @em3 (zJ @em2 @df6)))))) (zJ (zJ (zJ (zJ (zJ @em5 @em4) (zJ @ec8 (zJ @cK0 @dH9))) (zJ (zJ @el6 @cP0) (zJ @dC1 (zJ @df4 @el1)))) (zJ (zJ (zJ @el7 @dC0) (zJ @ec7 (zJ @dI2 @ec6))) (zJ (zJ @ev.eq_1 @ev.eq_2) (zJ @ev.eq_3 (zJ @ev.eq_4 @A7.eq_1))))) (zJ (zJ (zJ (zJ @A7.eq_2 @eq6) (zJ @el8 (zJ @em7 @em8))) (zJ (zJ @List.map_cons.{0,0} @List.map_nil.{0,0}) (zJ @List.map_toArray.{0,0} (zJ @bP4.eq_1 @bP4.eq_2)))) (zJ (zJ (zJ @dc5 @eb7) (zJ @eb8 (zJ @cv8.eq_1 @List.getElem?_toArray.{0}))) (zJ (zJ @List.getElem?_cons_zero.{0} (zJ @List.getElem?_cons_succ.{0} @Option.bind_some.{0,0})) (zJ @Option.some.injEq.{0} (zJ @eD3 @Bool.true_eq_false))))))
def n8:=zJ (zJ (zJ (zJ (zJ @dI0 (zJ @dH7 @dE5)) (zJ @Option.map_some.{0,0} (zJ @Option.map_none.{0,0} @Int.toNat_zero))) (zJ (zJ @Option.isNone_none.{0} (zJ @Option.isNone_some.{0} @K0)) (zJ @by5.eq_1 (zJ @by5.eq_2 @cL5.eq_1)))) (zJ (zJ (zJ @aX7.eq_1 (zJ @aX7.eq_2 @cz6.eq_1)) (zJ @cz5.eq_1 (zJ @TY @Option.isSome_some.{0}))) (zJ (zJ @eG4 (zJ @Bool.and_true @eF9)) (zJ @ez1 (zJ @ek8 @Int.cast_ofNat_Int))))) (zJ (zJ (zJ (zJ @decide_true (zJ @add_lit @ez8)) (zJ @Nat.zero_mul (zJ @Nat.one_mul @Bool.not_true))) (zJ (zJ @Bool.not_false (zJ @ek9 @dG8)) (zJ @eb2 (zJ @eb1 @eb0)))) (zJ (zJ (zJ @ea9 (zJ @ea8 @eb5)) (zJ @ea6 (zJ @eb6 @dD4))) (zJ (zJ @dD3 (zJ @ea7 @eb4)) (zJ (zJ @bZ4 @cK9) (zJ @eb3 @eq5)))))
theorem de0:ag0 prog 208=true:=by kernel_rfl
theorem eh9:ag0 prog 209=true:=by kernel_rfl
theorem ei0:ag0 prog 210=true:=by kernel_rfl
theorem ej3:ag0 prog 248=true:=by kernel_rfl
theorem bi5(c:UInt8)(w:World):Calls prog 208 #[.int .u8 c.toNat] w fun e w'=>∃u,e = .returned u∧(u = .bool (aw3 c)∧w'=w):=by
 refine d9 (args:=[.int .u8 c.toNat]) hm func208 rfl (by kernel_rfl) (by show 1≤_;decide +kernel) ?_;unfold aw3;have h1:decide ((97:Int)≤(c.toNat:Int))=decide (97≤c.toNat):=eB0.2 (by omega);have h2:decide ((c.toNat:Int)≤(122:Int))=decide (c.toNat≤122):=eB0.2 (by omega);cases hb:decide (97≤c.toNat)
 ·simp only[n3,n8,simprocAttr,h1,hb];refine n9 results208 ?_;simp only[p7,simprocAttr];exact⟨by trivial,by trivial⟩
 ·simp only[n3,n8,simprocAttr,h1,h2,hb];refine n9 results208 ?_;simp only[p7,simprocAttr];exact⟨by simp,by trivial⟩
theorem cj2(c:UInt8)(w:World):Calls prog 248 #[.int .u8 c.toNat] w fun e w'=>∃u,e = .returned u∧(u = .bool (by1 c)∧w'=w):=by
 refine d9 (args:=[.int .u8 c.toNat]) hm func248 rfl (by kernel_rfl) (by show 1≤_;decide +kernel) ?_;unfold by1;have h1:decide ((48:Int)≤(c.toNat:Int))=decide (48≤c.toNat):=eB0.2 (by omega);have h2:decide ((c.toNat:Int)≤(57:Int))=decide (c.toNat≤57):=eB0.2 (by omega);cases hb:decide (48≤c.toNat)
 ·simp only[n3,n8,simprocAttr,h1,hb];refine n9 results248 ?_;simp only[p7,simprocAttr];exact⟨by trivial,by trivial⟩
 ·simp only[n3,n8,simprocAttr,h1,h2,hb];refine n9 results248 ?_;simp only[p7,simprocAttr];exact⟨by simp,by trivial⟩
theorem cq6(s:A6)(w:World):Calls prog 210 #[o7 s] w fun e w'=>∃u,e = .returned u∧(u = .bool (bO4 s)∧w'=w):=by
 refine d9 (args:=[o7 s]) hm func210 rfl (by kernel_rfl) (by show 1≤_;decide +kernel) ?_;have hw:bO4 s=bY1.any fun x=>decide (s=x):=by
  unfold bO4;rw[←List.any_beq]
  congr 1
 simp only[bY1,List.any_cons,List.any_nil]at hw;simp only[n3,n8,simprocAttr];refine i5 (fun h1=>?_) (fun h1=>?_)
 ·simp only[n3,simprocAttr,h1];refine n9 results210 ?_;simp only[p7,simprocAttr];exact⟨by rw[hw];simp only[h1,eI2],by trivial⟩
 simp only[n3,n8,simprocAttr];refine i5 (fun h2=>?_) (fun h2=>?_)
 ·simp only[n3,simprocAttr,h2];refine n9 results210 ?_;simp only[p7,simprocAttr];exact⟨by rw[hw];simp only[h2,eI2,eH4],by trivial⟩
 simp only[n3,n8,simprocAttr];refine i5 (fun h3=>?_) (fun h3=>?_)
 ·simp only[n3,simprocAttr,h3];refine n9 results210 ?_;simp only[p7,simprocAttr];exact⟨by rw[hw];simp only[h3,eI2,eH4],by trivial⟩
 simp only[n3,n8,simprocAttr];refine i5 (fun h4=>?_) (fun h4=>?_)
 ·simp only[n3,simprocAttr,h4];refine n9 results210 ?_;simp only[p7,simprocAttr];exact⟨by rw[hw];simp only[h4,eI2,eH4],by trivial⟩
 simp only[n3,n8,simprocAttr];refine i5 (fun h5=>?_) (fun h5=>?_)
 ·simp only[n3,simprocAttr,h5];refine n9 results210 ?_;simp only[p7,simprocAttr];exact⟨by rw[hw];simp only[h5,eI2,eH4],by trivial⟩
 simp only[n3,n8,simprocAttr];refine i5 (fun h6=>?_) (fun h6=>?_)
 ·simp only[n3,simprocAttr,h6];refine n9 results210 ?_;simp only[p7,simprocAttr];exact⟨by rw[hw];simp only[h6,eI2,eH4],by trivial⟩
 simp only[n3,n8,simprocAttr];refine i5 (fun h7=>?_) (fun h7=>?_)
 ·simp only[n3,simprocAttr,h7];refine n9 results210 ?_;simp only[p7,simprocAttr];exact⟨by rw[hw];simp only[h7,eI2,eH4],by trivial⟩
 simp only[n3,n8,simprocAttr];refine i5 (fun h8=>?_) (fun h8=>?_)
 ·simp only[n3,simprocAttr,h8];refine n9 results210 ?_;simp only[p7,simprocAttr];exact⟨by rw[hw];simp only[h8,eI2,eH4],by trivial⟩
 simp only[n3,n8,simprocAttr];refine i5 (fun h9=>?_) (fun h9=>?_)
 ·simp only[n3,simprocAttr,h9];refine n9 results210 ?_;simp only[p7,simprocAttr];exact⟨by rw[hw];simp only[h9,eI2,eH4],by trivial⟩
 simp only[n3,n8,simprocAttr];refine i5 (fun h10=>?_) (fun h10=>?_)
 ·simp only[n3,simprocAttr,h10];refine n9 results210 ?_;simp only[p7,simprocAttr];exact⟨by rw[hw];simp only[h10,eI2,eH4],by trivial⟩
 simp only[n3,n8,simprocAttr];refine i5 (fun h11=>?_) (fun h11=>?_)
 ·simp only[n3,simprocAttr,h11];refine n9 results210 ?_;simp only[p7,simprocAttr];exact⟨by rw[hw];simp only[h11,eI2,eH4],by trivial⟩
 simp only[n3,n8,simprocAttr];refine i5 (fun h12=>?_) (fun h12=>?_)
 ·simp only[n3,simprocAttr,h12];refine n9 results210 ?_;simp only[p7,simprocAttr];exact⟨by rw[hw];simp only[h12,eI2,eH4],by trivial⟩
 simp only[n3,n8,simprocAttr];refine i5 (fun h13=>?_) (fun h13=>?_)
 ·simp only[n3,simprocAttr];refine n9 results210 ?_;simp only[p7,simprocAttr];exact⟨by rw[hw];simp only[h13,eI2,eH4],by trivial⟩
 ·simp only[n3,simprocAttr];refine n9 results210 ?_;simp only[p7,simprocAttr];exact⟨by rw[hw];simp only[h1,h2,h3,h4,h5,h6,h7,h8,h9,h10,h11,h12,h13,Bool.or_false],by trivial⟩
theorem cL6{s:A6}{k:Nat}(hk:k<s.b.length):∃c,chr s k=some c∧s.b.take (k+1)=s.b.take k++[c]∧c∈s.b:=
 ⟨_,ew4 hk,ex2 hk,ex8 hk⟩
theorem cQ0(s:A6)(w:World)(hl:s.b.length≤1000000):Calls prog 209 #[o7 s,.int .i64 0] w fun e w'=>∃u,e = .returned u∧(∃k:Nat,u = .int .i64 k∧decide (k=s.b.length)=s.b.all Z1∧w'=w):=by
 refine d9 (args:=[o7 s,.int .i64 0]) hm func209 rfl (by kernel_rfl) (by show 2≤_;decide +kernel) ?_;simp only[n3,n8,simprocAttr];refine n7 [0] (σ:=Nat) (fun k f w'=>f 1 = .int .i64 k∧k≤s.b.length∧(s.b.take k).all Z1=true∧w'=w) (fun k=>s.b.length-k) 0 (by decide +kernel) ?_ ?_
 ·simp only[p7,simprocAttr];exact⟨by trivial,ex6 _,by simp,by trivial⟩
 ·rintro k f w' hk ⟨h1,hkl,hall,rfl⟩;simp only[ew6,p7,simprocAttr]at hk;obtain⟨g0,_⟩:=hk;by_cases hlt:k<s.b.length
  ·have hd:decide ((k:Int)<(s.b.length:Nat))=true:=by simpa using hlt
   obtain⟨c,hc,htk,hmem⟩:=cL6 hlt;have hix:=cX9 (P:=prog) (t:=9) (k:=.i64) dx8 dj6 hc;simp only[n3,n8,simprocAttr,g0,h1,hd,hix];refine z6 de0 (bi5 c _) ?_;rintro u w1 ⟨rfl,rfl⟩;cases hlet:aw3 c
   ·simp only[n3,simprocAttr,g0,h1,hix];refine z6 ej3 (cj2 c _) ?_;rintro u w2 ⟨rfl,rfl⟩;cases hdig:by1 c
    ·simp only[n3,simprocAttr,h1];refine n9 results209 ?_;simp only[p7,simprocAttr];refine⟨k,by trivial,?_,by trivial⟩;have h2:s.b.all Z1=false:=by
      rw[eH0];intro h3;have:=eI4.1 h3 c hmem;simp[Z1,hlet,hdig]at this
     rw[h2];simp;omega
    ·simp only[n3,n8,simprocAttr,h1];refine⟨k+1,by omega,by rw[B2 k (by omega)],by omega,?_,by trivial⟩;rw[htk,List.all_append,hall];simp[Z1,hdig]
   ·simp only[n3,n8,simprocAttr,h1];refine⟨k+1,by omega,by rw[B2 k (by omega)],by omega,?_,by trivial⟩;rw[htk,List.all_append,hall];simp[Z1,hlet]
  ·have hd:decide ((k:Int)<(s.b.length:Nat))=false:=by simpa using hlt
   have hke:k=s.b.length:=by omega
   simp only[n3,n8,simprocAttr,g0,h1,hd];refine n9 results209 ?_;simp only[p7,simprocAttr];refine⟨k,by trivial,?_,by trivial⟩;subst hke;rw[ex5]at hall;rw[hall];simp
theorem aA3(s:A6)(w:World):Calls prog 142 #[o7 s] w fun e w'=>∃u,e = .returned u∧(u = .bool (Y4 s)∧w'=w):=by
 refine d9 (args:=[o7 s]) hm func142 rfl (by kernel_rfl) (by show 1≤_;decide +kernel) ?_;cases hs:s.b with
 | nil=>
  have hl:s.b.length=0:=by rw[hs];rfl
  have h1:decide (((s.b.length:Nat):Int)<1)=true:=by rw[hl];rfl
  simp only[n3,n8,simprocAttr,h1];refine n9 results142 ?_;simp only[p7,simprocAttr];exact⟨by rw[Y4,hs],by trivial⟩
 | cons c l=>
  have hl:s.b.length=l.length+1:=by rw[hs];rfl
  have hnf:Y4 s=(decide (l.length<8)&&aw3 c&&l.all Z1 && !bO4 s):=by rw[Y4,hs]
  have hall:s.b.all Z1=(Z1 c&&l.all Z1):=by rw[hs];rfl
  have h1:decide (((s.b.length:Nat):Int)<1)=false:=by rw[hl];simp;omega
  have hc:chr s 0=some c:=by unfold chr;rw[hs];rfl
  have hix:U4 prog 9 (o7 s) (.int .i64 0)=some (.int .u8 (c.toNat:Int)):=cX9 (k:=.i64) (i:=0) dx8 dj6 hc;cases h2:decide ((8:Int)<((s.b.length:Nat):Int))
  ·have hl8:l.length<8:=by simp at h2;omega
   simp only[n3,n8,simprocAttr,h1,h2,hix];refine z6 de0 (bi5 c _) ?_;rintro u w1 ⟨rfl,rfl⟩;cases hlet:aw3 c
   ·simp only[n3,n8,simprocAttr];refine n9 results142 ?_;simp only[p7,simprocAttr];exact⟨by rw[hnf,hlet];simp,by trivial⟩
   ·simp only[n3,n8,simprocAttr];refine z6 eh9 (cQ0 s _ (by omega)) ?_;rintro u w2 ⟨k,rfl,hk,rfl⟩;have hk2:decide ((k:Int)=((s.b.length:Nat):Int))=l.all Z1:=by
     rw[hall,show Z1 c=true by simp[Z1,hlet],eG4]at hk;rw[←hk];exact eB0.2 (by omega)
    cases ha:l.all Z1
    ·rw[ha]at hk2;simp only[n3,n8,simprocAttr,hk2];refine n9 results142 ?_;simp only[p7,simprocAttr];exact⟨by rw[hnf,ha];simp,by trivial⟩
    ·rw[ha]at hk2;simp only[n3,n8,simprocAttr,hk2];refine z6 ei0 (cq6 s _) ?_;rintro u w3 ⟨rfl,rfl⟩;simp only[n3,n8,simprocAttr];refine n9 results142 ?_;simp only[p7,simprocAttr];exact⟨by rw[hnf,ha,hlet];simp[hl8],by trivial⟩
  ·simp only[n3,n8,simprocAttr,h1,h2];refine n9 results142 ?_;simp only[p7,simprocAttr];exact⟨by rw[hnf,show decide (l.length<8)=false by simp at h2 ⊢;omega];rfl,by trivial⟩
def eG8:=@List.sum_cons
def D5:=zJ (zJ (zJ (zJ @ea4 @ed8) (zJ @ec5 @dB9)) (zJ (zJ @df3 @el0) (zJ @cJ8 @dH6))) (zJ (zJ (zJ @el5 @cO8) (zJ @dB8 @ec4)) (zJ (zJ @dH8 @ec3) (zJ @List.drop_succ_cons.{0} @List.drop_zero.{0})))
theorem cx1:ag0 prog 182=true:=by kernel_rfl
theorem cX7:ag0 prog 54=true:=by kernel_rfl
theorem aB0(l:List St){k:Nat}(hk:k<l.length):A5 (l.take (k+1))=A5 (l.take k)+U6 l[k]:=by
 rw[ex2 hk,aK1];simp[A5]
theorem am9(l:List St)(k:Nat):A5 (l.take k)≤A5 l:=by
 have:=aK1 (l.take k) (l.drop k);rw[ez9]at this;omega
theorem bk7:∀(m:Nat) (t:St) (v:Value) (w:World),U6 t≤m→SV (d7 w) v t→O0 t≤1000000→Calls prog 182 #[v] w fun e w'=>∃u,e = .returned u∧(u = .int .i64 (U6 t:Nat)∧o6 w w')
 | 0,t,v,w,hsm,_,_=>absurd (bv1 t) (by omega)
 | m+1,t,v,w,hsm,hv,hwt=>by
  refine d9 (args:=[v]) hm func182 rfl (by kernel_rfl) (by show 1≤_;decide +kernel) ?_;obtain⟨a,w1,hbx,hx,ha⟩:=aj6 hv (i4 _);obtain⟨vl,va,vt,ve,hl,hra,ht,he,hatx,ld,sd⟩:=ha.st;have l1:=ld w1 (i4 _);have hS1:=ht.isS;have hn1:=ht.vlen;have hS2:=he.isS;have hn2:=he.vlen;have hsz:=bw8 t;have heq:=ao5 t;have hwe:=P4 t;have hc1:=P5 t.thn;have hc2:=P5 t.els;simp only[n3,n8,simprocAttr,hbx,l1,hS1,hn1];refine n7 [1,9,10] (σ:=Nat) (fun k f w'=>f 11 = .int .i64 k∧k≤t.thn.length∧f 3 = .int .i64 ((1+A5 (t.thn.take k):Nat):Int)∧o6 w1 w') (fun k=>t.thn.length-k) 0 (by decide +kernel) ?_ ?_
  ·simp only[p7,simprocAttr];exact⟨by trivial,ex6 _,by simp[A5],o9.refl _⟩
  ·rintro k f w2 hk ⟨h11,hkl,h3,hx2⟩;simp only[ew6,p7,simprocAttr]at hk;obtain⟨e1,e9,e10,_⟩:=hk;simp only[n3,n8,simprocAttr,h11,e10];refine i5 (fun hc=>?_) (fun hc=>?_)
   ·have hlt:k<t.thn.length:=by simpa using hc
    have hin:=ht.inS hlt;obtain⟨sv,hsv,hld⟩:=F4 (P:=prog) (t:=45) ht (b7 hx2) (ew4 hlt) aR4 aR7 aI9 W9;rw[W9]at hld;have htk:=aB0 t.thn hlt;have hle1:=am9 t.thn (k+1);have hwm:=af7 (ex8 hlt);generalize t.thn[k]=s at hsv htk hwm;obtain⟨b,wz,w3,hal,hst,hx3,hat⟩:=aS1 (hsv.mono (b7 hx2)) (i4 _);obtain⟨ss,hss,lss,_⟩:=hat.st_v;have l3:=lss w3 (i4 _);simp only[n3,n8,v8,simprocAttr,h11,e9,hin,hld,hal,hst,l3,h3];refine B7 cx1 (bk7 m s ss w3 (by omega) hss (by omega)) (fun w4 hx4=>?_);simp only[n3,n8,simprocAttr,h11];exact⟨k+1,by omega,by rw[B2 k (by omega)],by omega,by rw[K1 _ (by omega)];congr 1;omega,hx2.trans (hx3.trans hx4)⟩
   ·have hge:k=t.thn.length:=by simp at hc;omega
    subst hge;rw[ex5]at h3;have l2:=ld w2 (b7 hx2);simp only[n3,n8,simprocAttr,e1,l2,hS2,hn2];refine n7 [1,21,22] (σ:=Nat) (fun k f w'=>f 23 = .int .i64 k∧k≤t.els.length∧f 3 = .int .i64 ((1+A5 t.thn+A5 (t.els.take k):Nat):Int)∧o6 w1 w') (fun k=>t.els.length-k) 0 (by decide +kernel) ?_ ?_
    ·simp only[p7,simprocAttr];exact⟨by trivial,ex6 _,by simp[A5,h3],hx2⟩
    ·rintro k f w2 hk ⟨h23,hkl,h3,hx2⟩;simp only[ew6,p7,simprocAttr]at hk;obtain⟨e1,e21,e22,_⟩:=hk;simp only[n3,n8,simprocAttr,h23,e22];refine i5 (fun hc=>?_) (fun hc=>?_)
     ·have hlt:k<t.els.length:=by simpa using hc
      have hin:=he.inS hlt;obtain⟨sv,hsv,hld⟩:=F4 (P:=prog) (t:=45) he (b7 hx2) (ew4 hlt) aR4 aR7 aI9 W9;rw[W9]at hld;have htk:=aB0 t.els hlt;have hle1:=am9 t.els (k+1);have hwm:=af7 (ex8 hlt);generalize t.els[k]=s at hsv htk hwm;obtain⟨b,wz,w3,hal,hst,hx3,hat⟩:=aS1 (hsv.mono (b7 hx2)) (i4 _);obtain⟨ss,hss,lss,_⟩:=hat.st_v;have l3:=lss w3 (i4 _);simp only[n3,n8,v8,simprocAttr,h23,e21,hin,hld,hal,hst,l3,h3];refine B7 cx1 (bk7 m s ss w3 (by omega) hss (by omega)) (fun w4 hx4=>?_);simp only[n3,n8,simprocAttr,h23];exact⟨k+1,by omega,by rw[B2 k (by omega)],by omega,by rw[K1 _ (by omega)];congr 1;omega,hx2.trans (hx3.trans hx4)⟩
     ·have hge:k=t.els.length:=by simp at hc;omega
      subst hge;rw[ex5]at h3;simp only[n3,simprocAttr,h3];refine n9 results182 ?_;simp only[p7,simprocAttr];exact⟨by rw[heq],hx.trans hx2⟩
theorem cj0:∀(m:Nat) (l:List St) (v:Value) (w:World),A5 l≤m→R (d7 w) v l→G5 l≤1000000→Calls prog 54 #[v] w fun e w'=>∃u,e = .returned u∧(u = .int .i64 (A5 l:Nat)∧o6 w w'):=by
 intro m
 induction m with
 | zero=>
  intro l v w hsm hv hwt;have hl0:l.length=0:=by have:=P5 l;omega
  refine d9 (args:=[v]) hm func54 rfl (by kernel_rfl) (by show 1≤_;decide +kernel) ?_;have hS:=hv.isS;have hn:=hv.vlen;simp only[n3,n8,simprocAttr,hS,hn];refine n7 [7,8] (σ:=Nat) (fun k f w'=>f 9 = .int .i64 0∧f 3 = .int .i64 ((l.length:Nat):Int)∧w'=w) (fun k=>0) 0 (by decide +kernel) ?_ ?_
  ·simp only[p7,simprocAttr];exact⟨by trivial,by trivial,by trivial⟩
  ·rintro k f w2 hk ⟨h9,h3,rfl⟩;simp only[ew6,p7,simprocAttr]at hk;obtain⟨e7,e8,_⟩:=hk;have d0:decide ((0:Int)<((l.length:Nat):Int))=false:=by rw[hl0];decide
   simp only[n3,n8,simprocAttr,h9,e8,d0,h3];refine n9 results54 ?_;simp only[p7,simprocAttr];exact⟨by rw[List.eq_nil_of_length_eq_zero hl0];rfl,o9.refl _⟩
 | succ m ih=>
  intro l v w hsm hv hwt;refine d9 (args:=[v]) hm func54 rfl (by kernel_rfl) (by show 1≤_;decide +kernel) ?_;have hS:=hv.isS;have hn:=hv.vlen;have hwsz:=ap3 l;have hcl:=P5 l;simp only[n3,n8,simprocAttr,hS,hn];refine n7 [0,7,8] (σ:=Nat) (fun k f w'=>f 9 = .int .i64 k∧k≤l.length∧f 3 = .int .i64 ((l.length+A5 (l.take k)-k:Nat):Int)∧o6 w w') (fun k=>l.length-k) 0 (by decide +kernel) ?_ ?_
  ·simp only[p7,simprocAttr];exact⟨by trivial,ex6 _,by simp[A5],o9.refl _⟩
  ·rintro k f w2 hk ⟨h9,hkl,h3,hx2⟩;simp only[ew6,p7,simprocAttr]at hk;obtain⟨e0,e7,e8,_⟩:=hk;have hlk:=P5 (l.take k);rw[ex4,eB9 hkl]at hlk;simp only[n3,n8,simprocAttr,h9,e8];refine i5 (fun hc=>?_) (fun hc=>?_)
   ·have hlt:k<l.length:=by simpa using hc
    have hin:=hv.inS hlt;have hat:=(hv.at_ (ew4 hlt));have htk:=aB0 l hlt;have hle1:=am9 l (k+1);have hwm:=af7 (ex8 hlt);generalize l[k]=t at hat htk hwm;have heq:=ao5 t;have hwe:=P4 t;obtain⟨vl,va,vt,ve,hl',hra,ht,he,hatx,ld,sd⟩:=hat.st;have hxd:=hx2.trans (o6.drew w2);have s2:=sd (fun w'=>o6 w2.drew w') w2.drew (o9.refl _) (fun w' h=>b7 (hxd.trans h));have hz:A3.sz St=13:=rfl;rw[hz]at s2;simp only[n3,simprocAttr,h9];refine C2 (fun w'=>o6 w2.drew w') 16 (B0 [0,1,2,3,4,5,7,8,9,10,11,6,12,13,14,15]) (by decide +kernel) (o9.refl _) ?_;simp only[D5,B0,n3,n8,v8,simprocAttr,e0,h3,hin,s2];refine B7 cX7 (ih t.thn vt _ (by omega) (A3.mono (b7 hxd) ht) (by omega)) (fun w3 hx3=>?_);simp only[D5,n3,simprocAttr,F6];refine⟨hx3,?_⟩;refine B7 cX7 (ih t.els ve _ (by omega) (A3.mono (b7 (hxd.trans hx3)) he) (by omega)) (fun w4 hx4=>?_);have hw1:IntKind.i64.wrap (((A5 t.thn:Nat):Int)+((A5 t.els:Nat):Int))=((A5 t.thn+A5 t.els:Nat):Int):=by rw[K1 _ (by omega)];omega
    have hw2:IntKind.i64.wrap (((l.length+A5 (l.take k)-k:Nat):Int)+((A5 t.thn+A5 t.els:Nat):Int))=((l.length+A5 (l.take (k+1))-(k+1):Nat):Int):=by rw[K1 _ (by omega)];omega
    simp only[D5,n3,n8,simprocAttr,F6,hw1,hw2,h9];refine⟨hx3.trans hx4,?_⟩;exact⟨k+1,by omega,by rw[B2 k (by omega)],by omega,by trivial,hxd.trans (hx3.trans hx4)⟩
   ·have hge:k=l.length:=by simp at hc;omega
    subst hge;rw[ex5]at h3;simp only[n3,simprocAttr,h3];refine n9 results54 ?_;simp only[p7,simprocAttr];exact⟨by congr 1;congr 1;omega,hx2⟩
def bx8(p:Pg):Nat:=(p.procs.map fun f=>A5 f.body).sum
theorem bd1:∀(l:List Pr),3*(l.map fun f=>A5 f.body).sum≤az6 l
 | []=>by simp[az6]
 | f::l=>by
  have h1:=bd1 l;have h2:=ap3 f.body;simp only[eB1,eG8,az6,T3];omega
theorem cg4(v:Value)(p:Pg)(w:World)(hv:SV (d7 w) v p)(hwt:D6 p≤1000000):Calls prog 36 #[v] w fun e w'=>∃u,e = .returned u∧(u = .int .i64 (bx8 p:Nat)∧o6 w w'):=by
 refine d9 (args:=[v]) hm func36 rfl (by kernel_rfl) (by show 1≤_;decide +kernel) ?_;obtain⟨a,w1,hbx,hx,ha⟩:=R3 hv (i4 _);obtain⟨vg,vp,hg,hp,ld,sd⟩:=ha.pg;have l1:=ld w1 (i4 _);have hS:=hp.isS;have hn:=hp.vlen;have hpl:=aa9 p.procs;have hcp:=bd1 p.procs;unfold D6 at hwt;simp only[n3,n8,simprocAttr,hbx,l1,hS,hn];refine n7 [1,7,8] (σ:=Nat) (fun k f w'=>f 9 = .int .i64 k∧k≤p.procs.length∧f 3 = .int .i64 ((((p.procs.take k).map fun f=>A5 f.body).sum:Nat):Int)∧o6 w1 w') (fun k=>p.procs.length-k) 0 (by decide +kernel) ?_ ?_
 ·simp only[p7,simprocAttr];exact⟨by trivial,ex6 _,by simp,o9.refl _⟩
 ·rintro k f w2 hk ⟨h9,hkl,h3,hx2⟩;simp only[ew6,p7,simprocAttr]at hk;obtain⟨e1,e7,e8,_⟩:=hk;simp only[n3,n8,simprocAttr,h9,e8];refine i5 (fun hc=>?_) (fun hc=>?_)
  ·have hlt:k<p.procs.length:=by simpa using hc
   have hin:=hp.inS hlt;obtain⟨sv,hsv,hld⟩:=F4 (P:=prog) (t:=51) hp (b7 hx2) (ew4 hlt) aj1 aj3 aj2 N0;rw[N0]at hld;have htk:((p.procs.take (k+1)).map fun f=>A5 f.body).sum=((p.procs.take k).map fun f=>A5 f.body).sum+A5 p.procs[k].body:=by
    rw[ex2 hlt,ez5,List.sum_append];simp
   have hle1:((p.procs.take (k+1)).map fun f=>A5 f.body).sum≤(p.procs.map fun f=>A5 f.body).sum:=by
    conv=>rhs;rw[←ez9 (k+1) p.procs,ez5,List.sum_append]
    omega
   have hwm:=am0 (ex8 hlt);generalize p.procs[k]=q at hsv htk hwm;obtain⟨b,wz,w3,hal,hst,hx3,hat⟩:=aG8 (hsv.mono (b7 hx2)) (i4 _);obtain⟨_,_,vb,_,_,_,hrb,_,ldq,_⟩:=hat.pr;have l3:=ldq w3 (i4 _);simp only[n3,n8,v8,simprocAttr,h9,e7,hin,hld,hal,hst,l3,h3];refine B7 cX7 (cj0 _ q.body vb w3 (ex9 _) hrb (by unfold T3 at hwm;omega)) (fun w4 hx4=>?_);simp only[n3,n8,simprocAttr,h9];exact⟨k+1,by omega,by rw[B2 k (by omega)],by omega,by rw[K1 _ (by omega)];congr 1;omega,hx2.trans (hx3.trans hx4)⟩
  ·have hge:k=p.procs.length:=by simp at hc;omega
   subst hge;rw[ex5]at h3;simp only[n3,simprocAttr,h3];refine n9 results36 ?_;simp only[p7,simprocAttr];exact⟨by trivial,hx.trans hx2⟩
def bI6(x:A6):List A6→List A6
 | []=>[x]
 | y::l=>if Z6 y x then y::bI6 x l else x::y::l
def U7:List A6→List A6
 | []=>[]
 | x::l=>bI6 x (U7 l)
def H4{α:Type}[DecidableEq α]:List α→List α
 | []=>[]
 | [x]=>[x]
 | x::y::l=>if x=y then H4 (y::l)else x::H4 (y::l)
def D2(l:List A6):List A6:=H4 (U7 l)
mutual
def U2:St→Nat→Int→Int→Int→Int→List It
 | .mk id kind labels name proc x has args thn els,k,pr,up,nx,lp=>
  let me:Int:=k+1
  let nx':=if kind=6 then me else nx
  let lp':=if kind=6 then me else lp
  let a:=C6 thn (k+1) pr me nx' lp'
  ⟨.mk id kind labels name proc x has args thn els,pr,up,nx,lp⟩::(a++C6 els (k+1+a.length) pr me nx' lp')
def C6:List St→Nat→Int→Int→Int→Int→List It
 | [],_,_,_,_,_=>[]
 | t::l,k,pr,up,nx,lp=>
  let a:=U2 t k pr up (if l.length=0 then nx else k+1+U6 t) lp
  a++C6 l (k+a.length) pr up nx lp
end
def E7(s:Sh)(i:Nat)(f:Pr):Sh:=
 let a:=C6 f.body s.l.length i 0 (-1) 0
 ⟨s.p,s.l++a,s.lo++[(s.l.length:Int)+1],s.hi++[(s.l.length:Int)+a.length+1]⟩
def F7(s:Sh):Nat→List Pr→Sh
 | _,[]=>s
 | i,f::l=>F7 (E7 s i f) (i+1) l
def b9(p:Pg):Sh:=F7 ⟨p,[],[],[]⟩ 0 p.procs
def T9(l:List Int)(i:Int):Int:=l.getD i.toNat 0
def Sh.of(s:Sh)(i:Int):List It:=(s.l.take (T9 s.hi i-1).toNat).drop (T9 s.lo i-1).toNat
def V3{α:Type}(p:α→Bool):Nat→List α→Int
 | _,[]=>-1
 | i,x::l=>if p x then i else V3 p (i+1) l
def R9(procs:List Pr)(n:A6):Int:=V3 (fun f=>decide (f.name=n)) 0 procs
def Sh.pr(s:Sh)(n:A6):Int:=R9 s.p.procs n
def cm9:St:=.mk 0 0 [] e0 e0 (.mk 0 0 e0 []) false [] [] []
def el3:It:=⟨cm9,0,0,0,0⟩
def bo8:Pr:=⟨e0,[],[],[],[]⟩
def Sh.it(s:Sh)(id:Int):It:=s.l.getD (id-1).toNat el3
def Sh.fn(s:Sh)(i:Int):Pr:=s.p.procs.getD i.toNat bo8
def Sh.first(s:Sh)(i:Int):Int:=if T9 s.lo i<T9 s.hi i then T9 s.lo i else -1
def Sh.at(s:Sh)(i:Int)(lb:A6):Option Int:=match(s.of i).find? fun it=>it.s.labels.contains lb with
 | some it=>some it.s.id
 | none=>if(s.fn i).fin.contains lb then some (-1)else none
def J2(a:Ar):List A6:=(if a.ref then[a.name]else[])++Z7 a.x
def K8(t:St):List A6:=(if t.kind≠10∧t.name≠e0 then[t.name]else[])++Z7 t.x++t.args.flatMap J2
def ay9(p:Pg)(f:Pr)(n:A6):Int:=match f.params.find? fun a=>decide (a.name=n)with
 | some a=>if a.ref then 3 else 2
 | none=>if f.vars.contains n then 4 else if p.globals.contains n then 1 else 0
def bj2(f:Pr):List A6:=f.params.map (·.name)++f.vars
def X6(l:List A6):Bool:=!decide l.Nodup
def P8:A6:=ofA #[109,97,105,110]
def ab9(p:Pg)(f:Pr)(procs:List A6)(t:St):Bool:=(K8 t).all (fun n=>!decide (ay9 p f n=0))&&(!decide (t.kind=4)||(!decide (t.proc=P8)&&procs.contains t.proc))
def V9(p:Pg)(procs:List A6)(f:Pr)(l:List It):Option (Int×Int):=
 if X6 (bj2 f)||(bj2 f).any (fun n=>p.globals.contains n)then some (5,0)
 else match l.find? fun it=>!ab9 p f procs it.s with
  | some it=>some (5,it.s.id)
  | none=>none
def L6(p:Pg)(s:Sh)(procs:List A6):Nat→List Pr→Option (Int×Int)
 | _,[]=>none
 | i,f::l=>match V9 p procs f (s.of i)with
   | some e=>some e
   | none=>L6 p s procs (i+1) l
def N7(p:Pg):Int×Int:=
 if P9 p=false then(1,0)
 else let procs:=p.procs.map (·.name);let first:=R9 p.procs P8
  if X6 p.globals||X6 procs||decide (first<0)||decide (0<(p.procs.getD first.toNat bo8).params.length)then(5,0)
  else(L6 p (b9 p) procs 0 p.procs).getD (0,0)
def bk1(l:List Pa)(a:List Ar):Bool:=decide (l.length=a.length)&&(l.zip a).all fun x=>x.1.ref==x.2.ref
def ab6(p:Pg)(s:St):Bool:=decide (s.kind=4)&&(match p.procs.find? fun f=>decide (f.name=s.proc)with
 | some f=>bk1 f.params s.args
 | none=>false)
def X0(p:Pg):Int×Int:=if(N7 p).1≠0 then(1,0)else match(b9 p).l.find? fun it=>decide (it.s.kind=4) && !ab6 p it.s with
 | some it=>(6,it.s.id)
 | none=>(0,0)
def an3:List A6→List A6→Option (List A6)
 | seen,[]=>some seen
 | seen,n::l=>if seen.contains n then none else an3 (seen++[n]) l
def an5(s:Sh)(it:It):Bool:=if it.s.kind=7∨it.s.kind=8 then !decide (it.loop=0)else if it.s.kind=10 then(s.at it.proc it.s.name).isSome else true
def aq0(s:Sh):List A6→List It→List A6 ⊕ Int
 | seen,[]=>.inl seen
 | seen,it::l=>match an3 seen it.s.labels with
   | none=>.inr it.s.id
   | some seen'=>if an5 s it then aq0 s seen' l else .inr it.s.id
def an4(s:Sh)(f:Pr)(l:List It):Option (Int×Int):=match aq0 s [] l with
 | .inr id=>some (7,id)
 | .inl seen=>match an3 seen f.fin with
   | none=>some (7,0)
   | some _=>none
def O6(s:Sh):Nat→List Pr→Option (Int×Int)
 | _,[]=>none
 | i,f::l=>match an4 s f (s.of i)with
   | some e=>some e
   | none=>O6 s (i+1) l
def ay8(p:Pg):Int×Int:=if(N7 p).1≠0 then(1,0)else(O6 (b9 p) 0 p.procs).getD (0,0)
def am5(s:Sh)(n:A6):List A6:=D2 (((s.of (s.pr n)).filter fun it=>decide (it.s.kind=4)).map (·.s.proc))
def ah9(out:List A6):List A6→List A6
 | []=>out
 | n::l=>ah9 (if out.contains n then out else out++[n]) l
def ad6(g:A6→List A6):Nat→Nat→List A6→List A6
 | 0,_,out=>out
 | m+1,i,out=>match out[i]? with
   | none=>out
   | some n=>ad6 g m (i+1) (ah9 out (g n))
def bn6(s:Sh)(n:A6):List A6:=U7 (ad6 (am5 s) (s.p.procs.length+1) 0 [n])
def aU4(p:Pg)(n:A6):Bool:=decide ((N7 p).1=0)&&p.procs.any fun f=>decide (f.name=n)
def U9(p:Pg)(n:A6):List A6:=if aU4 p n then
  let s:=b9 p
  D2 ((bn6 s n).flatMap fun m=>(s.of (s.pr m)).flatMap fun it=>(K8 it.s).filter fun v=>p.globals.contains v)
 else[]
def aq3(name:A6)(touched:List A6):List A6→List Ar→Bool
 | _,[]=>true
 | seen,a::l=>if a.ref then(if seen.contains a.name||decide (a.name=name)||touched.contains a.name then false else aq3 name touched (seen++[a.name]) l)else aq3 name touched seen l
def ac6(s:St)(touched:List A6):Bool:=aq3 s.name touched [] s.args
def aA7(p:Pg):Int×Int:=if(X0 p).1≠0 then(1,0)else match(b9 p).l.find? fun it=>decide (it.s.kind=4) && !ac6 it.s (U9 p it.s.proc)with
 | some it=>(8,it.s.id)
 | none=>(0,0)
def aJ9(p:Pg):Int×Int:=
 if P9 p=false then(1,0)
 else if(N7 p).1≠0 then N7 p
 else if(X0 p).1≠0 then X0 p
 else if(ay8 p).1≠0 then ay8 p
 else aA7 p
def ac2(p:Pg):Bool:=decide ((aJ9 p).1=0)
theorem an2{α:Type}(p:α→Bool):∀(l:List α) (i k:Nat) (hk:k<l.length),(∀j (hj:j<k),p (l[j]'(by omega))=false)→p l[k]=true→V3 p i l=(i+k:Nat)
 | [],i,k,hk,_,_=>by simp at hk
 | x::l,i,0,hk,h1,h2=>by
  have h2':p x=true:=h2;rw[V3,if_pos h2'];rfl
 | x::l,i,k+1,hk,h1,h2=>by
  have h0:p x=false:=h1 0 (by omega);rw[V3,if_neg (by rw[h0];simp),an2 p l (i+1) k (by simpa using hk) (fun j hj=>h1 (j+1) (by omega)) h2]
  congr 1;omega
theorem as6{α:Type}(p:α→Bool):∀(l:List α) (i:Nat),(∀x∈l,p x=false)→V3 p i l = -1
 | [],i,_=>rfl
 | x::l,i,h=>by
  rw[V3,if_neg (by rw[h x (by simp)];simp)];exact as6 p l (i+1) fun y hy=>h y (eD1 _ hy)
theorem as5{α:Type}(p:α→Bool):∀(l:List α) (i:Nat),decide (0≤V3 p i l)=l.any p
 | [],i=>rfl
 | x::l,i=>by
  rw[V3,List.any_cons];cases hp:p x
  ·rw[if_neg (by simp),as5 p l];rfl
  ·rw[if_pos rfl];simp
theorem aC3{α:Type}(p:α→Bool):∀(l:List α) (i:Nat),0≤V3 p i l→∃k,V3 p i l=(i+k:Nat)∧∃x,l[k]?=some x∧p x=true
 | [],i,h=>by simp[V3]at h
 | x::l,i,h=>by
  rw[V3]at h ⊢;cases hp:p x
  ·rw[hp,if_neg (by simp)]at h;rw[if_neg (by simp)];obtain⟨k,h1,y,h2,h3⟩:=aC3 p l (i+1) h;exact⟨k+1,by rw[h1];congr 1;omega,y,by simpa using h2,h3⟩
  ·rw[if_pos rfl];exact⟨0,by simp,x,rfl,hp⟩
theorem dK3:E8 prog 111 121 17 240=true:=by kernel_rfl
theorem cZ3:E8 prog 112 3 1 8=true:=by kernel_rfl
structure ShS (h:Hp) (w:World) (gb:Nat) (vg vp vL vLo vHi:Value) (L:List It) (lo hi:List Int):Prop where
 free:h gb=none
 cell:w.heap[gb]?=some (.cells #[vg,vp,vL,vLo,vHi] 114 (0,0))
 oL:A9 h w 121 vL L
 oLo:A9 h w 3 vLo lo
 oHi:A9 h w 3 vHi hi
 d1:∀b,A4 vL b→b≠gb∧¬A4 vLo b∧¬A4 vHi b
 d2:∀b,A4 vLo b→b≠gb∧¬A4 vHi b
 d3:∀b,A4 vHi b→b≠gb
section
variable {h:Hp} {w:World} {gb:Nat} {vg vp vL vLo vHi:Value} {L:List It} {lo hi:List Int}
theorem ShS.lt(s:ShS h w gb vg vp vL vLo vHi L lo hi):gb<w.heap.size:=(ex0.1 s.cell).1
theorem ShS.mod{M:Nat→Prop}{w':World}(s:ShS h w gb vg vp vL vLo vHi L lo hi)(hm:o9 M w w')(h0:¬M gb)(h1:∀b,A4 vL b→¬M b)(h2:∀b,A4 vLo b→¬M b)(h3:∀b,A4 vHi b→¬M b):ShS h w' gb vg vp vL vLo vHi L lo hi:=
 ⟨s.free,(hm.block gb s.lt h0).trans s.cell,s.oL.mod hm h1,s.oLo.mod hm h2,s.oHi.mod hm h3,s.d1,s.d2,s.d3⟩
theorem ShS.ext{w':World}(s:ShS h w gb vg vp vL vLo vHi L lo hi)(hx:o6 w w'):ShS h w' gb vg vp vL vLo vHi L lo hi:=
 s.mod hx id (fun _ _=>id) (fun _ _=>id) (fun _ _=>id)
theorem ShS.setL{w1 w2:World}{vL':Value}{L':List It}(s:ShS h w gb vg vp vL vLo vHi L lo hi)(h1:o9 (A4 vL) w w1)(ho:A9 h w1 121 vL' L')(hv:E0 w vL vL')
  (h2:o9 (fun b=>b=gb) w1 w2) (hc:w2.heap[gb]?=some (.cells #[vg,vp,vL',vLo,vHi] 114 (0,0))):ShS h w2 gb vg vp vL' vLo vHi L' lo hi:=by
 have hne:∀b,A4 vL' b→b≠gb∧¬A4 vLo b∧¬A4 vHi b:=fun b hb=>by
  rcases hv b hb with k|k
  ·exact s.d1 b k
  ·exact⟨fun e=>by have:=s.lt;omega,fun e=>by have:=s.oLo.lt e;omega,fun e=>by have:=s.oHi.lt e;omega⟩
 refine⟨s.free,hc,ho.mod h2 fun b hb=>(hne b hb).1,(s.oLo.mod h1 fun b hb hb2=>(s.d1 b hb2).2.1 hb).mod h2 fun b hb=>(s.d2 b hb).1,(s.oHi.mod h1 fun b hb hb2=>(s.d1 b hb2).2.2 hb).mod h2 fun b hb=>s.d3 b hb,hne,s.d2,s.d3⟩
theorem ShS.setLo{w1 w2:World}{v':Value}{lo':List Int}(s:ShS h w gb vg vp vL vLo vHi L lo hi)(h1:o9 (A4 vLo) w w1)(ho:A9 h w1 3 v' lo')(hv:E0 w vLo v')
  (h2:o9 (fun b=>b=gb) w1 w2) (hc:w2.heap[gb]?=some (.cells #[vg,vp,vL,v',vHi] 114 (0,0))):ShS h w2 gb vg vp vL v' vHi L lo' hi:=by
 have hne:∀b,A4 v' b→b≠gb∧¬A4 vL b∧¬A4 vHi b:=fun b hb=>by
  rcases hv b hb with k|k
  ·exact⟨(s.d2 b k).1,fun e=>(s.d1 b e).2.1 k,(s.d2 b k).2⟩
  ·exact⟨fun e=>by have:=s.lt;omega,fun e=>by have:=s.oL.lt e;omega,fun e=>by have:=s.oHi.lt e;omega⟩
 refine⟨s.free,hc,(s.oL.mod h1 fun b hb hb2=>(s.d1 b hb).2.1 hb2).mod h2 fun b hb=>(s.d1 b hb).1,ho.mod h2 fun b hb=>(hne b hb).1,(s.oHi.mod h1 fun b hb hb2=>(s.d2 b hb2).2 hb).mod h2 fun b hb=>s.d3 b hb,fun b hb=>⟨(s.d1 b hb).1,fun e=>(hne b e).2.1 hb,(s.d1 b hb).2.2⟩,fun b hb=>⟨(hne b hb).1,(hne b hb).2.2⟩,s.d3⟩
theorem ShS.setHi{w1 w2:World}{v':Value}{hi':List Int}(s:ShS h w gb vg vp vL vLo vHi L lo hi)(h1:o9 (A4 vHi) w w1)(ho:A9 h w1 3 v' hi')(hv:E0 w vHi v')
  (h2:o9 (fun b=>b=gb) w1 w2) (hc:w2.heap[gb]?=some (.cells #[vg,vp,vL,vLo,v'] 114 (0,0))):ShS h w2 gb vg vp vL vLo v' L lo hi':=by
 have hne:∀b,A4 v' b→b≠gb∧¬A4 vL b∧¬A4 vLo b:=fun b hb=>by
  rcases hv b hb with k|k
  ·exact⟨s.d3 b k,fun e=>(s.d1 b e).2.2 k,fun e=>(s.d2 b e).2 k⟩
  ·exact⟨fun e=>by have:=s.lt;omega,fun e=>by have:=s.oL.lt e;omega,fun e=>by have:=s.oLo.lt e;omega⟩
 refine⟨s.free,hc,(s.oL.mod h1 fun b hb hb2=>(s.d1 b hb).2.2 hb2).mod h2 fun b hb=>(s.d1 b hb).1,(s.oLo.mod h1 fun b hb hb2=>(s.d2 b hb).2 hb2).mod h2 fun b hb=>(s.d2 b hb).1,ho.mod h2 fun b hb=>(hne b hb).1,fun b hb=>⟨(s.d1 b hb).1,(s.d1 b hb).2.1,fun e=>(hne b e).2.1 hb⟩,fun b hb=>⟨(s.d2 b hb).1,fun e=>(hne b e).2.2 hb⟩,fun b hb=>(hne b hb).1⟩
end
def T4(h:Hp)(w:World)(tb:Nat)(x:It):Prop:=∃cs:List Value,w.heap[tb]?=some (.cells (List.toArray cs) 121 (0,0))∧A3.enc h cs x
section
variable {h:Hp} {w:World} {tb:Nat} {x:It}
theorem T4.mod{M:Nat→Prop}{w':World}(ht:T4 h w tb x)(hm:o9 M w w')(h0:¬M tb):T4 h w' tb x:=by
 obtain⟨cs,h1,h2⟩:=ht;exact⟨cs,(hm.block tb (ex0.1 h1).1 h0).trans h1,h2⟩
theorem T4.lt(ht:T4 h w tb x):tb<w.heap.size:=by
 obtain⟨cs,h1,h2⟩:=ht;exact(ex0.1 h1).1
theorem T4.new{v:Value}(hv:SV h v x):∃tb wz w',(Instr.alloc 121 true (.tuple #[])).run prog w = .ok (.pointer (some ⟨tb,0,none⟩)) wz∧(Instr.storeAt 121 (.pointer (some ⟨tb,0,none⟩)) v).run prog wz = .ok () w'∧o6 w w'∧w.heap.size≤tb∧T4 h w' tb x:=by
 obtain⟨cs,rfl,he⟩:=hv;obtain⟨h1,h2⟩:=aH8 (P:=prog) (w:=w) (T:=121) bX8 rfl (cs:=List.toArray cs) (by rw[I6];simpa using(show cs.length=17 from A3.len he)) (by simpa using A3.one he);exact⟨w.heap.size,_,_,h1,h2,o6.alloc _ _,ex9 _,cs,eA5 w _,he⟩
theorem T4.ld(ht:T4 h w tb x):∃v,SV h v x∧(∀w',w'.heap[tb]?=w.heap[tb]?→(Instr.loadAt 121 (.pointer (some ⟨tb,0,none⟩))).run prog w' = .ok v w'∧(Instr.loadAt 3 (.pointer (some ⟨tb,15,none⟩))).run prog w' = .ok (.int .i64 x.next) w'):=by
 obtain⟨cs,h1,h2⟩:=ht;refine⟨.agg (List.toArray cs),⟨cs,rfl,h2⟩,fun w' hw=>⟨?_,?_⟩⟩
 ·exact R2 (hw.trans h1) X7 X9 X8 (by rw[I6];simpa using(show cs.length=17 from A3.len h2).symm)
 ·obtain⟨c,rfl,hc⟩:=aF0 h2;obtain⟨a1,a2,a3,a4,a5,a6,a7,a8,a9,a10,a11,a12,a13,rfl⟩:=aC7 (A3.len hc);exact F0 (hw.trans h1) rfl F2
theorem T4.setS{v:Value}{s:St}(ht:T4 h w tb x)(hs:SV h v s):∃w',(Instr.storeAt 45 (.pointer (some ⟨tb,0,none⟩)) v).run prog w = .ok () w'∧T4 h w' tb ⟨s,x.proc,x.up,x.next,x.loop⟩∧o9 (fun b=>b=tb) w w':=by
 obtain⟨cs,h1,h2⟩:=ht;obtain⟨ds,rfl,h3⟩:=hs;obtain⟨c,rfl,hc⟩:=aF0 h2;have hl:c.length=13:=A3.len hc;have hl2:ds.length=13:=A3.len h3;obtain⟨w',k1,k2,k3⟩:=bc7 (P:=prog) (t:=45) (o:=0) (cs:=ds) h1 (by simp[hl,hl2]) (A3.one h3) aI9 (by rw[W9,hl2]);refine⟨w',k1,⟨_,k2,?_⟩,k3⟩;refine⟨ds,?_,h3⟩;simp only[eH2,eG1,ez8,hl2]
 congr 1
 simp only[ey6];rw[←hl,List.drop_left];simp
theorem T4.setN(n:Int)(ht:T4 h w tb x):∃w',(Instr.storeAt 3 (.pointer (some ⟨tb,15,none⟩)) (.int .i64 n)).run prog w = .ok () w'∧T4 h w' tb ⟨x.s,x.proc,x.up,n,x.loop⟩∧o9 (fun b=>b=tb) w w':=by
 obtain⟨cs,h1,h2⟩:=ht;obtain⟨c,rfl,hc⟩:=aF0 h2;obtain⟨a1,a2,a3,a4,a5,a6,a7,a8,a9,a10,a11,a12,a13,rfl⟩:=aC7 (A3.len hc);obtain⟨w',k1,k2,k3⟩:=ai0 (P:=prog) (t:=3) (i:=15) (x:=.int .i64 n) h1 (by simp) rfl rfl (p9 ay2).choose_spec.1 (by rw[←C8 (p9 ay2).choose_spec.1];exact aR6);exact⟨w',k1,⟨_,k2,_,rfl,hc⟩,k3⟩
theorem T4.setLp(n:Int)(ht:T4 h w tb x):∃w',(Instr.storeAt 3 (.pointer (some ⟨tb,16,none⟩)) (.int .i64 n)).run prog w = .ok () w'∧T4 h w' tb ⟨x.s,x.proc,x.up,x.next,n⟩∧o9 (fun b=>b=tb) w w':=by
 obtain⟨cs,h1,h2⟩:=ht;obtain⟨c,rfl,hc⟩:=aF0 h2;obtain⟨a1,a2,a3,a4,a5,a6,a7,a8,a9,a10,a11,a12,a13,rfl⟩:=aC7 (A3.len hc);obtain⟨w',k1,k2,k3⟩:=ai0 (P:=prog) (t:=3) (i:=16) (x:=.int .i64 n) h1 (by simp) rfl rfl (p9 ay2).choose_spec.1 (by rw[←C8 (p9 ay2).choose_spec.1];exact aR6);exact⟨w',k1,⟨_,k2,_,rfl,hc⟩,k3⟩
end
theorem bF5(h:Hp):A3.enc h [.int .i64 0,.int .i64 0,.slice none 0 0,o7 e0,o7 e0,.int .i64 0,.int .i64 0,o7 e0,.slice none 0 0,.bool false,.slice none 0 0,.slice none 0 0,.slice none 0 0] cm9:=by
 refine aT6.2 ⟨.slice none 0 0,[.int .i64 0,.int .i64 0,o7 e0,.slice none 0 0],.slice none 0 0,.slice none 0 0,.slice none 0 0,rfl,az8 h,bf9.2 ⟨.slice none 0 0,rfl,az8 h⟩,az8 h,az8 h,az8 h⟩
theorem ci1(h:Hp)(a b c d:Int):∃v,C0 prog 121 [(1,.int .i64 a),(2,.int .i64 b),(3,.int .i64 c),(4,.int .i64 d)]=some v∧SV h v (⟨cm9,a,b,c,d⟩:It):=by
 refine⟨_,by simp[C0,bX2,J3,Instr.fill,Value.cells];rfl,_,rfl,_,rfl,bF5 h⟩
theorem ci0(h:Hp)(a c:Int):∃v,C0 prog 121 [(1,.int .i64 a),(3,.int .i64 c)]=some v∧SV h v (⟨cm9,a,0,c,0⟩:It):=by
 refine⟨_,by simp[C0,bX2,J3,Instr.fill,Value.cells];rfl,_,rfl,_,rfl,bF5 h⟩
end Go.Proofs.YtcbnbgpphippoaaGreat
