/- pdgControl.proved: for every input the law returns true. No condition. Part 1 of 7. -/
import Derived.Calls
import Derived.IntWalk
import Derived.KernelRfl
import Derived.Laws.AppendOwn
import Derived.Laws.CopyRow
import Derived.Laws.Entries
import Derived.Laws.Sem
import Derived.Laws.Strings
import Derived.Orders
import Derived.OrdersHeld
import Derived.StillTail
import Derived.Test.YtcbnbgpphippoaaGreatProg
set_option maxRecDepth 1000000
set_option maxHeartbeats 8000000
set_option linter.unusedVariables false
set_option linter.unusedSimpArgs false
set_option linter.unnecessarySimpa false
set_option linter.defProp false
namespace Go.Proofs.YtcbnbgpphippoaaGreat
open Go Tryz
def ew1:=@Array.getElem?_eq_some_iff
def ex4:=@Bool.and_eq_true
def eB8:=@Bool.false_eq_true
def eH5:=@Bool.or_eq_true
def eE6:=@List.all_eq_true
def eE1:=@List.getElem?_drop
def ey0:=@List.length_cons
def eG3:=@List.mem_of_mem_drop
def eF0:=@Nat.add_assoc
def ex0:=@Nat.le_refl
def ez4:=@Nat.lt_or_ge
def ez1:=@decide_eq_true_eq
def eC8:=@if_false
def eB5:=@if_true
abbrev Fr:=Nat→Value
def aa0(a:Act):Fr:=fun i=>a.tmps.getD i undef
def p7(f:Fr)(d:Nat)(v:Value):Fr:=fun i=>if i=d then v else f i
theorem ep7{f:Fr}{d:Nat}{v:Value}{i:Nat}:p7 f d v i=if i=d then v else f i:=rfl
def A5(f:Fr):Option Nat→Value→Fr
 | some d,v=>p7 f d v
 | none,_=>f
def okd(n:Nat):Option Nat→Bool
 | some d=>decide (d<n)
 | none=>true
def ev(f:Fr):Operand→Value
 | .tmp t=>f t
 | .const v=>v
 | .global g=>.pointer (some ⟨g,0,none⟩)
 | .func g=>.func (.func g) #[] #[]
theorem bA0(a:Act):a.eval=ev (aa0 a):=by
 funext x;cases x<;>rfl
theorem aQ3(a:Act)(d:Option Nat)(v:Value):(a.put d v).tmps.size=a.tmps.size:=by
 cases d<;>simp[Act.put]
theorem ax0(a:Act)(d:Option Nat)(v:Value):(a.put d v).defers=a.defers:=by
 cases d<;>simp[Act.put]
theorem aO2(a:Act)(d:Option Nat)(v:Value)(h:okd a.tmps.size d=true):aa0 (a.put d v)=A5 (aa0 a) d v:=by
 cases d with
 | none=>rfl
 | some d=>
  have hd:d<a.tmps.size:=by simpa[okd]using h
  funext i
  simp only[aa0,Act.put,A5,p7,Array.getD_eq_getD_getElem?,Array.getElem?_setIfInBounds];by_cases hi:i=d
  ·subst hi;simp[hd]
  ·have:¬d=i:=fun e=>hi e.symm;simp[hi,this]
def aI3(ops:Array Oper)(f:Fr)(j:Nat):Option Bool:=
 match(ops[j]?).bind (·.dst)with
 | some d=>match f d with
   | .bool b=>some b
   | _=>none
 | none=>none
theorem ak3(ops:Array Oper)(a:Act):yielded ops a.tmps=aI3 ops (aa0 a):=by
 funext j
 unfold yielded aI3;cases h:(ops[j]?).bind (·.dst)with
 | none=>simp
 | some d=>
  simp only[Option.bind_some,aa0,Array.getD_eq_getD_getElem?];cases h2:a.tmps[d]? with
  | none=>simp[undef]
  | some v=>cases v<;>rfl
def N8(P:Program)(o:Oper)(K:Fr→World→Prop)(f:Fr)(w:World):Prop:=
 match(execOp (ev f) o).run P w with
 | .ok (.value v) w'=>K (A5 f o.dst v) w'
 | .ok .skip w'=>K (A5 f o.dst undef) w'
 | .ok (.enter g args) w'=>Calls P g args w' fun e w''=>∃v,e = .returned v∧K (A5 f o.dst v) w''
 | _=>False
theorem af3{P:Program}{o:Oper}{K K':Fr→World→Prop}{f:Fr}{w:World}(h:∀f w,K f w→K' f w)(hs:N8 P o K f w):N8 P o K' f w:=by
 unfold N8 at *;generalize(execOp (ev f) o).run P w=r at *;cases r with
 | halt x w'=>exact hs
 | ok n w'=>
  cases n
  case value v=>exact h _ _ hs
  case skip=>exact h _ _ hs
  case enter g args=>exact Calls.mono hs fun e w'' ⟨v,he,hk⟩=>⟨v,he,h _ _ hk⟩
  all_goals exact hs
def bm2(P:Program)(S:World→Prop)(o:Oper)(f:Fr)(v:Value):Prop:=
 ∀w,S w→(execOp (ev f) o).run P w = .ok (.value v) w
def lft(n:Nat)(Q:Exit→Fr→World→Prop):Exit→Act→World→Prop:=fun e a w=>
 a.tmps.size=n∧a.defers=[]∧Q e (aa0 a) w
theorem bc0{P:Program}{o:Oper}{K:Fr→World→Prop}{a:Act}{w:World}{n:Nat}{Q:Exit→Act→World→Prop}
  {K':Act→World→Prop} (hn:a.tmps.size=n) (hd:a.defers=[]) (ho:okd n o.dst=true)
  (hK:∀a' w',a'.tmps.size=n→a'.defers=[]→K (aa0 a') w'→K' a' w') (hs:N8 P o K (aa0 a) w):o.wp P a w K' Q:=by
 unfold N8 at hs;unfold Oper.wp;rw[bA0];generalize(execOp (ev (aa0 a)) o).run P w=r at *;have key:∀v w',K (A5 (aa0 a) o.dst v) w'→K' (a.put o.dst v) w':=fun v w' h=>
  hK _ _ (by rw[aQ3];exact hn) (by rw[ax0];exact hd) (by rw[aO2 _ _ _ (by rw[hn];exact ho)];exact h)
 cases r with
 | halt x w'=>exact hs.elim
 | ok n w'=>
  cases n
  case value v=>exact key _ _ hs
  case skip=>exact key _ _ hs
  case enter g args=>exact Calls.mono hs fun e w'' ⟨v,he,hk⟩=>by subst he;exact key _ _ hk
  all_goals exact hs.elim
def Run(P:Program)(ops:Array Oper):List Oper→(Fr→World→Prop)→Fr→World→Prop
 | [],K,f,w=>K f w
 | o::l,K,f,w=>if Region.wanted o (aI3 ops f)then N8 P o (Run P ops l K) f w else Run P ops l K (A5 f o.dst undef) w
def ct0(n:Nat)(ops:Array Oper):Bool:=ops.all fun o=>okd n o.dst
theorem ar4{P:Program}{ops:Array Oper}{n:Nat}{Q:Exit→Fr→World→Prop}:∀(l:List Oper) (a:Act) (w:World),(∀o∈l,okd n o.dst=true) →
  a.tmps.size=n→a.defers=[]→Run P ops l (Q .normal) (aa0 a) w→wpList P ops (lft n Q) l a w
 | [],a,w,_,hn,hd,h=>⟨hn,hd,h⟩
 | o::l,a,w,ho,hn,hd,h=>by
  unfold Run at h;unfold wpList;rw[ak3];split
  ·rename_i hw;rw[if_pos hw]at h;exact .inl (bc0 hn hd (ho o (by simp)) (fun a' w' hn' hd' h'=>ar4 l a' w' (fun o' h''=>ho o' (by simp[h''])) hn' hd' h') h)
  ·rename_i hw;rw[if_neg hw]at h;exact ar4 l _ _ (fun o' h''=>ho o' (by simp[h''])) (by rw[aQ3];exact hn) (by rw[ax0];exact hd)
    (by rw[aO2 _ _ _ (by rw[hn];exact ho o (by simp))];exact h)
def flt:Op→Bool
 | .move _ | .assign _ | .pick .. | .load .. | .nilCheck _ | .binOp .. | .unOp .. | .convert .. | .makeFunc .. | .slice .. | .fieldAddr .. | .field .. | .indexAddr .. | .index .. | .lookup .. | .extract ..=>true
 | .call {callee:=.builtin b,..}=>match b with
   | .len | .cap | .min | .max=>true
   | _=>false
 | _=>false
inductive aA6 where
 | nil
 | op (i:Nat) (r:aA6)
 | fork (rs:List Nat) (k:Nat→aA6)
def ap6(P:Program)(ops:Array Oper)(S:World→Prop):aA6→(Fr→World→Prop)→Fr→World→Prop
 | .nil,K,f,w=>K f w
 | .op i l,K,f,w=>
  match ops[i]? with
  | none=>False
  | some o=>
   if Region.wanted o (aI3 ops f)then
    if flt o.op then ∃v,bm2 P S o f v∧ap6 P ops S l K (A5 f o.dst v) w
    else N8 P o (fun f' w'=>S w'∧ap6 P ops S l K f' w') f w
   else ap6 P ops S l K (A5 f o.dst undef) w
 | .fork rs k,K,f,w=>∀i∈rs,
   match ops[i]? with
   | none=>False
   | some o=>
    if Region.wanted o (aI3 ops f)then N8 P o (fun f' w'=>S w'∧ap6 P ops S (k i) K f' w') f w
    else ap6 P ops S (k i) K (A5 f o.dst undef) w
def aP4(ops:Array Oper)(n:Nat):Nat→aA6→Array Bool→Bool
 | 0,.nil,listed=>Region.seqB .any ops (ops.size-n) n listed
 | m+1,.op i l,listed=>decide (i<n)&&(match ops[i]? with
   | none=>false
   | some o=>(if flt o.op then(Region.ready .any ops listed).contains i&&Region.free .any ops listed i else decide (Region.ready .any ops listed=[i]))) &&
  aP4 ops n m l (listed.setIfInBounds i true)
 | m+1,.fork rs k,listed=>decide (Region.ready .any ops listed=rs) && !rs.isEmpty&&rs.all fun i=>decide (i<n)&&aP4 ops n m (k i) (listed.setIfInBounds i true)
 | _,_,_=>false
def bL6(ops:Array Oper)(n:Nat)(ord:aA6):Bool:=
 Region.noSelect ops&&(decide (n=ops.size)||(decide (n<ops.size)&&Region.sinkB .any ops n&&Region.chainB .any ops n)) &&
 aP4 ops n n ord (Array.replicate ops.size false)
section
variable {P:Program} {ops:Array Oper} {Q:Exit→Act→World→Prop} {S:World→Prop}
def aM8(P:Program)(ops:Array Oper)(Q:Exit→Act→World→Prop)(S:World→Prop)(n:Nat):Nat→Array Bool→Act→World→Prop
 | 0,listed,a,w=>Region.ready .any ops listed=[]∧Q .normal a w
 | fuel+1,listed,a,w=>
  (Region.ready .any ops listed=[]→Q .normal a w) ∧
  ∀i∈Region.ready .any ops listed,wpOp P ops Q i (fun a' w'=>(i<n→S w')∧aM8 P ops Q S n fuel (listed.setIfInBounds i true) a' w') a w
theorem bo1{n:Nat}:∀(fuel:Nat) (listed:Array Bool) (a:Act) (w:World),aM8 P ops Q S n fuel listed a w→wpAny P .any ops Q fuel listed a w
 | 0,_,_,_,h=>h
 | fuel+1,_,_,_,h=>⟨h.1,fun i hi=>wpOp_mono (fun a' w' h'=>bo1 fuel _ a' w' h'.2) (h.2 i hi)⟩
theorem bE1{n i:Nat}{oi:Oper}{v:Value}(hi:ops[i]?=some oi)(hsel:∀(j:Nat) (o:Oper) cs b,ops[j]?=some o→o.op ≠ .select cs b)
  (hQ:∀c a w,Q (.panic c) (a.put oi.dst v) w→Q (.panic c) a w) (hin:i<n)
  (htw:∀listed,HeadInv .any ops n listed→listed.getD i true=false→∀t,n≤t→t∉Region.ready .any ops listed) :
  ∀(fuel:Nat) (listed:Array Bool) (a:Act) (w:World),HeadInv .any ops n listed →
   (∀j oj,ops[j]?=some oj→j≠i→listed.getD j true=false→(∀e∈oj.after,Region.binds .any e=true→e.on≠i)→oi.apart ops oj=true) →
   i∈Region.ready .any ops listed→YieldsIf P ops S oi v a→S w →
   aM8 P ops Q S n fuel (listed.setIfInBounds i true) (a.put oi.dst v) w→aM8 P ops Q S n (fuel+1) listed a w:=by
 intro fuel
 induction fuel with
 | zero=>
  intro listed a w _ _ hr hy hS H;refine⟨fun h=>(by rw[h]at hr;cases hr),fun j hj=>?_⟩;by_cases hji:j=i
  ·subst hji;exact hy.wpOp hi hS ⟨fun _=>hS,H⟩
  ·have:=ready_mono hj hji;rw[H.1]at this;cases this
 | succ fuel ih=>
  intro listed a w inv hfree hr hy hS H;refine⟨fun h=>(by rw[h]at hr;cases hr),fun j hj=>?_⟩;by_cases hji:j=i
  ·subst hji;exact hy.wpOp hi hS ⟨fun _=>hS,H⟩
  ·have h1:=H.2 j (ready_mono hj hji);obtain⟨hjun,oj,hoj,hall⟩:=mem_ready.1 hj;have hiun:=(mem_ready.1 hr).1;have hjn:j<n:=by
    rcases ez4 j n with h|h
    ·exact h
    ·exact absurd hj (htw listed inv hiun j h)
   have hnot:∀e∈oj.after,Region.binds .any e=true→e.on≠i:=fun e he hb heq=>by
    have h1:=hall e he hb;rw[heq,getD_both hiun]at h1;cases h1
   have h2:=wpOp_putIf hoj (hfree j oj hoj hji hjun hnot) (fun cs b=>hsel i oi cs b hi) (fun cs b=>hsel j oj cs b hoj) hQ hy h1;have hfree':∀k ok,ops[k]?=some ok→k≠i→(listed.setIfInBounds j true).getD k true=false →
     (∀e∈ok.after,Region.binds .any e=true→e.on≠i)→oi.apart ops ok=true:=fun k ok hk hki hun hno=>by
    refine hfree k ok hk hki ?_ hno;by_cases hjk:j=k
    ·subst hjk;exact hjun
    ·rw[getD_set_ne true hjk]at hun;exact hun
   refine wpOp_mono (fun a' w' h3=>⟨h3.2.1,ih (listed.setIfInBounds j true) a' w' (inv.set hj hjn) hfree' (ready_mono hr (Ne.symm hji)) h3.1 (h3.2.1 hjn) ?_⟩) h2;rw[Array.setIfInBounds_comm _ _ hji];exact h3.2.2
theorem ar5{o:Oper}{i n:Nat}{K:Fr→World→Prop}{a:Act}{w:World}{K':Act→World→Prop}(hi:ops[i]?=some o)
  (hn:a.tmps.size=n) (hd:a.defers=[]) (ho:okd n o.dst=true) (hK:∀a' w',a'.tmps.size=n→a'.defers=[]→K (aa0 a') w'→K' a' w')
  (h:if Region.wanted o (aI3 ops (aa0 a))then N8 P o K (aa0 a) w else K (A5 (aa0 a) o.dst undef) w):wpOp P ops Q i K' a w:=by
 unfold wpOp;simp only[hi];rw[ak3];split
 ·rename_i hw;rw[if_pos hw]at h;exact .inl (bc0 hn hd ho hK h)
 ·rename_i hw;rw[if_neg hw]at h;exact hK _ _ (by rw[aQ3];exact hn) (by rw[ax0];exact hd) (by rw[aO2 _ _ _ (by rw[hn];exact ho)];exact h)
theorem aJ8{n N:Nat}{Q:Exit→Fr→World→Prop}:∀(l:List Oper) (k:Nat) (listed:Array Bool) (a:Act) (w:World),(∀j,l[j]?=ops[k+j]?)→n≤k →
  (∀o∈l,okd N o.dst=true)→a.tmps.size=N→a.defers=[] →
  Region.seqB .any ops l.length k listed=true→Run P ops l (Q .normal) (aa0 a) w→aM8 P ops (lft N Q) S n l.length listed a w
 | [],_,_,_,_,_,_,_,hn,hd,hB,h=>⟨by simpa[Region.seqB]using hB,hn,hd,h⟩
 | o::l,k,listed,a,w,hl,hk,ho,hn,hd,hB,h=>by
  have h0:ops[k]?=some o:=by simpa using(hl 0).symm
  simp only[ey0,Region.seqB,ex4,ez1]at hB;refine⟨fun h1=>(by rw[hB.1]at h1;cases h1),fun i hi=>?_⟩;rw[hB.1]at hi;have hik:i=k:=by simpa using hi
  subst hik;refine ar5 h0 hn hd (ho o (by simp)) (K:=Run P ops l (Q .normal)) (fun a' w' hn' hd' h'=>⟨fun h=>by omega,?_⟩) (by unfold Run at h;exact h);exact aJ8 l (i+1) _ a' w' (fun j=>by have:=hl (j+1);simpa[eF0,Nat.add_comm 1 j]using this) (by omega) (fun o' h''=>ho o' (by simp[h''])) hn' hd' hB.2 h'
theorem bo0{n N:Nat}{Q:Exit→Fr→World→Prop}(hQ:∀c f w,¬Q (.panic c) f w)(hs:Region.noSelect ops=true)
  (htw:∀i,i<n→∀listed,HeadInv .any ops n listed→listed.getD i true=false→∀t,n≤t→t∉Region.ready .any ops listed) (hdst:∀o∈ops.toList,okd N o.dst=true) :
  ∀(m:Nat) (l:aA6) (listed:Array Bool) (a:Act) (w:World),HeadInv .any ops n listed→a.tmps.size=N→a.defers=[]→S w→aP4 ops n m l listed=true →
   ap6 P ops S l (Run P ops (ops.toList.drop n) (Q .normal)) (aa0 a) w→aM8 P ops (lft N Q) S n (m+(ops.size-n)) listed a w:=by
 have hmem:∀{i:Nat} {o:Oper},ops[i]?=some o→okd N o.dst=true:=by
  intro i o ho;have:=Array.mem_of_getElem? ho;exact hdst o (by simpa using this)
 intro m
 induction m with
 | zero=>
  intro l listed a w inv ha hd _ hB h;cases l
  case nil=>
   have:=aJ8 (S:=S) (n:=n) (N:=N) (Q:=Q) (P:=P) (ops:=ops) (ops.toList.drop n) n listed a w (fun j=>by simp[eE1]) (ex0 _)
    (fun o ho=>hdst o (eG3 ho)) ha hd (by simpa[aP4]using hB) h
   simpa using this
  all_goals (simp[aP4]at hB)
 | succ m ih=>
  intro l listed a w inv ha hd hS hB h;have e1:m+1+(ops.size-n)=(m+(ops.size-n))+1:=by omega
  rw[e1];cases l
  case nil=>simp[aP4]at hB
  case op i l=>
   simp only[aP4,ex4,ez1]at hB;obtain⟨⟨hin,hB1⟩,hB2⟩:=hB;simp only[ap6]at h;cases hoi:ops[i]? with
   | none=>simp[hoi]at h
   | some o=>
    simp only[hoi]at h hB1;have hod:=hmem hoi;by_cases hf:flt o.op=true
    ·simp only[hf,eB5,ex4]at h hB1;have hr:i∈Region.ready .any ops listed:=by simpa using hB1.1
     have step:∀v,YieldsIf P ops S o v a→ap6 P ops S l (Run P ops (ops.toList.drop n) (Q .normal)) (A5 (aa0 a) o.dst v) w →
       aM8 P ops (lft N Q) S n ((m+(ops.size-n))+1) listed a w:=fun v hy hK=>
      bE1 hoi (Region.noSelect_spec hs) (fun c a w hh=>absurd hh.2.2 (hQ _ _ _)) hin (htw i hin) _ listed a w inv (Region.free_spec hoi hB1.2) hr hy hS
       (ih l _ _ w (inv.set hr hin) (by rw[aQ3];exact ha) (by rw[ax0];exact hd) hS hB2 (by rw[aO2 _ _ _ (by rw[ha];exact hod)];exact hK))
     by_cases hw:Region.wanted o (aI3 ops (aa0 a))=true
     ·rw[if_pos hw]at h;obtain⟨v,hv,hK⟩:=h;refine step v (.inl ⟨by rw[ak3];exact hw,fun w' hw'=>?_⟩) hK;rw[bA0];exact hv w' hw'
     ·rw[if_neg hw]at h;exact step undef (.inr ⟨by rw[ak3];simpa using hw,rfl⟩) h
    ·simp only[hf,eB8,eC8,ez1]at h hB1;have hr:i∈Region.ready .any ops listed:=by rw[hB1];simp
     refine⟨fun h1=>(by rw[hB1]at h1;cases h1),fun j hj=>?_⟩;rw[hB1]at hj;have hji:j=i:=by simpa using hj
     subst hji;refine ar5 hoi ha hd hod (K:=fun f' w'=>S w'∧ap6 P ops S l (Run P ops (ops.toList.drop n) (Q .normal)) f' w') (fun a' w' ha' hd' h'=>⟨fun _=>h'.1,?_⟩) ?_
     ·exact ih l _ a' w' (inv.set hr hin) ha' hd' h'.1 hB2 h'.2
     ·split
      ·rename_i hw;rw[if_pos hw]at h;exact h
      ·rename_i hw;rw[if_neg hw]at h;exact⟨hS,h⟩
  case fork rs k=>
   simp only[aP4,ex4,ez1,eE6]at hB;obtain⟨⟨hrs,hne⟩,hall⟩:=hB;simp only[ap6]at h;refine⟨fun h1=>(by rw[hrs]at h1;subst h1;simp at hne),fun i hi=>?_⟩;have hi':i∈rs:=by rw[hrs]at hi;exact hi
   have h2:=h i hi';obtain⟨hin,hB2⟩:=hall i hi';cases hoi:ops[i]? with
   | none=>simp[hoi]at h2
   | some o=>
    simp only[hoi]at h2;refine ar5 hoi ha hd (hmem hoi) (K:=fun f' w'=>S w'∧ap6 P ops S (k i) (Run P ops (ops.toList.drop n) (Q .normal)) f' w') (fun a' w' ha' hd' h'=>⟨fun _=>h'.1,?_⟩) ?_
    ·exact ih (k i) _ a' w' (inv.set hi hin) ha' hd' h'.1 hB2 h'.2
    ·split
     ·rename_i hw;rw[if_pos hw]at h2;exact h2
     ·rename_i hw;rw[if_neg hw]at h2;exact⟨hS,h2⟩
theorem bo2{id n N:Nat}{ord:aA6}{Q:Exit→Fr→World→Prop}{a:Act}{w:World}(hm:P.follows .mixedOrders=true)(hQ:∀c f w,¬Q (.panic c) f w)
  (hok:bL6 ops n ord=true) (hdst:ct0 N ops=true) (ha:a.tmps.size=N) (hd:a.defers=[]) (hS:S w.drew)
  (h:ap6 P ops S ord (Run P ops (ops.toList.drop n) (Q .normal)) (aa0 a) w.drew):(Code.region id ops true).wp P (lft N Q) a w:=by
 simp only[bL6,ex4]at hok;obtain⟨⟨hs,hsz⟩,hord⟩:=hok;have hn:n≤ops.size:=by
  simp only[eH5,ez1,ex4]at hsz;omega
 have inv0:HeadInv .any ops n (Array.replicate ops.size false):=
  ⟨by simp,fun j oj _ hl=>(by rw[getD_replicate_false]at hl;cases hl),fun t _ ht=>getD_in (by simpa using ht) (getD_replicate_false _ _)⟩
 have htw:∀i,i<n→∀listed,HeadInv .any ops n listed→listed.getD i true=false→∀t,n≤t→t∉Region.ready .any ops listed:=by
  intro i hi listed inv hun t ht hr;simp only[eH5,ez1,ex4]at hsz;rcases hsz with h1|⟨⟨h1,h2⟩,h3⟩
  ·obtain⟨_,ot,hot,_⟩:=mem_ready.1 hr;have:=(ew1.1 hot).1;omega
  ·exact tail_waits h2 h3 h1 inv _ i rfl hi hun t ht hr
 refine wp_region_any hm (bo1 (S:=S) (n:=n) _ _ _ _ ?_);have hd':∀o∈ops.toList,okd N o.dst=true:=by
  intro o ho;have:=Array.all_eq_true'.1 hdst o (by simpa using ho);exact this
 have:=bo0 (S:=S) hQ hs htw hd' n ord _ a w.drew inv0 ha hd hS hord h
 rwa [show n+(ops.size-n)=ops.size by omega]at this
end
def eD2:=@List.getElem?_eq_none
def eA3:=@List.map_cons
def eB3:=@Option.isSome_iff_exists
def eC0:=@Option.map_some
def ex1:=@Option.some.inj
def eG8:=@Option.some.injEq
def ex2:=@Result.andThen_ok
def ey2:=@Sem.run_bind
def ez6:=@Sem.run_pure
def A7(P:Program)(t:TypeId):Option TypeId:=match P.underlying t with
 | some (.slice e)=>some e
 | _=>none
def bD1(P:Program)(t:TypeId):Bool:=match P.underlying t with
 | some .string=>true
 | _=>false
def C3(P:Program)(t:TypeId):Option (Nat×TypeId):=match P.underlying t with
 | some (.array n e)=>some (n,e)
 | _=>none
def E4(P:Program)(t:TypeId):Nat:=((P.info? t).map (·.size)).getD 0
def H3(P:Program)(t:TypeId):Option Value:=(P.info? t).bind (·.zero)
def cr7(P:Program)(t:TypeId):Nat:=((P.info? t).map (·.bytes)).getD 0
def B9(P:Program)(t:TypeId):Bool:=match P.underlying t with
 | some (.struct _)=>true
 | some (.array _ _)=>true
 | none=>true
 | _=>false
def v8(P:Program)(s:TypeId)(i:Nat):Option (Nat×TypeId):=match P.underlying s with
 | some (.struct fs)=>match fs[i]? with
   | some fl=>if E4 P fl.type=0 then none else some (fl.offset,fl.type)
   | none=>none
 | _=>none
def H7(P:Program)(t:TypeId):Nat:=match P.underlying t with
 | some .bool=>1
 | some (.pointer _)=>2
 | some (.slice _)=>3
 | some (.map _ _)=>4
 | some (.func _ _ _)=>5
 | some (.interface _)=>6
 | _=>0
def az9(P:Program)(t:TypeId):Option IntKind:=match P.underlying t with
 | some (.int k)=>some k
 | _=>none
def E7(P:Program)(t:TypeId):Option (Array Value×List (Nat×Nat)):=match(P.info? t).bind (·.zero),P.underlying t with
 | some z,some (.struct fs)=>if fs.toList.all (fun fl=>(P.info? fl.type).isSome)then some (z.cells,fs.toList.map fun fl=>(fl.offset,E4 P fl.type))else none
 | some z,some (.array n e)=>if(P.info? e).isSome then some (z.cells,(List.range n).map fun i=>(i*E4 P e,E4 P e))else none
 | _,_=>none
def isS:Value→Bool
 | .slice _ _ _=>true
 | _=>false
def vlen:Value→Nat
 | .slice _ n _=>n
 | _=>0
def bK5:Value→Bool
 | .slice none _ _=>true
 | _=>false
def vcap:Value→Nat
 | .slice _ _ c=>c
 | _=>0
def inS:Value→Nat→Bool
 | .slice (some _) n _,k=>decide (k<n)
 | _,_=>false
def H5:Value→Nat→Addr
 | .slice (some a) _ _,k=>a.add k
 | _,_=>default
def reS(v:Value)(l h sz:Nat):Value:=match v with
 | .slice a _ cap=>.slice (if cap=l then a else a.map (·.add (l*sz))) (h-l) (cap-l)
 | _=>undef
def E6(op:BinOp)(k:IntKind)(a b:Int):Option Value:=match op with
 | .add=>some (.int k (k.wrap (a+b)))
 | .sub=>some (.int k (k.wrap (a-b)))
 | .mul=>some (.int k (k.wrap (a*b)))
 | .quo=>if b=0 then none else some (.int k (k.wrap (a.tdiv b)))
 | .rem=>if b=0 then none else some (.int k (a.tmod b))
 | .eql=>some (.bool (a==b))
 | .neq=>some (.bool (a != b))
 | .lss=>some (.bool (a<b))
 | .leq=>some (.bool (a≤b))
 | .gtr=>some (.bool (a>b))
 | .geq=>some (.bool (a≥b))
 | .and=>some (.int k (k.wrap (BitVec.ofInt k.bits a &&& BitVec.ofInt k.bits b).toNat))
 | .or=>some (.int k (k.wrap (BitVec.ofInt k.bits a ||| BitVec.ofInt k.bits b).toNat))
 | .xor=>some (.int k (k.wrap (BitVec.ofInt k.bits a ^^^ BitVec.ofInt k.bits b).toNat))
 | .andNot=>some (.int k (k.wrap (BitVec.ofInt k.bits a &&& ~~~BitVec.ofInt k.bits b).toNat))
 | _=>none
def B6(P:Program)(op:BinOp)(t:TypeId):Value→Value→Option Value
 | .int k a,.int k' b=>match op with
   | .shl=>if b<0 then none else some (.int k (k.wrap (a*2 ^ (min b.toNat k.bits))))
   | .shr=>if b<0 then none else some (.int k (a.fdiv (2 ^ (min b.toNat k.bits))))
   | _=>if k=k' then E6 op k a b else none
 | .string a,.string b=>match op with
   | .eql=>some (.bool (a.toList==b.toList))
   | .neq=>some (.bool !(a.toList==b.toList))
   | .lss=>some (.bool (Op.bytesLess a.toList b.toList))
   | .leq=>some (.bool (Op.bytesLess a.toList b.toList||a.toList==b.toList))
   | .gtr=>some (.bool !(Op.bytesLess a.toList b.toList||a.toList==b.toList))
   | .geq=>some (.bool !(Op.bytesLess a.toList b.toList))
   | .add=>if((a.size+b.size:Nat):Int)>IntKind.i64.max then none else some (.string (a++b))
   | _=>none
 | .bool a,.bool b=>match op with
   | .eql=>if H7 P t=1 then some (.bool (a==b))else none
   | .neq=>if H7 P t=1 then some (.bool !(a==b))else none
   | _=>none
 | .pointer a,.pointer none=>match op with
   | .eql=>if H7 P t=2 then some (.bool a.isNone)else none
   | .neq=>if H7 P t=2 then some (.bool !a.isNone)else none
   | _=>none
 | a,.slice none 0 0=>match op with
   | .eql=>if isS a&&H7 P t==3 then some (.bool (bK5 a))else none
   | .neq=>if isS a&&H7 P t==3 then some (.bool !(bK5 a))else none
   | _=>none
 | _,_=>none
def unV(op:UnOp):Value→Option Value
 | .bool b=>match op with
   | .not=>some (.bool !b)
   | _=>none
 | .int k n=>match op with
   | .neg=>some (.int k (k.wrap (0-n)))
   | _=>none
 | _=>none
def bA1(P:Program)(s:TypeId)(i:Nat):Value→Option Value
 | .pointer (some a)=>match v8 P s i with
   | some (o,_)=>some (.pointer (some (a.add o)))
   | none=>none
 | _=>none
def bL2(P:Program)(t:TypeId)(cs:Array Value)(o:Nat):Option Value:=
 if B9 P t then(if(P.info? t).isSome&&(P.underlying t).isSome then some (.agg (cs.extract o (o+E4 P t)))else none)else cs[o]?
def aK9(P:Program)(s:TypeId)(i:Nat):Value→Option Value
 | .agg cs=>match v8 P s i with
   | some (o,t)=>bL2 P t cs o
   | none=>none
 | _=>none
def y0(P:Program)(t:TypeId)(x:Value):Value→Option Value
 | .int _ n=>match A7 P t with
   | some e=>if(P.info? e).isSome&&decide (0≤n)&&inS x n.toNat then some (.pointer (some (H5 x (n.toNat*E4 P e))))else none
   | none=>match C3 P t,x with
     | some (len,e),.pointer (some a)=>if(P.info? e).isSome&&decide (0≤n)&&decide (n<len)then some (.pointer (some (a.add (n.toNat*E4 P e))))else none
     | _,_=>none
 | _=>none
def V5(P:Program)(t:TypeId)(x:Value):Value→Option Value
 | .int _ n=>match C3 P t,x with
   | some (len,e),.agg cs=>if(P.info? e).isSome&&decide (0≤n)&&decide (n<len)then bL2 P e cs (n.toNat*E4 P e)else none
   | none,.string s=>if bD1 P t&&decide (0≤n)then(s[n.toNat]?).map fun b=>.int .u8 b.toNat else none
   | _,_=>none
 | _=>none
def I3(P:Program)(t:TypeId)(x:Value)(lo hi:Option Value):Option Value:=
 match(match lo with|none=>some 0|some (.int _ n)=>some n|_=>none:Option Int),
  (match hi with|none=>some ((if isS x then vlen x else match x with | .string s=>s.size|_=>0:Nat):Int)|some (.int _ n)=>some n|_=>none:Option Int)with
 | some l,some h=>match A7 P t with
   | some e=>if(P.info? e).isSome&&isS x&&decide (0≤l)&&decide (l≤h)&&decide (h≤vcap x)then some (reS x l.toNat h.toNat (E4 P e))else none
   | none=>match x with
     | .string s=>if bD1 P t&&decide (0≤l)&&decide (l≤h)&&decide (h≤s.size)then some (.string (s.extract l.toNat h.toNat))else none
     | _=>none
 | _,_=>none
def Q4(P:Program)(t:TypeId)(x:Value):Option Value:=
 if(A7 P t).isSome then(if isS x then some (.int .i64 (vlen x))else none)
 else match x with
  | .string s=>if bD1 P t then some (.int .i64 s.size)else none
  | _=>match C3 P t with
    | some (n,_)=>some (.int .i64 n)
    | none=>none
def cL8(P:Program)(t:TypeId)(x:Value):Option Value:=
 if(A7 P t).isSome&&isS x then some (.int .i64 (vcap x))else none
def aX3(P:Program)(s d:TypeId):Value→Option Value
 | .int _ n=>match az9 P d with
   | some k=>if(P.underlying s).isSome then some (.int k (k.wrap n))else none
   | none=>none
 | _=>none
def J6(pl:List (Nat×Nat))(cs:Array Value)(parts:List (Nat×Value)):Option (Array Value):=Instr.fill (fun i=>pl[i]?) cs parts
def C1(P:Program)(t:TypeId)(parts:List (Nat×Value)):Option Value:=
 match E7 P t with
 | some (z,pl)=>(J6 pl z parts).map .agg
 | none=>none
def cz0:Value→Value→Option Value
 | .int k x,.int _ y=>some (.int k (if y<x then y else x))
 | _,_=>none
def cy9:Value→Value→Option Value
 | .int k x,.int _ y=>some (.int k (if y>x then y else x))
 | _,_=>none
def aq4(P:Program)(f:Fr):Op→Option Value
 | .move x=>some (ev f x)
 | .assign x=>some (ev f x)
 | .pick c a b=>match ev f c with
   | .bool t=>some (if t then ev f a else ev f b)
   | _=>none
 | .binOp op t x y _=>B6 P op t (ev f x) (ev f y)
 | .unOp op _ x=>unV op (ev f x)
 | .fieldAddr s x i=>bA1 P s i (ev f x)
 | .field s x i=>aK9 P s i (ev f x)
 | .indexAddr t x i=>y0 P t (ev f x) (ev f i)
 | .index t x i=>V5 P t (ev f x) (ev f i)
 | .slice t x lo hi none=>I3 P t (ev f x) (lo.map (ev f)) (hi.map (ev f))
 | .extract x i=>match ev f x with
   | .tuple vs=>vs[i]?
   | _=>none
 | .convert s d x=>aX3 P s d (ev f x)
 | .nilCheck x=>match ev f x with
   | .pointer (some a)=>some (.pointer (some a))
   | _=>none
 | .makeFunc fn first cap=>some (.func fn (first.map (ev f)) (cap.map (ev f)))
 | .build t parts=>C1 P t (parts.toList.map fun p=>(p.1,ev f p.2))
 | .call c=>match c.callee with
   | .builtin .len=>match c.args.toList,c.argTypes.toList with
     | [x],[t]=>Q4 P t (ev f x)
     | _,_=>none
   | .builtin .cap=>match c.args.toList,c.argTypes.toList with
     | [x],[t]=>cL8 P t (ev f x)
     | _,_=>none
   | .builtin .min=>match c.args.toList with
     | [x,y]=>cz0 (ev f x) (ev f y)
     | _=>none
   | .builtin .max=>match c.args.toList with
     | [x,y]=>cy9 (ev f x) (ev f y)
     | _=>none
   | _=>none
 | _=>none
section
variable {P:Program}
theorem F7(t:TypeId)(w:World):(underlying t).run P w=match P.underlying t with
  | some d=>.ok d w
  | none=>.halt (.stuck "no such type") w:=by
 simp only[underlying,program,ey2,Sem.run,ex2];cases P.underlying t<;>rfl
theorem N5(t:TypeId)(w:World):(typeInfo t).run P w=match P.info? t with
  | some d=>.ok d w
  | none=>.halt (.stuck "no such type") w:=by
 simp only[typeInfo,program,ey2,Sem.run,ex2];cases P.info? t<;>rfl
theorem N7{t:TypeId}(h:(P.info? t).isSome=true)(w:World):(sizeOf t).run P w = .ok (E4 P t) w:=by
 obtain⟨i,hi⟩:=eB3.1 h;simp[sizeOf,N5,hi,E4]
theorem W7(t:TypeId)(h:(P.underlying t).isSome=true)(w:World):(isAgg t).run P w = .ok (B9 P t) w:=by
 obtain⟨i,hi⟩:=eB3.1 h;unfold isAgg B9;rw[ey2,F7,hi];cases i<;>rfl
theorem aR9{t:TypeId}(h:B9 P t=false):(P.underlying t).isSome=true:=by
 unfold B9 at h;cases hu:P.underlying t with
 | none=>simp[hu]at h
 | some d=>rfl
theorem bk7{t:TypeId}{cs:Array Value}{o:Nat}{v:Value}(h:bL2 P t cs o=some v)(w:World):(part t cs o).run P w = .ok v w:=by
 unfold bL2 at h;unfold part;by_cases ha:B9 P t=true
 ·rw[if_pos ha]at h;by_cases hi:((P.info? t).isSome&&(P.underlying t).isSome)=true
  ·rw[if_pos hi]at h;simp only[ex4]at hi;obtain rfl:=ex1 h;simp only[ey2,W7 t hi.2,ex2,ha,Sem.run_ite,eB5,N7 hi.1,ez6]
  ·rw[if_neg hi]at h;cases h
 ·have ha':B9 P t=false:=by simpa using ha
  rw[if_neg ha]at h;simp only[ey2,W7 t (aR9 ha'),ex2,ha',eB8,eC8,h,ez6]
theorem aV1{op:BinOp}{t:TypeId}{x y:Operand}{a b:Value}(h1:a ≠ .nilIface)(h2:∀cs,a ≠ .agg cs)(w:World):
  (eqGuard op t x y a b).run P w = .ok () w:=by
 unfold eqGuard;cases op<;>first|rfl|(cases a<;>first|rfl|exact absurd rfl h1|exact absurd rfl (h2 _))
theorem bP9{op:BinOp}{t:TypeId}{x y:Operand}{a b v:Value}(h:B6 P op t a b=some v)(w:World):
  (do eqGuard op t x y a b;binOp op t a b:Sem Value).run P w = .ok v w:=by
 have hg:(eqGuard op t x y a b).run P w = .ok () w:=by
  apply aV1
  ·rintro rfl;unfold B6 at h;split at h<;>first
    | (simp_all;done)
    | (split at h<;>simp_all [isS])
  ·rintro cs rfl;unfold B6 at h;split at h<;>first
    | (simp_all;done)
    | (split at h<;>simp_all [isS])
 rw[ey2,hg,ex2];unfold B6 at h;split at h
 ·split at h
  ·split at h
   ·cases h
   ·rename_i hb;obtain rfl:=ex1 h;simp[binOp,Op.shift,hb]
  ·split at h
   ·cases h
   ·rename_i hb;obtain rfl:=ex1 h;simp[binOp,Op.shift,hb]
  ·rename_i h1 h2;split at h
   ·rename_i hk;subst hk;unfold E6 at h;cases op<;>simp only[eG8]at h <;>
     first
     | (subst h;simp[binOp,Op.intArith,Op.intCmp,Op.intBits])
     | (split at h<;>first|(rename_i hb;obtain rfl:=ex1 h;simp[binOp,Op.intDiv,hb];done)|(cases h;done))
     | (exact absurd rfl (by assumption))
     | cases h
   ·cases h
 ·split at h<;>first
   | (obtain rfl:=ex1 h;simp[binOp,Op.stringOp])
   | (split at h<;>first|(rename_i hb;obtain rfl:=ex1 h;simp only[binOp,Op.stringOp];rw[if_neg hb];rfl)|(cases h;done))
   | cases h
 ·have key:∀{p q:Bool},H7 P t=1→(Op.equal t (.bool p) (.bool q)).run P w = .ok (p==q) w:=by
   intro p q ht;unfold H7 at ht;unfold Op.equal Op.maxDepth Op.equalIn;rw[ey2,F7];cases hu:P.underlying t with
   | none=>simp[hu]at ht
   | some d=>cases d<;>simp[hu]at ht ⊢
  split at h<;>first
   | (split at h
      ·rename_i ht;obtain rfl:=ex1 h;simp[binOp,key ht]
      ·cases h)
   | cases h
 ·have key:∀{p:Option Addr},H7 P t=2→(Op.equal t (.pointer p) (.pointer none)).run P w = .ok p.isNone w:=by
   intro p ht;unfold H7 at ht;unfold Op.equal Op.maxDepth Op.equalIn;rw[ey2,F7];cases hu:P.underlying t with
   | none=>simp[hu]at ht
   | some d=>cases d<;>simp[hu]at ht ⊢<;> (cases p<;>rfl)
  split at h<;>first
   | (split at h
      ·rename_i ht;obtain rfl:=ex1 h;simp[binOp,key ht]
      ·cases h)
   | cases h
 ·have key:isS a=true→H7 P t=3→(Op.equal t a (.slice none 0 0)).run P w = .ok (bK5 a) w:=by
   intro hs ht;cases a
   case slice p n c=>
    unfold H7 at ht;unfold Op.equal Op.maxDepth Op.equalIn;rw[ey2,F7];cases hu:P.underlying t with
    | none=>simp[hu]at ht
    | some d=>cases d<;>simp[hu]at ht ⊢<;> (cases p<;>rfl)
   all_goals (simp[isS]at hs)
  have hop:isS a=true→binOp .eql t a (.slice none 0 0)=(do pure (.bool (←Op.equal t a (.slice none 0 0))))∧binOp .neq t a (.slice none 0 0)=(do pure (.bool (!(←Op.equal t a (.slice none 0 0))))):=by
   intro hs;cases a
   case slice p n c=>exact⟨rfl,rfl⟩
   all_goals (simp[isS]at hs)
  split at h<;>first
   | (split at h
      ·rename_i ht;simp only[ex4,beq_iff_eq]at ht;obtain rfl:=ex1 h
       first|rw[(hop ht.1).1]|rw[(hop ht.1).2]
       simp[key ht.1 ht.2]
      ·cases h)
   | cases h
 ·cases h
theorem L0{t e:TypeId}(h:A7 P t=some e):P.underlying t=some (.slice e):=by
 unfold A7 at h;cases hu:P.underlying t with
 | none=>simp[hu]at h
 | some d=>cases d<;>simp[hu]at h;subst h;rfl
theorem aS7{t e:TypeId}{n:Nat}(h:C3 P t=some (n,e)):P.underlying t=some (.array n e):=by
 unfold C3 at h;cases hu:P.underlying t with
 | none=>simp[hu]at h
 | some d=>cases d<;>simp[hu]at h;obtain⟨rfl,rfl⟩:=h;rfl
theorem aH5{t:TypeId}(h:bD1 P t=true):P.underlying t=some .string:=by
 unfold bD1 at h;cases hu:P.underlying t with
 | none=>simp[hu]at h
 | some d=>cases d<;>simp[hu]at h;rfl
theorem bW1{t:TypeId}(h:¬E4 P t=0):(P.info? t).isSome=true:=by
 unfold E4 at h;cases hi:P.info? t with
 | none=>simp[hi]at h
 | some i=>rfl
theorem aX9{s:TypeId}{i o t:Nat}(h:v8 P s i=some (o,t)):∃fs fl,P.underlying s=some (.struct fs)∧fs[i]?=some fl∧¬E4 P t=0∧fl.offset=o∧fl.type=t:=by
 unfold v8 at h;cases hu:P.underlying s with
 | none=>simp[hu]at h
 | some d=>
  cases d
  case struct fs=>
   simp only[hu]at h;cases hf:fs[i]? with
   | none=>simp[hf]at h
   | some fl=>
    simp only[hf]at h;split at h
    ·cases h
    ·rename_i hz;simp only[eG8,Prod.mk.injEq]at h;obtain⟨rfl,rfl⟩:=h;exact⟨fs,fl,rfl,hf,hz,rfl,rfl⟩
  all_goals simp[hu]at h
theorem bA2{s i:Nat}{x v:Value}(h:bA1 P s i x=some v)(w:World):(Instr.fieldAt s x i).run P w = .ok v w:=by
 unfold bA1 at h;split at h
 ·split at h
  ·rename_i a o t hf;obtain⟨fs,fl,h1,h2,h3,h4,h5⟩:=aX9 hf;obtain rfl:=ex1 h;subst h4 h5;unfold Instr.fieldAt;rw[ey2,F7,h1];simp only[ex2,h2,ey2,Instr.sureAddr,ez6,Go.fieldPlace,N7 (bW1 h3),Sem.run_ite];rw[if_neg h3];rfl
  ·cases h
 ·cases h
theorem bR2{s i:Nat}{x v:Value}(h:aK9 P s i x=some v)(w:World):(Instr.field s x i).run P w = .ok v w:=by
 unfold aK9 at h;split at h
 ·split at h
  ·rename_i cs o t hf;obtain⟨fs,fl,h1,h2,h3,h4,h5⟩:=aX9 hf;subst h4 h5;unfold Instr.field;rw[ey2,F7,h1];simp only[ex2,h2,ey2,asAgg,ez6,bk7 h]
  ·cases h
 ·cases h
theorem cx4{x:Value}{k:Nat}(h:inS x k=true):∃a n c,x = .slice (some a) n c∧k<n:=by
 unfold inS at h;split at h
 ·exact⟨_,_,_,rfl,by simpa using h⟩
 ·cases h
theorem bT0{t:Nat}{x i v:Value}(h:y0 P t x i=some v)(w:World):(Instr.indexAt t x i).run P w = .ok v w:=by
 unfold y0 at h;split at h
 ·rename_i k n;split at h
  ·rename_i e he;split at h
   ·rename_i hc;simp only[ex4,ez1]at hc;obtain⟨⟨hi,h0⟩,hin⟩:=hc;obtain⟨a,m,c,rfl,hlt⟩:=cx4 hin;obtain rfl:=ex1 h;unfold Instr.indexAt;simp only[asIntOf,ey2,ez6,ex2,F7,L0 he];have:0≤n∧n<(m:Int):=by omega
    simp only[this,and_self,eB5,ey2,N7 hi,ex2,ez6,H5]
   ·cases h
  ·split at h
   ·rename_i len e a he;split at h
    ·rename_i hc;simp only[ex4,ez1]at hc;obtain⟨⟨hi,h0⟩,hlt⟩:=hc;obtain rfl:=ex1 h;unfold Instr.indexAt;simp only[asIntOf,ey2,ez6,ex2,F7,aS7 he,Instr.sureAddr];have:0≤n∧n<(len:Int):=by omega
     simp only[this,and_self,eB5,ey2,N7 hi,ex2,ez6]
    ·cases h
   ·cases h
 ·cases h
theorem bA9{t:Nat}{x i v:Value}(h:V5 P t x i=some v)(w:World):(Instr.index t x i).run P w = .ok v w:=by
 unfold V5 at h;split at h
 ·rename_i k n;split at h
  ·rename_i len e cs he;split at h
   ·rename_i hc;simp only[ex4,ez1]at hc;obtain⟨⟨hi,h0⟩,hlt⟩:=hc;unfold Instr.index;simp only[asIntOf,ey2,ez6,ex2,F7,aS7 he];have:0≤n∧n<(len:Int):=by omega
    simp only[this,and_self,eB5,ey2,N7 hi,ex2,bk7 h]
   ·cases h
  ·rename_i s he;split at h
   ·rename_i hc;simp only[ex4,ez1]at hc;obtain⟨hs,h0⟩:=hc;unfold Instr.index;simp only[asIntOf,ey2,ez6,ex2,F7,aH5 hs,h0,eB5];cases hb:s[n.toNat]? with
    | none=>simp[hb]at h
    | some b=>
     simp only[hb,eC0,eG8]at h;subst h;rfl
   ·cases h
  ·cases h
 ·cases h
theorem bT4{t:TypeId}{x v:Value}{ty:TypeId}(h:Q4 P t x=some v)(w:World):(Builtin.len_ #[t] ty #[x]).run P w = .ok v w:=by
 unfold Q4 at h;split at h
 ·rename_i he;obtain⟨e,he⟩:=eB3.1 he;split at h
  ·rename_i hs;obtain rfl:=ex1 h;cases x
   case slice a n c=>simp[Builtin.len_,F7,L0 he,vlen,goInt]
   all_goals simp[isS]at hs
  ·cases h
 ·split at h
  ·rename_i s;split at h
   ·rename_i hs;obtain rfl:=ex1 h;simp[Builtin.len_,F7,aH5 hs,goInt]
   ·cases h
  ·rename_i hns;split at h
   ·rename_i n e he;obtain rfl:=ex1 h;cases x<;>simp[Builtin.len_,F7,aS7 he,goInt]
   ·cases h
theorem bQ3{t:TypeId}{x v:Value}{ty:TypeId}(h:cL8 P t x=some v)(w:World):(Builtin.cap_ #[t] ty #[x]).run P w = .ok v w:=by
 unfold cL8 at h;split at h
 ·rename_i hc;simp only[ex4]at hc;obtain⟨e,he⟩:=eB3.1 hc.1;obtain rfl:=ex1 h;cases x
  case slice a n c=>simp[Builtin.cap_,F7,L0 he,vcap,goInt]
  all_goals (simp[isS]at hc)
 ·cases h
theorem bF8{s d:TypeId}{x v:Value}(h:aX3 P s d x=some v)(w:World):(convert s d x).run P w = .ok v w:=by
 unfold aX3 at h;split at h
 ·split at h
  ·rename_i k hk;split at h
   ·rename_i hs;obtain rfl:=ex1 h;obtain⟨sd,hsd⟩:=eB3.1 hs;have hd:P.underlying d=some (.int k):=by
     unfold az9 at hk;cases hu:P.underlying d with
     | none=>simp[hu]at hk
     | some dd=>cases dd<;>simp[hu]at hk;subst hk;rfl
    unfold convert;simp only[ey2,F7,hsd,hd,ex2,Conv.intToInt,ez6]
   ·cases h
  ·cases h
 ·cases h
theorem by7{t:TypeId}{parts:List (Nat×Value)}{v:Value}(h:C1 P t parts=some v)(w:World):(Instr.build t parts.toArray).run P w = .ok v w:=by
 unfold C1 at h;cases hb:E7 P t with
 | none=>simp[hb]at h
 | some zp=>
  obtain⟨z,pl⟩:=zp;simp only[hb]at h;unfold E7 at hb;have hmap:∀(fs:List Field),(fs.all fun fl=>(P.info? fl.type).isSome)=true →
    (fs.mapM (m:=Sem) fun f=>do pure (f.offset,←sizeOf f.type)).run P w = .ok (fs.map fun fl=>(fl.offset,E4 P fl.type)) w:=by
   intro fs
   induction fs with
   | nil=>intro _;simp
   | cons f fs ih=>
    intro hall;simp only[List.all_cons,ex4]at hall;simp only[List.mapM_cons,ey2,N7 hall.1,ex2,ez6,ih hall.2,eA3]
  unfold Instr.build zeroValue;cases hi:P.info? t with
  | none=>simp[hi]at hb
  | some i=>
   cases hz:i.zero with
   | none=>simp[hi,hz]at hb
   | some zv=>
    simp only[hi,Option.bind_some,hz]at hb;simp only[ey2,N5,hi,ex2,hz,ez6,F7];cases hu:P.underlying t with
    | none=>simp[hu]at hb
    | some d=>
     cases d
     case struct fs=>
      simp only[hu]at hb;split at hb
      ·rename_i hall;simp only[eG8,Prod.mk.injEq]at hb;obtain⟨rfl,rfl⟩:=hb;simp only[ex2];rw[Array.mapM_eq_mapM_toList];simp only[ey2,Sem.run_map]
       erw [hmap _ hall]
       simp only[ex2];unfold J6 at h;simp only[List.getElem?_toArray];cases hf:Instr.fill (fun i=>(fs.toList.map fun fl=>(fl.offset,E4 P fl.type))[i]?) zv.cells parts with
       | none=>rw[hf]at h;cases h
       | some cells=>
        simp only[hf,eC0,eG8]at h;subst h;rfl
      ·cases hb
     case array n e=>
      simp only[hu]at hb;split at hb
      ·rename_i he;simp only[eG8,Prod.mk.injEq]at hb;obtain⟨rfl,rfl⟩:=hb;simp only[ex2,ey2,N7 he];unfold J6 at h;have B3:∀(ps:List (Nat×Value)) (cs cs':Array Value),Instr.fill (fun i=>((List.range n).map fun i=>(i*E4 P e,E4 P e))[i]?) cs ps=some cs' →
         Instr.fill (fun i=>some (i*E4 P e,E4 P e)) cs ps=some cs':=by
        intro ps
        induction ps with
        | nil=>intro cs cs' hh;exact hh
        | cons q ps ih=>
         intro cs cs' hh;obtain⟨qi,qv⟩:=q;unfold Instr.fill at hh ⊢;by_cases hq:qi<n
         ·have hq':((List.range n).map fun i=>(i*E4 P e,E4 P e))[qi]?=some (qi*E4 P e,E4 P e):=by simp[hq]
          rw[hq']at hh;simp only at hh ⊢;split at hh
          ·cases hh
          ·rename_i hc;rw[if_neg hc];exact ih _ _ hh
         ·rw[eD2 (by simpa using hq)]at hh;cases hh
       cases hf:Instr.fill (fun i=>((List.range n).map fun i=>(i*E4 P e,E4 P e))[i]?) zv.cells parts with
       | none=>rw[hf]at h;cases h
       | some cells=>
        simp only[hf,eC0,eG8]at h;subst h;simp only[B3 _ _ _ hf];rfl
      ·cases hb
     all_goals simp[hu]at hb
theorem bC9{t:TypeId}{x v:Value}{lo hi:Option Value}(h:I3 P t x lo hi=some v)(w:World):(Instr.sliceAt t x lo hi none).run P w = .ok v w:=by
 unfold I3 at h;split at h
 ·rename_i l hh hlo hhi;have hlo':(∃k,lo=some (.int k l))∨lo=none∧l=0:=by
   split at hlo
   ·exact .inr ⟨rfl,(ex1 hlo).symm⟩
   ·obtain rfl:=ex1 hlo;exact .inl ⟨_,rfl⟩
   ·cases hlo
  split at h
  ·rename_i e he;split at h
   ·rename_i hc;simp only[ex4,ez1]at hc;obtain⟨⟨⟨⟨hi1,hs⟩,h0⟩,h1⟩,h2⟩:=hc;obtain rfl:=ex1 h;have hhi':(∃k,hi=some (.int k hh))∨hi=none∧hh=vlen x:=by
     split at hhi
     ·rw[hs,if_pos rfl]at hhi;exact .inr ⟨rfl,(ex1 hhi).symm⟩
     ·obtain rfl:=ex1 hhi;exact .inl ⟨_,rfl⟩
     ·cases hhi
    cases x
    case slice a n c=>
     simp only[vcap]at h2;simp only[vlen]at hhi';have hb:(Instr.sliceBounds true n c lo hi none).run P w = .ok (l.toNat,hh.toNat,c) w:=by
      rcases hlo' with⟨k,rfl⟩|⟨rfl,rfl⟩<;>rcases hhi' with⟨k',rfl⟩|⟨rfl,rfl⟩ <;>
       simp only[Instr.sliceBounds,Instr.sliceBound,asIntOf,ey2,ez6,ex2]
      ·rw[if_pos (by omega)];simp only[ez6,ex2];rw[if_pos (by omega)];rfl
      ·rw[if_pos (by omega)];rfl
      ·rw[if_pos (by omega)];rfl
      ·rfl
     unfold Instr.sliceAt;simp only[ey2,F7,L0 he,ex2];unfold Instr.slice;simp only[ey2,F7,L0 he,ex2,hb,N7 hi1,ez6,reS]
    all_goals simp[isS]at hs
   ·cases h
  ·split at h
   ·rename_i s;split at h
    ·rename_i hc;simp only[ex4,ez1]at hc;obtain⟨⟨⟨hs,h0⟩,h1⟩,h2⟩:=hc;obtain rfl:=ex1 h;have hhi':(∃k,hi=some (.int k hh))∨hi=none∧hh=s.size:=by
      split at hhi
      ·simp only[isS,eB8,eC8]at hhi;exact .inr ⟨rfl,(ex1 hhi).symm⟩
      ·obtain rfl:=ex1 hhi;exact .inl ⟨_,rfl⟩
      ·cases hhi
     have hb:(Instr.sliceBounds false s.size s.size lo hi none).run P w = .ok (l.toNat,hh.toNat,s.size) w:=by
      rcases hlo' with⟨k,rfl⟩|⟨rfl,rfl⟩<;>rcases hhi' with⟨k',rfl⟩|⟨rfl,rfl⟩ <;>
       simp only[Instr.sliceBounds,Instr.sliceBound,asIntOf,ey2,ez6,ex2]
      ·rw[if_pos (by omega)];simp only[ez6,ex2];rw[if_pos (by omega)];rfl
      ·rw[if_pos (by omega)];rfl
      ·rw[if_pos (by omega)];rfl
      ·rfl
     unfold Instr.sliceAt;simp only[ey2,F7,aH5 hs,ex2];unfold Instr.slice;simp only[ey2,F7,aH5 hs,ex2,hb,ez6,Option.isSome_none,eB8,eC8]
    ·cases h
   ·cases h
 ·cases h
theorem aD6{f:Fr}{o:Oper}{v:Value}(h:aq4 P f o.op=some v)(w:World):(execOp (ev f) o).run P w = .ok (.value v) w:=by
 have lift:∀{s:Sem Value},s.run P w = .ok v w→(do pure (.value (←s)):Sem Next).run P w = .ok (.value v) w:=fun hs=>by
  rw[ey2,hs];rfl
 obtain⟨d,op,ty,pos,aft,gd⟩:=o;unfold aq4 at h;simp only at h;cases op<;>try simp only at h
 case move x=>obtain rfl:=ex1 h;rfl
 case assign x=>obtain rfl:=ex1 h;rfl
 case pick c a b=>
  split at h
  ·rename_i t ht;obtain rfl:=ex1 h;simp only[execOp,ht,asBool,ey2,ez6,ex2]
  ·cases h
 case binOp op t x y t2=>exact lift (bP9 h w)
 case unOp op t x=>
  refine lift ?_;unfold unV at h;split at h
  ·rename_i b hb;split at h
   ·obtain rfl:=ex1 h;simp[hb,Op.unary]
   ·cases h
  ·rename_i k n hb;split at h
   ·obtain rfl:=ex1 h;simp[hb,Op.unary,Op.intArith]
   ·cases h
  ·cases h
 case fieldAddr s x i=>exact lift (bA2 h w)
 case field s x i=>exact lift (bR2 h w)
 case indexAddr t x i=>exact lift (bT0 h w)
 case index t x i=>exact lift (bA9 h w)
 case slice t x lo hi mx=>
  cases mx
  case none=>exact lift (bC9 h w)
  case some m=>cases h
 case extract x i=>
  refine lift ?_;split at h
  ·rename_i vs hv;unfold Instr.extract;simp only[hv,h];rfl
  ·cases h
 case nilCheck x=>
  split at h
  ·rename_i a ha;obtain rfl:=ex1 h;simp only[execOp,ha,ez6]
  ·cases h
 case convert s d' x=>exact lift (bF8 h w)
 case makeFunc fn first cap=>obtain rfl:=ex1 h;rfl
 case build t parts=>
  refine lift ?_;have:=by7 h w;have e:(parts.toList.map fun p=>(p.1,ev f p.2)).toArray=parts.map fun p=>(p.1,ev f p.2):=by
   apply Array.ext';simp
  rw[e]at this;exact this
 case call c=>
  obtain⟨cal,args,tys⟩:=c;simp only at h;cases cal
  case builtin b=>
   cases b<;>try simp only at h
   case len=>
    split at h
    ·rename_i x t hx ht;have hx':args=#[x]:=by apply Array.ext';simpa using hx
     have ht':tys=#[t]:=by apply Array.ext';simpa using ht
     subst hx' ht';have:=bT4 (ty:=ty) h w;simp only[execOp,resolve,invoke,builtin,ey2,ez6,ex2];simp only[List.map_toArray,eA3,List.map_nil,this,ex2]
    ·cases h
   case cap=>
    split at h
    ·rename_i x t hx ht;have hx':args=#[x]:=by apply Array.ext';simpa using hx
     have ht':tys=#[t]:=by apply Array.ext';simpa using ht
     subst hx' ht';have:=bQ3 (ty:=ty) h w;simp only[execOp,resolve,invoke,builtin,ey2,ez6,ex2];simp only[List.map_toArray,eA3,List.map_nil,this,ex2]
    ·cases h
   case min=>
    split at h
    ·rename_i x y hx;have hx':args=#[x,y]:=by apply Array.ext';simpa using hx
     subst hx';unfold cz0 at h;split at h
     ·rename_i k a k' b hx hy;obtain rfl:=ex1 h;simp[execOp,resolve,invoke,builtin,Builtin.min_,Builtin.min2,hx,hy]
     ·cases h
    ·cases h
   case max=>
    split at h
    ·rename_i x y hx;have hx':args=#[x,y]:=by apply Array.ext';simpa using hx
     subst hx';unfold cy9 at h;split at h
     ·rename_i k a k' b hx hy;obtain rfl:=ex1 h;simp[execOp,resolve,invoke,builtin,Builtin.max_,Builtin.max2,hx,hy]
     ·cases h
    ·cases h
   all_goals cases h
  all_goals cases h
 all_goals cases h
end
def ez0:=@Nat.zero_add
def bc2(f:Fr)(o:Oper):Option (Sem Value):=match o.op with
 | .load t a=>some (Instr.loadAt t (ev f a))
 | .buildSlice t n parts=>some (Instr.buildSlice t n (parts.map fun p=>(p.1,ev f p.2)))
 | .alloc e=>some (Instr.alloc e true (.tuple #[]))
 | .box e x=>some (Instr.box e (ev f x))
 | .makeSlice t l c=>some (Instr.makeSlice t (ev f l) (ev f c))
 | .binOp op t x y _=>some (do eqGuard op t x y (ev f x) (ev f y);binOp op t (ev f x) (ev f y))
 | .convert s d x=>some (convert s d (ev f x))
 | .makeMap t r=>some (Instr.makeMap t (r.map (ev f)))
 | .lookup t x i ok=>some (Instr.lookup t (ev f x) (ev f i) ok)
 | .makeInterface t x=>some (Instr.makeInterface t (ev f x))
 | .call c=>match c.callee with
   | .builtin .append=>some (Builtin.append_ c.argTypes o.type (c.args.map (ev f)))
   | .builtin .copy=>some (Builtin.copy_ c.argTypes o.type (c.args.map (ev f)))
   | .builtin .clear=>some (Builtin.clear_ c.argTypes o.type (c.args.map (ev f)))
   | .builtin .len=>some (Builtin.len_ c.argTypes o.type (c.args.map (ev f)))
   | .builtin .delete=>some (Builtin.delete_ c.argTypes o.type (c.args.map (ev f)))
   | _=>none
 | _=>none
def ad4(r:Result Value)(K:Fr→World→Prop)(f:Fr)(d:Option Nat):Prop:=match r with
 | .ok v w=>K (A5 f d v) w
 | _=>False
def aU8(r:Result Unit)(K:Fr→World→Prop)(f:Fr)(d:Option Nat):Prop:=match r with
 | .ok _ w=>K (A5 f d undef) w
 | _=>False
def B5(P:Program)(S:World→Prop)(s:Sem Value)(K:Fr→World→Prop)(f:Fr)(d:Option Nat)(w:World):Prop:=
 ∃v,(∀w',S w'→s.run P w' = .ok v w')∧K (A5 f d v) w
def G0(S:World→Prop)(K:Fr→World→Prop):Fr→World→Prop:=fun f w=>S w∧K f w
def be4(P:Program)(S:Option (World→Prop))(fl:Bool)(s:Sem Value)(K:Fr→World→Prop)(f:Fr)(d:Option Nat)(w:World):Prop:=
 match S with
 | none=>ad4 (s.run P w) K f d
 | some S=>if fl then B5 P S s K f d w else ad4 (s.run P w) (G0 S K) f d
def aJ1(S:Option (World→Prop))(K:Fr→World→Prop):Fr→World→Prop:=
 match S with
 | none=>K
 | some S=>G0 S K
def ag2(P:Program)(k:Nat):Bool:=match P.funcs[k]? with
 | some fn=>fn.name != "runtime.NumGoroutine" && fn.body.isSome
 | none=>false
def ar6(P:Program)(k:Nat)(args:List Value)(w:World)(K:Fr→World→Prop)(f:Fr)(d:Option Nat):Prop:=
 (ag2 P k=true∧Calls P k args.toArray w fun e w'=>∃v,e = .returned v∧K (A5 f d v) w')∨∃v w',(callFunc k args.toArray).run P w = .ok (.value v) w'∧K (A5 f d v) w'
def Y1(P:Program)(S:Option (World→Prop))(o:Oper)(K:Fr→World→Prop)(f:Fr)(w:World):Prop:=
 match bc2 f o with
 | some s=>be4 P S (flt o.op) s K f o.dst w
 | none=>match o.op with
   | .store t a x=>aU8 ((Instr.storeAt t (ev f a) (ev f x)).run P w) (aJ1 S K) f o.dst
   | .mapUpdate t m k x=>aU8 ((Instr.mapUpdate t (ev f m) (ev f k) (ev f x)).run P w) (aJ1 S K) f o.dst
   | .insert t m k x=>aU8 ((Instr.mapUpdate t (ev f m) (ev f k) (ev f x)).run P w) (aJ1 S K) f o.dst
   | .call c=>match c.callee with
     | .value g=>match ev f g with
       | .func (.func k) first cap=>ar6 P k (first.toList++c.args.toList.map (ev f)++cap.toList) w (aJ1 S K) f o.dst
       | _=>False
     | _=>False
   | _=>match S with
     | none=>N8 P o K f w
     | some S=>if flt o.op then ∃v,bm2 P S o f v∧K (A5 f o.dst v) w else N8 P o (fun f' w'=>S w'∧K f' w') f w
def A9(P:Program)(S:Option (World→Prop))(o:Oper)(K:Fr→World→Prop)(f:Fr)(w:World):Prop:=
 match aq4 P f o.op with
 | some v=>K (A5 f o.dst v) w
 | none=>Y1 P S o K f w
def Rn(P:Program)(ops:Array Oper):List Oper→(Fr→World→Prop)→Fr→World→Prop
 | [],K,f,w=>K f w
 | o::l,K,f,w=>match o.guard with
   | none=>A9 P none o (Rn P ops l K) f w
   | some (j,b)=>if aI3 ops f j=some b then A9 P none o (Rn P ops l K) f w else Rn P ops l K (A5 f o.dst undef) w
def RnF(P:Program)(ops:Array Oper)(S:World→Prop):aA6→(Fr→World→Prop)→Fr→World→Prop
 | .nil,K,f,w=>K f w
 | .op i l,K,f,w=>
  match ops[i]? with
  | none=>False
  | some o=>match o.guard with
    | none=>A9 P (some S) o (RnF P ops S l K) f w
    | some (j,b)=>if aI3 ops f j=some b then A9 P (some S) o (RnF P ops S l K) f w else RnF P ops S l K (A5 f o.dst undef) w
 | .fork rs k,K,f,w=>∀i∈rs,
   match ops[i]? with
   | none=>False
   | some o=>match o.guard with
     | none=>A9 P (some S) o (RnF P ops S (k i) K) f w∧flt o.op=false
     | some (j,b)=>if aI3 ops f j=some b then A9 P (some S) o (RnF P ops S (k i) K) f w∧flt o.op=false else RnF P ops S (k i) K (A5 f o.dst undef) w
section
variable {P:Program}
theorem ch7{k:Nat}{args:List Value}{w:World}{K:Fr→World→Prop}{f:Fr}{d:Option Nat}(h:ar6 P k args w K f d):
  match(callFunc k args.toArray).run P w with
  | .ok (.value v) w'=>K (A5 f d v) w'
  | .ok (.enter g asz) w'=>Calls P g asz w' fun e w''=>∃v,e = .returned v∧K (A5 f d v) w''
  | _=>False:=by
 rcases h with⟨hb,h⟩|⟨v,w',hr,h⟩
 ·unfold ag2 at hb;cases hf:P.funcs[k]? with
  | none=>simp[hf]at hb
  | some fn=>
   simp only[hf,ex4,bne_iff_ne,ne_eq]at hb;obtain⟨hn,hbd⟩:=hb;have hbn:fn.body.isNone=false:=by cases hx:fn.body<;>simp[hx]at hbd ⊢
   have hne:(fn.name == "runtime.NumGoroutine")=false:=by simpa using hn
   simp only[callFunc,program,ey2,Sem.run,ex2,hf,hne,hbn,eB8,eC8];exact h
 ·rw[hr];exact h
theorem br5{d:Option Nat}{g:Operand}{args:Array Operand}{tys:Array TypeId}{ty:TypeId}{pos:String}{aft:Array Edge}{gd:Option (Nat×Bool)}{K:Fr→World→Prop}{f:Fr}{w:World}
  (h:match ev f g with
    | .func (.func k) first cap=>ar6 P k (first.toList++args.toList.map (ev f)++cap.toList) w K f d
    | _=>False):N8 P ⟨d,.call ⟨.value g,args,tys⟩,ty,pos,aft,gd⟩ K f w:=by
 cases hg:ev f g
 case func fn first cap=>
  cases fn
  case func k=>
   simp only[hg]at h;have h2:=ch7 h;unfold N8;have e:(execOp (ev f) ⟨d,.call ⟨.value g,args,tys⟩,ty,pos,aft,gd⟩).run P w=(callFunc k (first.toList++args.toList.map (ev f)++cap.toList).toArray).run P w:=by
    simp only[execOp,resolve,hg,Deferred.ofValue,invoke,ey2,ez6,ex2]
    congr 2
    apply Array.ext';simp
   rw[e];generalize(callFunc k (first.toList++args.toList.map (ev f)++cap.toList).toArray).run P w=r at *;cases r with
   | halt x w'=>exact h2
   | ok n w'=>
    cases n
    case value v=>exact h2
    case enter g asz=>exact h2
    all_goals exact h2.elim
  all_goals (simp only[hg]at h)
 all_goals (simp only[hg]at h)
theorem al9{o:Oper}{s:Sem Unit}{K:Fr→World→Prop}{f:Fr}{w:World}(he:execOp (ev f) o=(do s;pure .skip:Sem Next))(h:aU8 (s.run P w) K f o.dst):N8 P o K f w:=by
 unfold N8;rw[he,ey2];unfold aU8 at h;cases hr:s.run P w with
 | ok u w'=>rw[hr]at h;exact h
 | halt x w'=>rw[hr]at h;exact h.elim
theorem aa6{o:Oper}{s:Sem Value}{K:Fr→World→Prop}{f:Fr}{w:World}(he:execOp (ev f) o=(do pure (.value (←s)):Sem Next))(h:ad4 (s.run P w) K f o.dst):N8 P o K f w:=by
 unfold N8;rw[he,ey2];unfold ad4 at h;cases hr:s.run P w with
 | ok u w'=>rw[hr]at h;exact h
 | halt x w'=>rw[hr]at h;exact h.elim
theorem aR4{o:Oper}{K:Fr→World→Prop}{f:Fr}{w:World}(h:A9 P none o K f w):N8 P o K f w:=by
 unfold A9 at h;cases hp:aq4 P f o.op with
 | some v=>
  simp only[hp]at h;unfold N8;rw[aD6 hp];exact h
 | none=>
  simp only[hp]at h;obtain⟨d,op,ty,pos,aft,gd⟩:=o;unfold Y1 bc2 at h;cases op
  case call c=>
   obtain⟨cal,args,tys⟩:=c;cases cal
   case builtin b=>
    cases b
    case append=>exact aa6 rfl h
    case copy=>exact aa6 rfl h
    case clear=>exact aa6 rfl h
    case len=>exact aa6 rfl h
    case delete=>exact aa6 rfl h
    all_goals exact h.elim
   case value g=>exact br5 h
   case invoke r m=>exact h.elim
  case store t a x=>exact al9 rfl h
  case mapUpdate t m k x=>exact al9 rfl h
  case insert t m k x=>exact al9 rfl h
  all_goals first
   | exact aa6 rfl h
   | exact h
theorem aR3{S:World→Prop}{o:Oper}{K:Fr→World→Prop}{f:Fr}{w:World}(h:A9 P (some S) o K f w)(hS:S w):
  if flt o.op then ∃v,bm2 P S o f v∧K (A5 f o.dst v) w else N8 P o (fun f' w'=>S w'∧K f' w') f w:=by
 unfold A9 at h;cases hp:aq4 P f o.op with
 | some v=>
  simp only[hp]at h;split
  ·exact⟨v,fun w' _=>aD6 hp w',h⟩
  ·unfold N8;rw[aD6 hp];exact⟨hS,h⟩
 | none=>
  simp only[hp]at h;obtain⟨d,op,ty,pos,aft,gd⟩:=o;have lift:∀{s:Sem Value},(execOp (ev f) ⟨d,op,ty,pos,aft,gd⟩)=(do pure (.value (←s)):Sem Next)→be4 P (some S) (flt op) s K f d w →
    if flt op then ∃v,bm2 P S ⟨d,op,ty,pos,aft,gd⟩ f v∧K (A5 f d v) w else N8 P ⟨d,op,ty,pos,aft,gd⟩ (fun f' w'=>S w'∧K f' w') f w:=by
   intro s he hs;unfold be4 at hs;cases hfl:flt op with
   | true=>
    simp only[hfl,eB5]at hs;obtain⟨v,hr,hk⟩:=hs;rw[if_pos rfl];refine⟨v,fun w' hw'=>?_,hk⟩;rw[he,ey2,hr w' hw'];rfl
   | false=>
    simp only[hfl,eB8,eC8]at hs;rw[if_neg (by simp)];exact aa6 he hs
  unfold Y1 bc2 at h;cases op
  case call c=>
   obtain⟨cal,args,tys⟩:=c;cases cal
   case builtin b=>
    cases b
    case append=>exact lift rfl h
    case copy=>exact lift rfl h
    case clear=>exact lift rfl h
    case len=>exact lift rfl h
    case delete=>exact lift rfl h
    all_goals exact h.elim
   case value g=>exact br5 (K:=G0 S K) h
   case invoke r m=>exact h.elim
  case store t a x=>exact al9 (K:=G0 S K) rfl h
  case mapUpdate t m k x=>exact al9 (K:=G0 S K) rfl h
  case insert t m k x=>exact al9 (K:=G0 S K) rfl h
  all_goals first
   | exact lift rfl h
   | exact h
theorem ar8{ops:Array Oper}{K:Fr→World→Prop}:∀(l:List Oper) (f:Fr) (w:World),Rn P ops l K f w→Run P ops l K f w
 | [],f,w,h=>h
 | o::l,f,w,h=>by
  unfold Rn at h;unfold Run Region.wanted;cases hg:o.guard with
  | none=>
   simp only[hg]at h;simp only[eB5];exact af3 (ar8 l) (aR4 h)
  | some jb=>
   obtain⟨j,b⟩:=jb;simp only[hg]at h;simp only[beq_iff_eq];split
   ·rename_i hc;rw[if_pos hc]at h;exact af3 (ar8 l) (aR4 h)
   ·rename_i hc;rw[if_neg hc]at h;exact ar8 l _ _ h
theorem ak5{ops:Array Oper}{S:World→Prop}{K K':Fr→World→Prop}(hk:∀f w,K f w→K' f w):∀(l:aA6) (f:Fr) (w:World),ap6 P ops S l K f w→ap6 P ops S l K' f w
 | .nil,f,w,h=>hk _ _ h
 | .op i l,f,w,h=>by
  unfold ap6 at *;cases ho:ops[i]? with
  | none=>simp[ho]at h
  | some o=>
   simp only[ho]at h ⊢;split
   ·rename_i hw;rw[if_pos hw]at h;split
    ·rename_i hf;rw[if_pos hf]at h;obtain⟨v,h1,h2⟩:=h;exact⟨v,h1,ak5 hk l _ _ h2⟩
    ·rename_i hf;rw[if_neg hf]at h;exact af3 (fun f w hh=>⟨hh.1,ak5 hk l _ _ hh.2⟩) h
   ·rename_i hw;rw[if_neg hw]at h;exact ak5 hk l _ _ h
 | .fork rs k,f,w,h=>by
  unfold ap6 at *;intro i hi;have h:=h i hi;cases ho:ops[i]? with
  | none=>simp[ho]at h
  | some o=>
   simp only[ho]at h ⊢;split
   ·rename_i hw;rw[if_pos hw]at h;exact af3 (fun f w hh=>⟨hh.1,ak5 hk (k i) _ _ hh.2⟩) h
   ·rename_i hw;rw[if_neg hw]at h;exact ak5 hk (k i) _ _ h
theorem aa9{ops:Array Oper}{S:World→Prop}{K:Fr→World→Prop}:∀(l:aA6) (f:Fr) (w:World),S w→RnF P ops S l K f w→ap6 P ops S l K f w
 | .nil,f,w,_,h=>h
 | .op i l,f,w,hS,h=>by
  unfold RnF at h;unfold ap6 Region.wanted;cases ho:ops[i]? with
  | none=>simp[ho]at h
  | some o=>
   simp only[ho]at h ⊢;have main:A9 P (some S) o (RnF P ops S l K) f w→(if flt o.op then ∃v,bm2 P S o f v∧ap6 P ops S l K (A5 f o.dst v) w else N8 P o (fun f' w'=>S w'∧ap6 P ops S l K f' w') f w):=by
    intro h1;have h2:=aR3 h1 hS;split
    ·rename_i hf;rw[if_pos hf]at h2;obtain⟨v,h3,h4⟩:=h2;exact⟨v,h3,aa9 l _ _ hS h4⟩
    ·rename_i hf;rw[if_neg hf]at h2;exact af3 (fun f w hh=>⟨hh.1,aa9 l _ _ hh.1 hh.2⟩) h2
   cases hg:o.guard with
   | none=>
    simp only[hg]at h;simp only[eB5];exact main h
   | some jb=>
    obtain⟨j,b⟩:=jb;simp only[hg]at h;simp only[beq_iff_eq];split
    ·rename_i hc;rw[if_pos hc]at h;exact main h
    ·rename_i hc;rw[if_neg hc]at h;exact aa9 l _ _ hS h
 | .fork rs k,f,w,hS,h=>by
  unfold RnF at h;unfold ap6 Region.wanted;intro i hi;have h:=h i hi;cases ho:ops[i]? with
  | none=>simp[ho]at h
  | some o=>
   simp only[ho]at h ⊢;have main:A9 P (some S) o (RnF P ops S (k i) K) f w∧flt o.op=false→N8 P o (fun f' w'=>S w'∧ap6 P ops S (k i) K f' w') f w:=by
    rintro⟨h1,hf⟩;have h2:=aR3 h1 hS;rw[if_neg (by simp[hf])]at h2;exact af3 (fun f w hh=>⟨hh.1,aa9 (k i) _ _ hh.1 hh.2⟩) h2
   cases hg:o.guard with
   | none=>
    simp only[hg]at h;simp only[eB5];exact main h
   | some jb=>
    obtain⟨j,b⟩:=jb;simp only[hg]at h;simp only[beq_iff_eq];split
    ·rename_i hc;rw[if_pos hc]at h;exact main h
    ·rename_i hc;rw[if_neg hc]at h;exact aa9 (k i) _ _ hS h
end
def ab8(K:Fr→World→Prop)(Q:Exit→Fr→World→Prop):Exit→Fr→World→Prop
 | .normal,f,w=>K f w
 | e,f,w=>Q e f w
def X7(id:Nat)(Q:Exit→Fr→World→Prop):Exit→Fr→World→Prop
 | .exit id',f,w=>if id'=id then Q .normal f w else Q (.exit id') f w
 | e,f,w=>Q e f w
def aI7(v:Value)(A B:Fr→World→Prop)(f:Fr)(w:World):Prop:=
 match v with
 | .bool true=>A f w
 | .bool false=>B f w
 | _=>False
def bY5(B:(Exit→Fr→World→Prop)→Fr→World→Prop)(Q:Exit→Fr→World→Prop)(f:Fr)(w:World):Prop:=
 ∃(σ:Type) (I:σ→Fr→World→Prop) (m:σ→Nat) (s0:σ),I s0 f w ∧
  ∀s f' w',I s f' w'→B (ab8 (fun f'' w''=>∃s',m s'<m s∧I s' f'' w'') Q) f' w'
def co8(P:Program)(ops:Array Oper)(K:Fr→World→Prop)(f:Fr)(w:World):Prop:=
 ∃(S:World→Prop) (n:Nat) (ord:aA6),bL6 ops n ord=true∧S w.drew∧RnF P ops S ord (Rn P ops (ops.toList.drop n) K) f w.drew
def CW(P:Program):Code→(Exit→Fr→World→Prop)→Fr→World→Prop
 | .skip,Q,f,w=>Q .normal f w
 | .seq a b,Q,f,w=>CW P a (ab8 (CW P b Q) Q) f w
 | .cond c a b,Q,f,w=>aI7 (ev f c) (CW P a Q) (CW P b Q) f w
 | .block id a,Q,f,w=>CW P a (X7 id Q) f w
 | .loop a,Q,f,w=>bY5 (CW P a) Q f w
 | .region _ ops d,Q,f,w=>if d then co8 P ops (Q .normal) f w else Rn P ops ops.toList (Q .normal) f w
 | .exit id,Q,f,w=>Q (.exit id) f w
 | .label _,Q,f,w=>Q .normal f w
 | .ret,Q,f,w=>Q .ret f w
 | _,_,_,_=>False
def aq8(N:Nat):Code→Bool
 | .seq a b=>aq8 N a&&aq8 N b
 | .cond _ a b=>aq8 N a&&aq8 N b
 | .block _ a=>aq8 N a
 | .loop a=>aq8 N a
 | .region _ ops _=>ct0 N ops
 | _=>true
def cs4(Q:Exit→Fr→World→Prop):Prop:=∀c f w,¬Q (.panic c) f w
theorem br7{K:Fr→World→Prop}{Q:Exit→Fr→World→Prop}(h:cs4 Q):cs4 (ab8 K Q):=fun c f w=>h c f w
theorem bQ2{id:Nat}{Q:Exit→Fr→World→Prop}(h:cs4 Q):cs4 (X7 id Q):=fun c f w=>h c f w
theorem bY3{P:Program}{Q:Exit→Act→World→Prop}{a:Act}{w:World}{c:Code}{σ:Type}(I:σ→Act→World→Prop)(m:σ→Nat)(s0:σ)(h₀:I s0 a w)
  (round:∀s a w,I s a w→c.wp P (Exit.then (fun a' w'=>∃s',m s'<m s∧I s' a' w') Q) a w):(Code.loop c).wp P Q a w:=by
 intro b k cs;have key:∀n s a w,m s=n→I s a w →
   ∃e a' w',Q e a' w'∧Arrives P (lone (b.at a (.code c :: .inLoop c::k)) cs w) b k cs e a' w':=by
  intro n
  induction n using Nat.strongRecOn with
  | _ n ih=>
   intro s a w hn hI;obtain⟨e,a₁,w₁,hq,harr⟩:=round s a w hI b (.inLoop c::k) cs;cases e with
   | normal=>
    obtain⟨s',hlt,hI₁⟩:=hq;obtain⟨e₂,a₂,w₂,hq₂,harr₂⟩:=ih (m s') (hn ▸ hlt) s' a₁ w₁ rfl hI₁;exact⟨e₂,a₂,w₂,hq₂,.of_steps (Steps.trans harr (.one step_inLoop)) harr₂⟩
   | exit id=>exact⟨_,a₁,w₁,hq,.pass (x:=.inLoop c) rfl (fun _ _=>.inl (by simp)) harr⟩
   | goto l=>exact⟨_,a₁,w₁,hq,.pass (x:=.inLoop c) rfl (fun _ _=>.inl (by simp)) harr⟩
   | ret=>exact⟨_,a₁,w₁,hq,.pass (x:=.inLoop c) rfl (fun _ _=>.inl (by simp)) harr⟩
   | panic ch=>exact⟨_,a₁,w₁,hq,.pass (x:=.inLoop c) rfl (fun _ _=>.inl (by simp)) harr⟩
   | outgrown=>exact⟨_,a₁,w₁,hq,.pass (x:=.inLoop c) rfl (fun _ _=>.inl (by simp)) harr⟩
 obtain⟨e,a',w',hq,harr⟩:=key _ s0 a w rfl h₀;exact⟨e,a',w',hq,.of_steps (.one step_loop) harr⟩
theorem co6{P:Program}{N:Nat}(hm:P.follows .mixedOrders=true):∀(c:Code) (Q:Exit→Fr→World→Prop) (a:Act) (w:World),cs4 Q→aq8 N c=true →
  a.tmps.size=N→a.defers=[]→CW P c Q (aa0 a) w→c.wp P (lft N Q) a w:=by
 intro c
 induction c with
 | skip=>intro Q a w _ _ hn hd h;exact wp_skip ⟨hn,hd,h⟩
 | seq x y ihx ihy=>
  intro Q a w hQ hok hn hd h;simp only[aq8,ex4]at hok;refine wp_seq (wp_mono (ihx _ a w (br7 hQ) hok.1 hn hd h) ?_);intro e a' w' hq;cases e
  case normal=>exact ihy _ a' w' hQ hok.2 hq.1 hq.2.1 hq.2.2
  all_goals exact hq
 | cond v x y ihx ihy=>
  intro Q a w hQ hok hn hd h;simp only[aq8,ex4]at hok;simp only[CW]at h;unfold aI7 at h;have he:a.eval v=ev (aa0 a) v:=by rw[bA0]
  generalize hv:ev (aa0 a) v=u at h;cases u
  case bool t=>
   cases t
   case true=>exact wp_cond_true (by rw[he,hv]) (ihx _ a w hQ hok.1 hn hd h)
   case false=>exact wp_cond_false (by rw[he,hv]) (ihy _ a w hQ hok.2 hn hd h)
  all_goals exact h.elim
 | block id x ih=>
  intro Q a w hQ hok hn hd h;refine wp_block (wp_mono (ih _ a w (bQ2 hQ) hok hn hd h) ?_);intro e a' w' hq;cases e
  case exit id'=>
   simp only[Exit.inBlock];simp only[lft,X7]at hq;split
   ·rename_i hid;rw[if_pos hid]at hq;exact hq
   ·rename_i hid;rw[if_neg hid]at hq;exact hq
  all_goals exact hq
 | loop x ih=>
  intro Q a w hQ hok hn hd h;obtain⟨σ,I,m,s0,h0,hr⟩:=h;refine bY3 (fun s a w=>a.tmps.size=N∧a.defers=[]∧I s (aa0 a) w) m s0 ⟨hn,hd,h0⟩ ?_;rintro s a' w' ⟨hn',hd',hI⟩;refine wp_mono (ih _ a' w' (br7 hQ) hok hn' hd' (hr s _ w' hI)) ?_;intro e a'' w'' hq;cases e
  case normal=>
   obtain⟨h1,h2,s',h3,h4⟩:=hq;exact⟨s',h3,h1,h2,h4⟩
  all_goals exact hq
 | region id ops d=>
  intro Q a w hQ hok hn hd h;cases d
  case false=>
   simp only[CW,eB8,eC8]at h;exact wp_region_list (ar4 _ a w (fun o ho=>Array.all_eq_true'.1 hok o (by simpa using ho)) hn hd (ar8 _ _ _ h))
  case true=>
   simp only[CW,eB5]at h;obtain⟨S,n,ord,h1,h3,h4⟩:=h;exact bo2 hm hQ h1 hok hn hd h3 (ak5 (fun f w hh=>ar8 _ f w hh) _ _ _ (aa9 _ _ _ h3 h4))
 | exit id=>intro Q a w _ _ hn hd h;exact wp_exit ⟨hn,hd,h⟩
 | label l=>intro Q a w _ _ hn hd h;exact wp_label ⟨hn,hd,h⟩
 | ret=>intro Q a w _ _ hn hd h;exact wp_ret ⟨hn,hd,h⟩
 | _=>intro Q a w _ _ _ _ h;exact h.elim
def da6(args:List Value):Fr:=fun i=>args.getD i undef
def bP7:Nat→List Value→Fr
 | _,[]=>fun _=>undef
 | k,v::vs=>p7 (bP7 (k+1) vs) k v
theorem bZ0:∀(vs:List Value) (k i:Nat),bP7 k vs (k+i)=vs.getD i undef
 | [],_,_=>by simp[bP7]
 | v::vs,k,0=>by simp[bP7,p7]
 | v::vs,k,i+1=>by
  have:=bZ0 vs (k+1) i;simp only[bP7,p7];rw[if_neg (by omega),show k+(i+1)=k+1+i by omega,this];simp
theorem da7(args:List Value):da6 args=bP7 0 args:=by
 funext i
 have:=bZ0 args 0 i;simp only[ez0]at this;rw[this];rfl
def bU7(P:Program)(w:World)(f:Fr):ResultVar→Value→Prop
 | .tmp t,v=>v=f t
 | .cell a ty,v=>(do loadVar ty (←asAddr (f a)):Sem Value).run P w = .ok v w
def bk0(P:Program)(w:World)(f:Fr):List ResultVar→List Value→Prop
 | [],[]=>True
 | r::rs,v::vs=>bU7 P w f r v∧bk0 P w f rs vs
 | _,_=>False
def aV9:List Value→Value
 | [v]=>v
 | vs=>.tuple vs.toArray
def by2(P:Program)(fn:Func)(R:Value→World→Prop):Exit→Fr→World→Prop
 | .normal,f,w=>∃vs,bk0 P w f fn.results.toList vs∧R (aV9 vs) w
 | .ret,f,w=>∃vs,bk0 P w f fn.results.toList vs∧R (aV9 vs) w
 | _,_,_=>False
theorem bk1{P:Program}{w:World}{a:Act}:∀(rs:List ResultVar) (vs:List Value),bk0 P w (aa0 a) rs vs →
  (rs.mapM (m:=Sem) fun
   | .tmp t=>pure (a.tmps.getD t undef)
   | .cell x t=>do loadVar t (←asAddr (a.tmps.getD x undef))).run P w = .ok vs w
 | [],[],_=>by simp
 | [],_::_,h=>h.elim
 | _::_,[],h=>h.elim
 | r::rs,v::vs,h=>by
  have ih:=bk1 rs vs h.2;have h1:=h.1;cases r with
  | tmp t=>
   simp only[bU7,aa0]at h1;subst h1;simp only[List.mapM_cons,ey2,ez6,ex2,ih]
  | cell x t=>
   simp only[bU7,aa0]at h1;simp only[List.mapM_cons];rw[ey2,h1];simp only[ey2,ez6,ex2,ih]
theorem ba3{P:Program}{fn:Func}{w:World}{a:Act}{vs:List Value}(h:bk0 P w (aa0 a) fn.results.toList vs):
  (results fn a.tmps).run P w = .ok (aV9 vs) w:=by
 have h1:=bk1 _ _ h;unfold results;rw[Array.mapM_eq_mapM_toList];simp only[ey2,Sem.run_map]
 erw [h1]
 simp only[ex2,ez6]
 congr 1
 match vs with
 | []=>simp[aV9]
 | [v]=>simp[aV9]
 | v::u::vs=>simp[aV9]
theorem d9{P:Program}{k:FuncId}{fn:Func}{c:Code}{args:List Value}{w:World}{R:Value→World→Prop}(hm:P.follows .mixedOrders=true)
  (hf:P.funcs[k]?=some fn) (hb:fn.body=some c) (hok:aq8 fn.ntmps c=true) (hargs:args.length≤fn.ntmps)
  (h:CW P c (by2 P fn R) (bP7 0 args) w):Calls P k args.toArray w (fun e w'=>∃v,e = .returned v∧R v w'):=by
 rw[←da7]at h;refine calls_of_wp hf hb ?_;have hfr:aa0 {tmps:=args.toArray++Array.replicate (fn.ntmps-args.toArray.size) undef,defers:=[]}=da6 args:=by
  funext i
  simp only[aa0,da6,Array.getD_eq_getD_getElem?,List.getD_eq_getElem?_getD];by_cases hi:i<args.length
  ·rw[Array.getElem?_append_left (by simpa using hi)];simp
  ·rw[Array.getElem?_append_right (by simp;omega)];rw[eD2 (by omega)];by_cases h2:i-args.length<fn.ntmps-args.length
   ·simp[h2]
   ·simp[h2]
 have:=co6 (N:=fn.ntmps) hm c (by2 P fn R) {tmps:=args.toArray++Array.replicate (fn.ntmps-args.toArray.size) undef,defers:=[]} w
  (fun c f w hh=>hh) hok (by simp;omega) rfl (by rw[hfr];exact h)
 refine wp_mono this ?_;intro e a' w' hq;cases e
 case normal=>
  obtain⟨_,hd,vs,hv,hR⟩:=hq;exact⟨hd,_,ba3 hv,_,rfl,hR⟩
 case ret=>
  obtain⟨_,hd,vs,hv,hR⟩:=hq;exact⟨hd,_,ba3 hv,_,rfl,hR⟩
 all_goals exact hq.2.2.elim
theorem n8{P:Program}{fn:Func}{R:Value→World→Prop}{f:Fr}{w:World}{t:Nat}(h:fn.results=#[.tmp t])(hR:R (f t) w):by2 P fn R .ret f w:=
 ⟨[f t],by rw[h];exact⟨rfl,trivial⟩,hR⟩
theorem ae5{P:Program}{fn:Func}{R:Value→World→Prop}{f:Fr}{w:World}{t u:Nat}(h:fn.results=#[.tmp t,.tmp u])(hR:R (.tuple #[f t,f u]) w):by2 P fn R .ret f w:=
 ⟨[f t,f u],by rw[h];exact⟨rfl,rfl,trivial⟩,hR⟩
theorem cB5{P:Program}{fn:Func}{R:Value→World→Prop}{f:Fr}{w:World}(h:fn.results=#[])(hR:R (.tuple #[]) w):by2 P fn R .normal f w:=
 ⟨[],by rw[h];exact trivial,hR⟩
section
variable {P:Program} {Q:Exit→Fr→World→Prop} {f:Fr} {w:World} {K:Fr→World→Prop} {ops:Array Oper} {l:List Oper}
theorem dZ6:CW P .skip Q f w=Q .normal f w:=rfl
theorem be0{a b:Code}:CW P (.seq a b) Q f w=CW P a (ab8 (CW P b Q) Q) f w:=rfl
theorem dY9{c:Operand}{a b:Code}:CW P (.cond c a b) Q f w=aI7 (ev f c) (CW P a Q) (CW P b Q) f w:=rfl
theorem dC1{id:Nat}{a:Code}:CW P (.block id a) Q f w=CW P a (X7 id Q) f w:=rfl
theorem dZ2{a:Code}:CW P (.loop a) Q f w=bY5 (CW P a) Q f w:=rfl
theorem ed1{id:Nat}:CW P (.region id ops false) Q f w=Rn P ops ops.toList (Q .normal) f w:=rfl
theorem dZ0{id:Nat}:CW P (.region id ops true) Q f w=co8 P ops (Q .normal) f w:=rfl
theorem dZ1{id:Nat}:CW P (.exit id) Q f w=Q (.exit id) f w:=rfl
theorem ed2:CW P .ret Q f w=Q .ret f w:=rfl
theorem ec8:ab8 K Q .normal f w=K f w:=rfl
theorem dK0:ab8 K Q .normal=K:=rfl
theorem ec9:ab8 K Q .ret f w=Q .ret f w:=rfl
theorem ed0{i:Nat}:ab8 K Q (.exit i) f w=Q (.exit i) f w:=rfl
theorem dD3{i:Nat}:X7 i Q .normal f w=Q .normal f w:=rfl
theorem dA8{i:Nat}:X7 i Q .normal=Q .normal:=rfl
theorem dD4{i:Nat}:X7 i Q .ret f w=Q .ret f w:=rfl
theorem dD5{i j:Nat}:X7 i Q (.exit j) f w=if j=i then Q .normal f w else Q (.exit j) f w:=rfl
theorem eb5{A B:Fr→World→Prop}:aI7 (.bool true) A B f w=A f w:=rfl
theorem eb4{A B:Fr→World→Prop}:aI7 (.bool false) A B f w=B f w:=rfl
theorem i5{A B:Fr→World→Prop}{b:Bool}(h1:b=true→A f w)(h2:b=false→B f w):aI7 (.bool b) A B f w:=by
 cases b
 ·exact h2 rfl
 ·exact h1 rfl
theorem ed5:Rn P ops [] K f w=K f w:=rfl
theorem ep9{d:Option Nat}{op:Op}{ty:TypeId}{pos:String}{aft:Array Edge}:
  Rn P ops (⟨d,op,ty,pos,aft,none⟩::l) K f w=A9 P none ⟨d,op,ty,pos,aft,none⟩ (Rn P ops l K) f w:=rfl
theorem et6{d:Option Nat}{op:Op}{ty:TypeId}{pos:String}{aft:Array Edge}{j:Nat}{b:Bool}:
  Rn P ops (⟨d,op,ty,pos,aft,some (j,b)⟩::l) K f w =
   if aI3 ops f j=some b then A9 P none ⟨d,op,ty,pos,aft,none⟩ (Rn P ops l K) f w else Rn P ops l K (A5 f d undef) w:=rfl
theorem dB9{S:Option (World→Prop)}{d:Option Nat}{op:Op}{ty:TypeId}{pos:String}{aft:Array Edge}{g:Nat×Bool}:
  A9 P S ⟨d,op,ty,pos,aft,some g⟩ K f w=A9 P S ⟨d,op,ty,pos,aft,none⟩ K f w:=rfl
def cu8(ops:Array Oper)(j:Nat):Option Nat:=(ops[j]?).bind (·.dst)
theorem dB4{j:Nat}:aI3 ops f j=match cu8 ops j with|some d=>(match f d with | .bool b=>some b|_=>none)|none=>none:=rfl
section
variable {S:World→Prop} {n i:Nat} {r:aA6}
theorem dZ8:RnF P ops S .nil K f w=K f w:=rfl
theorem ed3:RnF P ops S (.op i r) K f w =
  match ops[i]? with
  | none=>False
  | some o=>match o.guard with
    | none=>A9 P (some S) o (RnF P ops S r K) f w
    | some (j,b)=>if aI3 ops f j=some b then A9 P (some S) o (RnF P ops S r K) f w else RnF P ops S r K (A5 f o.dst undef) w:=rfl
end
section
variable {S:Option (World→Prop)} {d:Option Nat} {ty:TypeId} {pos:String} {aft:Array Edge}
theorem ec4{x:Operand}:A9 P S ⟨d,.move x,ty,pos,aft,none⟩ K f w=K (A5 f d (ev f x)) w:=rfl
theorem dC0{x:Operand}:A9 P S ⟨d,.assign x,ty,pos,aft,none⟩ K f w=K (A5 f d (ev f x)) w:=rfl
def aw8(v:Option Value)(K:Fr→World→Prop)(f:Fr)(d:Option Nat)(w:World)(D:Prop):Prop:=match v with
 | some v=>K (A5 f d v) w
 | none=>D
theorem el2{v:Value}{D:Prop}:aw8 (some v) K f d w D=K (A5 f d v) w:=rfl
theorem ec6{v:Value}:ad4 (.ok v w) K f d=K (A5 f d v) w:=rfl
theorem ec7{v:Unit}:aU8 (.ok v w) K f d=K (A5 f d undef) w:=rfl
theorem ec5{c a b:Operand}:A9 P S ⟨d,.pick c a b,ty,pos,aft,none⟩ K f w =
  aw8 (match ev f c with | .bool t=>some (if t then ev f a else ev f b)|_=>none) K f d w (Y1 P S ⟨d,.pick c a b,ty,pos,aft,none⟩ K f w):=rfl
theorem el3{op:BinOp}{t t2:TypeId}{x y:Operand}:A9 P S ⟨d,.binOp op t x y t2,ty,pos,aft,none⟩ K f w =
  aw8 (B6 P op t (ev f x) (ev f y)) K f d w (Y1 P S ⟨d,.binOp op t x y t2,ty,pos,aft,none⟩ K f w):=rfl
theorem et5{op:UnOp}{t:TypeId}{x:Operand}:A9 P S ⟨d,.unOp op t x,ty,pos,aft,none⟩ K f w =
  aw8 (unV op (ev f x)) K f d w (Y1 P S ⟨d,.unOp op t x,ty,pos,aft,none⟩ K f w):=rfl
theorem cP1{s:TypeId}{x:Operand}{i:Nat}:A9 P S ⟨d,.fieldAddr s x i,ty,pos,aft,none⟩ K f w =
  aw8 (bA1 P s i (ev f x)) K f d w (Y1 P S ⟨d,.fieldAddr s x i,ty,pos,aft,none⟩ K f w):=rfl
theorem dI1{s:TypeId}{x:Operand}{i:Nat}:A9 P S ⟨d,.field s x i,ty,pos,aft,none⟩ K f w =
  aw8 (aK9 P s i (ev f x)) K f d w (Y1 P S ⟨d,.field s x i,ty,pos,aft,none⟩ K f w):=rfl
theorem cP2{t:TypeId}{x i:Operand}:A9 P S ⟨d,.indexAddr t x i,ty,pos,aft,none⟩ K f w =
  aw8 (y0 P t (ev f x) (ev f i)) K f d w (Y1 P S ⟨d,.indexAddr t x i,ty,pos,aft,none⟩ K f w):=rfl
theorem dI2{t:TypeId}{x i:Operand}:A9 P S ⟨d,.index t x i,ty,pos,aft,none⟩ K f w =
  aw8 (V5 P t (ev f x) (ev f i)) K f d w (Y1 P S ⟨d,.index t x i,ty,pos,aft,none⟩ K f w):=rfl
theorem dI3{t:TypeId}{x:Operand}{lo hi:Option Operand}:A9 P S ⟨d,.slice t x lo hi none,ty,pos,aft,none⟩ K f w =
  aw8 (I3 P t (ev f x) (lo.map (ev f)) (hi.map (ev f))) K f d w (Y1 P S ⟨d,.slice t x lo hi none,ty,pos,aft,none⟩ K f w):=rfl
theorem df4{x:Operand}{i:Nat}:A9 P S ⟨d,.extract x i,ty,pos,aft,none⟩ K f w =
  aw8 (match ev f x with | .tuple vs=>vs[i]?|_=>none) K f d w (Y1 P S ⟨d,.extract x i,ty,pos,aft,none⟩ K f w):=rfl
theorem cY4{x:Operand}:A9 P S ⟨d,.nilCheck x,ty,pos,aft,none⟩ K f w =
  aw8 (match ev f x with | .pointer (some a)=>some (.pointer (some a))|_=>none) K f d w (Y1 P S ⟨d,.nilCheck x,ty,pos,aft,none⟩ K f w):=rfl
theorem cY3{fn:Fn}{first cap:Array Operand}:A9 P S ⟨d,.makeFunc fn first cap,ty,pos,aft,none⟩ K f w=K (A5 f d (.func fn (first.map (ev f)) (cap.map (ev f)))) w:=rfl
theorem dI0{t:TypeId}{parts:Array (Nat×Operand)}:A9 P S ⟨d,.build t parts,ty,pos,aft,none⟩ K f w =
  aw8 (C1 P t (parts.toList.map fun p=>(p.1,ev f p.2))) K f d w (Y1 P S ⟨d,.build t parts,ty,pos,aft,none⟩ K f w):=rfl
theorem el5{x:Operand}{t:TypeId}:A9 P S ⟨d,.call {callee:=.builtin .len,args:=#[x],argTypes:=#[t]},ty,pos,aft,none⟩ K f w =
  aw8 (Q4 P t (ev f x)) K f d w (Y1 P S ⟨d,.call {callee:=.builtin .len,args:=#[x],argTypes:=#[t]},ty,pos,aft,none⟩ K f w):=rfl
theorem el4{x:Operand}{t:TypeId}:A9 P S ⟨d,.call {callee:=.builtin .cap,args:=#[x],argTypes:=#[t]},ty,pos,aft,none⟩ K f w =
  aw8 (cL8 P t (ev f x)) K f d w (Y1 P S ⟨d,.call {callee:=.builtin .cap,args:=#[x],argTypes:=#[t]},ty,pos,aft,none⟩ K f w):=rfl
theorem df3{s t:Nat}{x:Operand}:A9 P S ⟨d,.convert s t x,ty,pos,aft,none⟩ K f w =
  aw8 (aX3 P s t (ev f x)) K f d w (Y1 P S ⟨d,.convert s t x,ty,pos,aft,none⟩ K f w):=rfl
theorem el0{D:Prop}:aw8 none K f d w D=D:=rfl
theorem el7{x y:Operand}{ts:Array TypeId}:A9 P S ⟨d,.call {callee:=.builtin .min,args:=#[x,y],argTypes:=ts},ty,pos,aft,none⟩ K f w =
  aw8 (cz0 (ev f x) (ev f y)) K f d w (Y1 P S ⟨d,.call {callee:=.builtin .min,args:=#[x,y],argTypes:=ts},ty,pos,aft,none⟩ K f w):=rfl
theorem el6{x y:Operand}{ts:Array TypeId}:A9 P S ⟨d,.call {callee:=.builtin .max,args:=#[x,y],argTypes:=ts},ty,pos,aft,none⟩ K f w =
  aw8 (cy9 (ev f x) (ev f y)) K f d w (Y1 P S ⟨d,.call {callee:=.builtin .max,args:=#[x,y],argTypes:=ts},ty,pos,aft,none⟩ K f w):=rfl
end
section
variable {d:Option Nat} {ty:TypeId} {pos:String} {aft:Array Edge} {S:World→Prop}
theorem ec2{t:TypeId}{a:Operand}:A9 P none ⟨d,.load t a,ty,pos,aft,none⟩ K f w=ad4 ((Instr.loadAt t (ev f a)).run P w) K f d:=rfl
theorem cK1{t n:Nat}{ps:Array (Nat×Operand)}:A9 P none ⟨d,.buildSlice t n ps,ty,pos,aft,none⟩ K f w=ad4 ((Instr.buildSlice t n (ps.map fun p=>(p.1,ev f p.2))).run P w) K f d:=rfl
theorem dH2{t:Nat}:A9 P none ⟨d,.alloc t,ty,pos,aft,none⟩ K f w=ad4 ((Instr.alloc t true (.tuple #[])).run P w) K f d:=rfl
theorem ek9{t:Nat}{x:Operand}:A9 P none ⟨d,.box t x,ty,pos,aft,none⟩ K f w=ad4 ((Instr.box t (ev f x)).run P w) K f d:=rfl
theorem cO9{t:Nat}{x y:Operand}:A9 P none ⟨d,.makeSlice t x y,ty,pos,aft,none⟩ K f w=ad4 ((Instr.makeSlice t (ev f x) (ev f y)).run P w) K f d:=rfl
theorem bj5{t:Nat}{r:Option Operand}:A9 P none ⟨d,.makeMap t r,ty,pos,aft,none⟩ K f w=ad4 ((Instr.makeMap t (r.map (ev f))).run P w) K f d:=rfl
theorem dB8{t:Nat}{x i:Operand}{ok:Bool}:A9 P none ⟨d,.lookup t x i ok,ty,pos,aft,none⟩ K f w=ad4 ((Instr.lookup t (ev f x) (ev f i) ok).run P w) K f d:=rfl
theorem de9{s t:Nat}{x:Operand}:Y1 P none ⟨d,.convert s t x,ty,pos,aft,none⟩ K f w=ad4 ((convert s t (ev f x)).run P w) K f d:=rfl
theorem ek4{op:BinOp}{t t2:TypeId}{x y:Operand}:Y1 P none ⟨d,.binOp op t x y t2,ty,pos,aft,none⟩ K f w=ad4 ((do eqGuard op t x y (ev f x) (ev f y);binOp op t (ev f x) (ev f y):Sem Value).run P w) K f d:=rfl
theorem dB7{x y:Operand}{ts:Array TypeId}:A9 P none ⟨d,.call {callee:=.builtin .append,args:=#[x,y],argTypes:=ts},ty,pos,aft,none⟩ K f w=ad4 ((Builtin.append_ ts ty #[ev f x,ev f y]).run P w) K f d:=by
 simp[A9,aq4,Y1,bc2,be4]
theorem ec1{x y:Operand}{ts:Array TypeId}:A9 P none ⟨d,.call {callee:=.builtin .copy,args:=#[x,y],argTypes:=ts},ty,pos,aft,none⟩ K f w=ad4 ((Builtin.copy_ ts ty #[ev f x,ev f y]).run P w) K f d:=by
 simp[A9,aq4,Y1,bc2,be4]
theorem dH4{t:Nat}{a x:Operand}:A9 P none ⟨d,.store t a x,ty,pos,aft,none⟩ K f w=aU8 ((Instr.storeAt t (ev f a) (ev f x)).run P w) K f d:=rfl
theorem bB7{t:Nat}{m k x:Operand}:A9 P none ⟨d,.mapUpdate t m k x,ty,pos,aft,none⟩ K f w=aU8 ((Instr.mapUpdate t (ev f m) (ev f k) (ev f x)).run P w) K f d:=rfl
theorem ec0{k:Nat}{asz:Array Operand}{ts:Array TypeId}:A9 P none ⟨d,.call {callee:=.value (.func k),args:=asz,argTypes:=ts},ty,pos,aft,none⟩ K f w=ar6 P k (asz.toList.map (ev f)) w K f d:=by
 simp[A9,aq4,Y1,bc2,ev,aJ1]
theorem eb9{t:TypeId}{a:Operand}:A9 P (some S) ⟨d,.load t a,ty,pos,aft,none⟩ K f w=B5 P S (Instr.loadAt t (ev f a)) K f d w:=rfl
theorem dB6{t:Nat}{x i:Operand}{ok:Bool}:A9 P (some S) ⟨d,.lookup t x i ok,ty,pos,aft,none⟩ K f w=B5 P S (Instr.lookup t (ev f x) (ev f i) ok) K f d w:=rfl
theorem de8{s t:Nat}{x:Operand}:Y1 P (some S) ⟨d,.convert s t x,ty,pos,aft,none⟩ K f w=B5 P S (convert s t (ev f x)) K f d w:=rfl
theorem ek3{op:BinOp}{t t2:TypeId}{x y:Operand}:Y1 P (some S) ⟨d,.binOp op t x y t2,ty,pos,aft,none⟩ K f w=B5 P S (do eqGuard op t x y (ev f x) (ev f y);binOp op t (ev f x) (ev f y)) K f d w:=rfl
theorem cJ9{t n:Nat}{ps:Array (Nat×Operand)}:A9 P (some S) ⟨d,.buildSlice t n ps,ty,pos,aft,none⟩ K f w=ad4 ((Instr.buildSlice t n (ps.map fun p=>(p.1,ev f p.2))).run P w) (G0 S K) f d:=rfl
theorem dG9{t:Nat}:A9 P (some S) ⟨d,.alloc t,ty,pos,aft,none⟩ K f w=ad4 ((Instr.alloc t true (.tuple #[])).run P w) (G0 S K) f d:=rfl
theorem ek8{t:Nat}{x:Operand}:A9 P (some S) ⟨d,.box t x,ty,pos,aft,none⟩ K f w=ad4 ((Instr.box t (ev f x)).run P w) (G0 S K) f d:=rfl
theorem cO7{t:Nat}{x y:Operand}:A9 P (some S) ⟨d,.makeSlice t x y,ty,pos,aft,none⟩ K f w=ad4 ((Instr.makeSlice t (ev f x) (ev f y)).run P w) (G0 S K) f d:=rfl
theorem dB5{x y:Operand}{ts:Array TypeId}:A9 P (some S) ⟨d,.call {callee:=.builtin .append,args:=#[x,y],argTypes:=ts},ty,pos,aft,none⟩ K f w=ad4 ((Builtin.append_ ts ty #[ev f x,ev f y]).run P w) (G0 S K) f d:=by
 simp[A9,aq4,Y1,bc2,be4,flt]
theorem eb8{x y:Operand}{ts:Array TypeId}:A9 P (some S) ⟨d,.call {callee:=.builtin .copy,args:=#[x,y],argTypes:=ts},ty,pos,aft,none⟩ K f w=ad4 ((Builtin.copy_ ts ty #[ev f x,ev f y]).run P w) (G0 S K) f d:=by
 simp[A9,aq4,Y1,bc2,be4,flt]
theorem dH1{t:Nat}{a x:Operand}:A9 P (some S) ⟨d,.store t a x,ty,pos,aft,none⟩ K f w=aU8 ((Instr.storeAt t (ev f a) (ev f x)).run P w) (G0 S K) f d:=rfl
theorem eb7{k:Nat}{asz:Array Operand}{ts:Array TypeId}:A9 P (some S) ⟨d,.call {callee:=.value (.func k),args:=asz,argTypes:=ts},ty,pos,aft,none⟩ K f w=ar6 P k (asz.toList.map (ev f)) w (G0 S K) f d:=by
 simp[A9,aq4,Y1,bc2,ev,aJ1]
end
end
def ey3:=@List.append_assoc
def ez7:=@List.drop_eq_getElem_cons
def ez8:=@List.getElem?_append_left
def eA0:=@List.getElem?_append_right
def ev4:=@List.getElem?_eq_getElem
def ev9:=@List.getElem?_eq_some_iff
def ev7:=@List.length_append
def ew9:=@List.length_take
def ew8:=@List.mem_append
def eA6:=@List.take_append_drop
def eE9:=@List.take_left
def eG7:=@Nat.add_mul
def ew2:=@Nat.le_trans
def eC6:=@Nat.lt_of_lt_of_le
def eC3:=@Nat.min_eq_left
def eF2:=@Nat.mul_one
abbrev Hp:=Nat→Option Obj
def d7(w:World):Hp:=fun b=>w.heap[b]?
def B3(h k:Hp):Prop:=∀b o,h b=some o→k b=some o
theorem i4(h:Hp):B3 h h:=fun _ _ e=>e
theorem p9{a b c:Hp}(h:B3 a b)(k:B3 b c):B3 a c:=fun x o e=>k x o (h x o e)
def I7(h:Hp)(a:Addr):Option Value:=match h a.block with
 | some (.cells c _ _)=>if a.spot.isSome then none else c[a.off]?
 | _=>none
theorem aj5(w:World)(a:Addr):w.cell? a=I7 (d7 w) a:=rfl
theorem G2{h k:Hp}(hk:B3 h k){a:Addr}{v:Value}(e:I7 h a=some v):I7 k a=some v:=by
 unfold I7 at *;cases hb:h a.block with
 | none=>simp[hb]at e
 | some o=>rw[hk _ _ hb];rw[hb]at e;exact e
structure o9 (M:Nat→Prop) (w w':World):Prop where
 os:w'.os=w.os
 tape:w'.tape=w.tape
 output:w'.output=w.output
 size:w.heap.size≤w'.heap.size
 block:∀k,k<w.heap.size→¬M k→w'.heap[k]?=w.heap[k]?
abbrev o6(w w':World):Prop:=o9 (fun _=>False) w w'
theorem o9.refl{M:Nat→Prop}(w:World):o9 M w w:=⟨rfl,rfl,rfl,ex0 _,fun _ _ _=>rfl⟩
theorem o9.trans{M:Nat→Prop}{a b c:World}(h:o9 M a b)(k:o9 M b c):o9 M a c:=
 ⟨k.os.trans h.os,k.tape.trans h.tape,k.output.trans h.output,ew2 h.size k.size,fun i hi hm=>(k.block i (eC6 hi h.size) hm).trans (h.block i hi hm)⟩
theorem o9.weaken{M N:Nat→Prop}{w w':World}(h:o9 M w w')(hmn:∀k,k<w.heap.size→M k→N k):o9 N w w':=⟨h.os,h.tape,h.output,h.size,fun k hk hn=>h.block k hk fun hm=>hn (hmn k hk hm)⟩
theorem o6.drew(w:World):o6 w w.drew:=⟨rfl,rfl,rfl,ex0 _,fun _ _ _=>rfl⟩
theorem o6.alloc(w:World)(o:Obj):o6 w (w.alloc o):=⟨rfl,rfl,rfl,by simp,fun k hk _=>by
 show(w.heap.push o)[k]?=_;rw[Array.getElem?_push,if_neg (by omega)]⟩
theorem o9.ext_of{M:Nat→Prop}{w w1 w2:World}(h:o6 w w1)(k:o9 M w1 w2)(hM:∀b,M b→w.heap.size≤b):o6 w w2:=
 ⟨k.os.trans h.os,k.tape.trans h.tape,k.output.trans h.output,ew2 h.size k.size,fun i hi _=>(k.block i (eC6 hi h.size) (fun hm=>by have:=hM i hm;omega)).trans (h.block i hi id)⟩
theorem o9.setCell{M:Nat→Prop}(w:World)(a:Addr)(v:Value)(h:M a.block):o9 M w (w.setCell a v):=
 ⟨rfl,rfl,rfl,by simp[World.setCell],fun k _ hm=>by
  simp only[World.setCell,Array.getElem?_modify];rw[if_neg (fun e:a.block=k=>hm (e ▸ h))]⟩
theorem o9.setRow{M:Nat→Prop}(w:World)(g:Nat)(cs:Array Value)(h:M g):o9 M w (w.setRow g cs):=
 ⟨rfl,rfl,rfl,by simp,fun k _ hm=>setRow_other w g k cs (fun e=>hm (e ▸ h))⟩
theorem b7{w w':World}(h:o6 w w'):B3 (d7 w) (d7 w'):=fun b o e=>by
 have hb:b<w.heap.size:=(ew1.1 (show w.heap[b]?=some o from e)).1;exact(h.block b hb id).trans e
theorem K7{h:Hp}{M:Nat→Prop}{w w':World}(hw:B3 h (d7 w))(hm:o9 M w w')(hM:∀b,M b→h b=none):B3 h (d7 w'):=fun b o e=>by
 have e1:=hw b o e;have hb:b<w.heap.size:=(ew1.1 (show w.heap[b]?=some o from e1)).1;exact(hm.block b hb (fun hh=>by rw[hM b hh]at e;cases e)).trans e1
theorem av8{h:Hp}{w:World}(hw:B3 h (d7 w)){b:Nat}(hb:w.heap.size≤b):h b=none:=by
 cases e:h b with
 | none=>rfl
 | some o=>
  have:=(ew1.1 (show w.heap[b]?=some o from hw b o e)).1;omega
class z7 (α:Type) where
 sz:Nat
 pos:0<sz
 enc:Hp→List Value→α→Prop
 len:∀{h cs x},enc h cs x→cs.length=sz
 mono:∀{h k cs x},B3 h k→enc h cs x→enc k cs x
 one:∀{h cs x},enc h cs x→∀v∈cs,v.oneCell'=true
class J0 (α:Type) where
 val:α→Value
 one:∀x,(val x).oneCell'=true
instance {α:Type} [J0 α]:z7 α where
 sz:=1
 pos:=by omega
 enc _ cs x:=cs=[J0.val x]
 len h:=by simp[h]
 mono _ h:=h
 one h:=by
  intro v hv;rw[h]at hv;simp at hv;subst hv;exact J0.one _
instance:J0 Int:=⟨fun n=>.int .i64 n,fun _=>rfl⟩
instance:J0 Bool:=⟨fun b=>.bool b,fun _=>rfl⟩
instance:J0 ByteArray:=⟨fun s=>.string s,fun _=>rfl⟩
instance:J0 Nat:=⟨fun n=>.int .u64 n,fun _=>rfl⟩
instance {α β:Type} [z7 α] [z7 β]:z7 (α×β) where
 sz:=z7.sz α+z7.sz β
 pos:=by have:=z7.pos (α:=α);omega
 enc h cs x:=∃c1 c2,cs=c1++c2∧z7.enc h c1 x.1∧z7.enc h c2 x.2
 len:=by rintro h cs x ⟨c1,c2,rfl,h1,h2⟩;simp[z7.len h1,z7.len h2]
 mono:=by rintro h k cs x hk ⟨c1,c2,rfl,h1,h2⟩;exact⟨c1,c2,rfl,z7.mono hk h1,z7.mono hk h2⟩
 one:=by
  rintro h cs x ⟨c1,c2,rfl,h1,h2⟩ v hv;rcases ew8.1 hv with hv|hv
  ·exact z7.one h1 v hv
  ·exact z7.one h2 v hv
section
variable {α:Type} [z7 α]
def N2(h:Hp):List Value→List α→Prop
 | cs,[]=>cs=[]
 | cs,x::xs=>∃c1 c2,cs=c1++c2∧z7.enc h c1 x∧N2 h c2 xs
theorem J9{h:Hp}:∀{xs:List α} {cs:List Value},N2 h cs xs→cs.length=xs.length*z7.sz α
 | [],cs,e=>by simp[N2]at e;simp[e]
 | x::xs,cs,e=>by
  obtain⟨c1,c2,rfl,h1,h2⟩:=e;simp only[ev7,ey0,z7.len h1,J9 h2,eG7];omega
theorem aF8{h k:Hp}(hk:B3 h k):∀{xs:List α} {cs:List Value},N2 h cs xs→N2 k cs xs
 | [],_,e=>e
 | _::_,_,⟨c1,c2,e,h1,h2⟩=>⟨c1,c2,e,z7.mono hk h1,aF8 hk h2⟩
theorem bG5{h:Hp}:∀{xs:List α} {cs:List Value},N2 h cs xs→∀v∈cs,v.oneCell'=true
 | [],cs,e,v,hv=>by simp[N2]at e;subst e;cases hv
 | x::xs,cs,⟨c1,c2,e,h1,h2⟩,v,hv=>by
  subst e;rcases ew8.1 hv with hv|hv
  ·exact z7.one h1 v hv
  ·exact bG5 h2 v hv
theorem ag9{h:Hp}:∀{xs:List α} {cs ds:List Value} {ys:List α},N2 h cs xs→N2 h ds ys→N2 h (cs++ds) (xs++ys)
 | [],cs,ds,ys,e1,e2=>by simp[N2]at e1;subst e1;exact e2
 | x::xs,cs,ds,ys,⟨c1,c2,e,h1,h2⟩,e2=>⟨c1,c2++ds,by rw[e,ey3],h1,ag9 h2 e2⟩
theorem aX6{h:Hp}{es:List Value}{x:α}(he:z7.enc h es x):N2 h es [x]:=⟨es,[],by simp,he,rfl⟩
theorem Z8{h:Hp}:∀(xs ys:List α) {cs:List Value},N2 h cs (xs++ys)→∃c1 c2,cs=c1++c2∧N2 h c1 xs∧N2 h c2 ys
 | [],ys,cs,e=>⟨[],cs,rfl,rfl,e⟩
 | x::xs,ys,cs,⟨c1,c2,e,h1,h2⟩=>by
  obtain⟨d1,d2,e2,h3,h4⟩:=Z8 xs ys h2;exact⟨c1++d1,d2,by rw[e,e2,ey3],⟨c1,d1,rfl,h1,h3⟩,h4⟩
theorem bG4{h:Hp}{xs:List α}{cs:List Value}(e:N2 h cs xs){k:Nat}{x:α}(hk:xs[k]?=some x):
  ∃es,z7.enc h es x∧∀j,j<z7.sz α→cs[k*z7.sz α+j]?=es[j]?:=by
 have hlt:k<xs.length:=(ev9.1 hk).1;have hx:xs=xs.take k++x::xs.drop (k+1):=by
  have h2:xs[k]=x:=(ev9.1 hk).2;have:=eA6 k xs;rw[ez7 hlt,h2]at this;exact this.symm
 rw[hx]at e;obtain⟨c1,c2,rfl,h1,⟨es,c3,rfl,h2,h3⟩⟩:=Z8 _ _ e;refine⟨es,h2,fun j hj=>?_⟩;have hl:c1.length=k*z7.sz α:=by rw[J9 h1,ew9,eC3 (Nat.le_of_lt hlt)]
 rw[eA0 (by omega),hl,Nat.add_sub_cancel_left,ez8 (by rw[z7.len h2];exact hj)]
theorem ct3{h:Hp}{xs:List α}{cs:List Value}(e:N2 h cs xs){k:Nat}(hk:k<xs.length){y:α}{ds:List Value}(hd:z7.enc h ds y):
  N2 h (cs.take (k*z7.sz α)++ds++cs.drop (k*z7.sz α+z7.sz α)) (xs.set k y):=by
 have hx:xs=xs.take k++xs[k]::xs.drop (k+1):=by
  have:=eA6 k xs;rw[ez7 hk]at this;exact this.symm
 rw[hx]at e;obtain⟨c1,c2,rfl,h1,⟨es,c3,rfl,h2,h3⟩⟩:=Z8 _ _ e;have hl:c1.length=k*z7.sz α:=by rw[J9 h1,ew9,eC3 (Nat.le_of_lt hk)]
 have hl2:es.length=z7.sz α:=z7.len h2;have e1:(c1++(es++c3)).take (k*z7.sz α)=c1:=by rw[←hl];exact eE9
 have e2:(c1++(es++c3)).drop (k*z7.sz α+z7.sz α)=c3:=by
  rw[←hl,←hl2,←ey3,←ev7];exact List.drop_left
 rw[e1,e2];have hset:xs.set k y=xs.take k++y::xs.drop (k+1):=List.set_eq_take_append_cons_drop.trans (by rw[if_pos hk]);rw[hset,ey3];exact ag9 h1 ⟨ds,c3,rfl,hd,h3⟩
instance:z7 (List α) where
 sz:=1
 pos:=by omega
 enc h cs xs:=∃a n c,cs=[.slice a n c]∧n=xs.length∧n≤c∧∃es,N2 h es xs∧∀j v,es[j]?=some v→∃ad,a=some ad∧I7 h (ad.add j)=some v
 len:=by rintro h cs x ⟨a,n,c,rfl,_⟩;rfl
 mono:=by
  rintro h k cs x hk ⟨a,n,c,e,h1,h2,es,h3,h4⟩;refine⟨a,n,c,e,h1,h2,es,aF8 hk h3,fun j v hv=>?_⟩;obtain⟨ad,e1,e2⟩:=h4 j v hv;exact⟨ad,e1,G2 hk e2⟩
 one:=by
  rintro h cs x ⟨a,n,c,rfl,_⟩ v hv;simp at hv;subst hv;rfl
end
abbrev R{α:Type}[z7 α](h:Hp)(v:Value)(x:α):Prop:=z7.enc h [v] x
theorem Addr.add_add'(a:Addr)(x y:Nat):(a.add x).add y=a.add (x+y):=by
 unfold Addr.add;by_cases hx:x=0
 ·subst hx;simp
 ·by_cases hy:y=0
  ·subst hy;simp[hx]
  ·simp[hx,hy,eF0]
section
variable {α:Type} [z7 α] {h:Hp} {v:Value} {xs:List α}
theorem R.isS(hr:R h v xs):isS v=true:=by
 obtain⟨a,n,c,e,_⟩:=hr;simp at e;subst e;rfl
theorem R.vlen(hr:R h v xs):vlen v=xs.length:=by
 obtain⟨a,n,c,e,h1,_⟩:=hr;simp at e;subst e;exact h1
theorem R.vcap(hr:R h v xs):xs.length≤vcap v:=by
 obtain⟨a,n,c,e,h1,h2,_⟩:=hr;simp at e;subst e;rw[←h1];exact h2
theorem R.get(hr:R h v xs){k:Nat}{x:α}(hk:xs[k]?=some x):
  inS v k=true∧∃es,z7.enc h es x∧∀j u,es[j]?=some u→I7 h ((H5 v (k*z7.sz α)).add j)=some u:=by
 obtain⟨a,n,c,e,h1,h2,es,h3,h4⟩:=hr;simp at e;subst e;obtain⟨ds,hd1,hd2⟩:=bG4 h3 hk;have hlt:k<xs.length:=(ev9.1 hk).1;have hl:=z7.len hd1;have hpos:=z7.pos (α:=α);have h0:∃u,ds[0]?=some u:=by
  rw[ev4 (by omega)];exact⟨_,rfl⟩
 obtain⟨u0,hu0⟩:=h0;obtain⟨ad,rfl,_⟩:=h4 (k*z7.sz α+0) u0 (by rw[hd2 0 hpos];exact hu0);refine⟨by simp[inS];omega,ds,hd1,fun j u hj=>?_⟩;have hjl:j<ds.length:=(ev9.1 hj).1;obtain⟨ad',e',hc⟩:=h4 (k*z7.sz α+j) u (by rw[hd2 j (by omega)];exact hj);obtain rfl:=ex1 e';simp only[H5];rw[Addr.add_add'];exact hc
theorem R.inS(hr:R h v xs){k:Nat}(hk:k<xs.length):inS v k=true:=(hr.get (ev4 hk)).1
end
theorem K0(a:Addr):a.add 0=a:=by simp[Addr.add]
section
variable {P:Program} {t:TypeId} {w:World} {h:Hp}
theorem R5{a:Addr}{u:Value}(ht:B9 P t=false)(hc:w.cell? a=some u):(Instr.loadAt t (.pointer (some a))).run P w = .ok u w:=by
 unfold Instr.loadAt loadVar;simp only[Instr.sureAddr,ey2,ez6,ex2,W7 t (aR9 ht),ht,eB8,eC8,run_load,hc]
theorem bi5{a:Addr}{cs:List Value}(ht:B9 P t=true)(hu:(P.underlying t).isSome=true)(hi:(P.info? t).isSome=true)(hs:E4 P t=cs.length)
  (hc:∀j u,cs[j]?=some u→w.cell? (a.add j)=some u):(Instr.loadAt t (.pointer (some a))).run P w = .ok (.agg cs.toArray) w:=by
 unfold Instr.loadAt loadVar;simp only[Instr.sureAddr,ey2,ez6,ex2,W7 t hu,ht,eB5,N7 hi,hs,run_loadCells_list w a cs hc]
theorem N0{α:Type}[J0 α]{v:Value}{xs:List α}(hr:R h v xs)(hw:B3 h (d7 w)){k:Nat}{x:α}(hk:xs[k]?=some x)(ht:B9 P t=false):
  (Instr.loadAt t (.pointer (some (H5 v k)))).run P w = .ok (J0.val x) w:=by
 obtain⟨_,es,he,hc⟩:=hr.get hk;have he':es=[J0.val x]:=he;have:=hc 0 (J0.val x) (by rw[he'];rfl);rw[K0]at this;have h1:(k*z7.sz α)=k:=eF2 k;rw[h1]at this;exact R5 ht (G2 hw this)
end
def eE5:=@Array.getElem?_eq_getElem
def eI7:=@Array.length_toList
def ey7:=@List.append_nil
def eE2:=@List.getElem?_take
def eD0:=@List.length_drop
def eC2:=@List.length_nil
def eC7:=@List.length_set
def eG5:=@List.nil_append
def eF1:=@List.size_toArray
def eA1:=@List.take_of_length_le
def ew3:=@List.take_succ_eq_append_getElem
def eH0:=@List.take_zero
def eD9:=@Nat.mul_le_mul_right
def eH1:=@World.cell?_alloc_new
def eD1:=@cell_of_row
def ez9:=@heap_alloc_new
def A8{α:Type}[z7 α](h:Hp)(w:World)(T:TypeId)(v:Value)(xs:List α):Prop:=
 (v = .slice none 0 0∧xs=[]) ∨
 ∃b c cur,v = .slice (some ⟨b,0,none⟩) xs.length c∧h b=none∧w.heap[b]?=some (.cells cur T (0,0))∧xs.length≤c∧c≤maxLen∧cur.size=c*z7.sz α ∧
  N2 h (cur.toList.take (xs.length*z7.sz α)) xs
def A3(v:Value)(b:Nat):Prop:=v.ownBlock=some b
theorem D1{b:Nat}{n c:Nat}:¬A3 (.slice none n c) b:=by simp[A3,Value.ownBlock]
def E8(w:World)(v v':Value):Prop:=∀b,A3 v' b→A3 v b∨w.heap.size≤b
section
variable {α:Type} [z7 α] {h:Hp} {w:World} {T:TypeId} {v:Value} {xs:List α}
theorem A8.nil(h:Hp)(w:World)(T:TypeId):A8 h w T (.slice none 0 0) ([]:List α):=.inl ⟨rfl,rfl⟩
theorem A8.free(ho:A8 h w T v xs){b:Nat}(hb:A3 v b):h b=none:=by
 rcases ho with⟨rfl,_⟩|⟨b',c,cur,rfl,h1,_⟩
 ·exact absurd hb D1
 ·simp[A3,Value.ownBlock]at hb;subst hb;exact h1
theorem A8.lt(ho:A8 h w T v xs){b:Nat}(hb:A3 v b):b<w.heap.size:=by
 rcases ho with⟨rfl,_⟩|⟨b',c,cur,rfl,h1,h2,_⟩
 ·exact absurd hb D1
 ·simp[A3,Value.ownBlock]at hb;subst hb;exact(ew1.1 h2).1
theorem A8.isS(ho:A8 h w T v xs):isS v=true:=by
 rcases ho with⟨rfl,_⟩|⟨b',c,cur,rfl,_⟩<;>rfl
theorem A8.vlen(ho:A8 h w T v xs):vlen v=xs.length:=by
 rcases ho with⟨rfl,rfl⟩|⟨b',c,cur,rfl,_⟩<;>rfl
theorem A8.vcap(ho:A8 h w T v xs):xs.length≤vcap v:=by
 rcases ho with⟨rfl,rfl⟩|⟨b',c,cur,rfl,_,_,h3,_⟩
 ·simp
 ·exact h3
theorem A8.inS(ho:A8 h w T v xs){k:Nat}(hk:k<xs.length):inS v k=true:=by
 rcases ho with⟨rfl,rfl⟩|⟨b',c,cur,rfl,_⟩
 ·simp at hk
 ·simp[Go.Proofs.YtcbnbgpphippoaaGreat.inS,hk]
theorem A8.mod{M:Nat→Prop}{w':World}(ho:A8 h w T v xs)(hm:o9 M w w')(hM:∀b,A3 v b→¬M b):A8 h w' T v xs:=by
 rcases ho with hn|⟨b,c,cur,rfl,h1,h2,rest⟩
 ·exact .inl hn
 ·exact .inr ⟨b,c,cur,rfl,h1,(hm.block b (ew1.1 h2).1 (hM b rfl)).trans h2,rest⟩
theorem A8.ext{w':World}(ho:A8 h w T v xs)(hm:o6 w w'):A8 h w' T v xs:=ho.mod hm fun _ _=>id
theorem A8.up{k:Hp}(ho:A8 h w T v xs)(hk:B3 h k)(hb:∀b,A3 v b→k b=none):A8 k w T v xs:=by
 rcases ho with hn|⟨b,c,cur,rfl,h1,h2,h3,h4,h5,h6⟩
 ·exact .inl hn
 ·exact .inr ⟨b,c,cur,rfl,hb b rfl,h2,h3,h4,h5,aF8 hk h6⟩
theorem A8.ro(ho:A8 h w T v xs){k:Hp}(hk:B3 h k)(hb:∀b,A3 v b→k b=w.heap[b]?):R k v xs:=by
 rcases ho with⟨rfl,rfl⟩|⟨b,c,cur,rfl,h1,h2,h3,h4,h5,h6⟩
 ·exact⟨_,_,_,rfl,rfl,ex0 _,[],rfl,fun j v hv=>by simp at hv⟩
 ·refine⟨_,_,_,rfl,rfl,h3,_,aF8 hk h6,fun j u hj=>⟨_,rfl,?_⟩⟩;have hlt:j<cur.size:=by
   have:=(ev9.1 hj).1;simp at this;omega
  have hc:cur[j]?=some u:=by
   rw[eE2]at hj;split at hj
   ·simpa using hj
   ·cases hj
  have ha:(⟨b,0,.none⟩:Addr).add j=⟨b,j,.none⟩:=by unfold Addr.add;split<;>simp_all
  rw[ha];simp only[I7,hb b rfl,h2,Option.isSome_none,eB8,eC8,hc]
theorem A8.rw_(ho:A8 h w T v xs)(hw:B3 h (d7 w)):R (d7 w) v xs:=ho.ro hw fun _ _=>rfl
theorem A8.get(ho:A8 h w T v xs){k:Nat}{x:α}(hk:xs[k]?=some x):
  ∃es,z7.enc h es x∧∀j u,es[j]?=some u→w.cell? ((H5 v (k*z7.sz α)).add j)=some u:=by
 rcases ho with⟨rfl,rfl⟩|⟨b,c,cur,rfl,h1,h2,h3,h4,h5,h6⟩
 ·simp at hk
 ·obtain⟨es,he,hc⟩:=bG4 h6 hk;refine⟨es,he,fun j u hj=>?_⟩;have hjl:j<z7.sz α:=by have:=(ev9.1 hj).1;rw[z7.len he]at this;exact this
  have:=hc j hjl;rw[hj,eE2]at this;split at this
  ·simp only[H5];rw[Addr.add_add'];have ha:(⟨b,0,.none⟩:Addr).add (k*z7.sz α+j)=⟨b,k*z7.sz α+j,.none⟩:=by unfold Addr.add;split<;>simp_all
   rw[ha,eD1 w b _ cur T (0,0) h2];simpa using this
  ·cases this
end
section
variable {α:Type} [z7 α] {h:Hp} {P:Program} {w:World} {t T:TypeId} {v:Value}
theorem D4{α:Type}[J0 α]{xs:List α}(ho:A8 h w T v xs){k:Nat}{x:α}(hk:xs[k]?=some x)(ht:B9 P t=false):
  (Instr.loadAt t (.pointer (some (H5 v k)))).run P w = .ok (J0.val x) w:=by
 obtain⟨es,he,hc⟩:=ho.get hk;have he':es=[J0.val x]:=he;have:=hc 0 (J0.val x) (by rw[he'];rfl);rw[K0]at this;have h1:(k*z7.sz α)=k:=eF2 k;rw[h1]at this;exact R5 ht this
theorem aZ6{xs:List (List α)}(ho:A8 h w T v xs){k:Nat}{x:List α}(hk:xs[k]?=some x)(ht:B9 P t=false):
  ∃u,R h u x∧(Instr.loadAt t (.pointer (some (H5 v k)))).run P w = .ok u w:=by
 obtain⟨es,he,hc⟩:=ho.get hk;have hl:es.length=1:=z7.len he
 match es,hl with
 | [u],_=>
  have:=hc 0 u rfl;rw[K0]at this;have h1:(k*z7.sz (List α))=k:=eF2 k;rw[h1]at this;exact⟨u,he,R5 ht this⟩
theorem aJ4{a:Addr}{u x:Value}{i:TypeInfo}(hi:P.info? t=some i)(hs:i.size=1)(hx:x.cells=#[x])(h1:x.oneCell'=true)(hc:w.cell? a=some u)(hf:w.frozen? a=false):
  (Instr.storeAt t (.pointer (some a)) x).run P w = .ok () (w.setCell a x):=by
 have hst:(store (a.add 0) x).run P w = .ok () (w.setCell a x):=by
  rw[K0];cases x<;>simp[Value.oneCell']at h1<;>simp[store,Sem.run,hc,hf]
 unfold Instr.storeAt storeVar;simp only[Instr.sureAddr,ey2,ez6,ex2,sizeOf,N5,hi,hs,hx,Sem.run_ite];simp only[eF1,ey0,eC2,storeCells,ey2,hst,ex2,ez6];rfl
theorem E0{xs:List α}(ho:A8 h w T v xs)(hz:z7.sz α=1){k:Nat}(hk:k<xs.length){x:Value}{y:α}(hy:z7.enc h [x] y)(hx:x.cells=#[x])
  {i:TypeInfo} (hi:P.info? t=some i) (hs:i.size=1) :
  ∃w',(Instr.storeAt t (.pointer (some (H5 v k))) x).run P w = .ok () w'∧A8 h w' T v (xs.set k y)∧o9 (A3 v) w w'∧w'.heap.size=w.heap.size:=by
 obtain⟨es,he,hc⟩:=ho.get (ev4 hk);have hone:x.oneCell'=true:=z7.one hy x (by simp);rcases ho with⟨rfl,rfl⟩|⟨b,c,cur,rfl,h1,h2,h3,h4,h5,h6⟩
 ·simp at hk
 ·have ha:(⟨b,0,.none⟩:Addr).add k=⟨b,k,.none⟩:=by unfold Addr.add;split<;>simp_all
  have hksz:k<cur.size:=by rw[h5,hz];omega
  have hcell:w.cell? ⟨b,k,.none⟩=some cur[k]:=by rw[eD1 w b k cur T (0,0) h2,eE5 hksz]
  have hfr:w.frozen? ⟨b,k,.none⟩=false:=frozen_of_row w b k cur T h2;have hrun:=aJ4 (P:=P) (t:=t) hi hs hx hone hcell hfr;simp only[H5,ha];refine⟨_,hrun,?_,o9.setCell _ _ _ (by simp[A3,Value.ownBlock]),by simp⟩;right;refine⟨b,c,cur.setIfInBounds k x,by simp,h1,heap_setCell_same w b k cur T x h2,by simpa using h3,h4,by simpa using h5,?_⟩;have hs':=ct3 h6 hk hy;have hl:(cur.toList.take xs.length).length=xs.length:=by
   rw[hz]at h5;have h7:cur.toList.length=cur.size:=by simp
   rw[ew9,h7];omega
  have e1:(cur.setIfInBounds k x).toList.take ((xs.set k y).length*z7.sz α) =
    (cur.toList.take (xs.length*z7.sz α)).take (k*z7.sz α)++[x]++(cur.toList.take (xs.length*z7.sz α)).drop (k*z7.sz α+z7.sz α):=by
   rw[hz];simp only[Array.toList_setIfInBounds,eC7,eF2];rw[List.take_set];rw[List.set_eq_take_append_cons_drop,if_pos (by rw[hl];exact hk)];simp
  rw[e1];exact hs'
theorem aL5{e:TypeId}{i:TypeInfo}{z:Value}(ht:P.underlying t=some (.slice T))(hi:P.info? T=some i)(hz:i.zero=some z)(hsize:i.size=z7.sz α)(hzs:z.cells.size=i.size)
  {xs ys:List α} (ho:A8 h w T v xs) {ad:Addr} {m c:Nat} {news:List Value} (hm:m=ys.length) (hn:N2 h news ys) (hnews:∀j u,news[j]?=some u→w.cell? (ad.add j)=some u)
  (hy:ys≠[]) (h63:xs.length+ys.length≤maxLen) (hbytes:(xs.length+ys.length)*i.bytes≤140737488355328) (hw:B3 h (d7 w)) :
  ∃v' w',(Builtin.append_ #[t,t] e #[v,.slice (some ad) m c]).run P w = .ok v' w'∧A8 h w' T v' (xs++ys)∧o9 (A3 v) w w'∧E8 w v v':=by
 have hl:=J9 hn;have hone:=bG5 hn;have hy0:0<ys.length:=List.length_pos_iff.2 hy;have fresh:∀(old:Nat) (cells:List Value),N2 h cells (xs++ys)→old<xs.length+ys.length →
   A8 h (w.drew.alloc (.cells (cells.toArray++Builtin.zeroCells z.cells (grownCap w (xs.length+ys.length) old T-(xs.length+ys.length))) T)) T
    (.slice (some ⟨w.heap.size,0,.none⟩) (xs.length+ys.length) (grownCap w (xs.length+ys.length) old T)) (xs++ys):=by
  intro old cells hc ho';have hge:=grownCap_ge w (xs.length+ys.length) old T;have hcm:=grownCap_le_maxLen w (xs.length+ys.length) old T h63;have hcl:=J9 hc;right;refine⟨w.heap.size,_,_,by rw[ev7],av8 hw (ex0 _),ez9 w.drew _,by rw[ev7];exact hge,hcm,?_,?_⟩
  ·simp only[Array.size_append,eF1,size_zeroCells,hzs,hsize,hcl,ev7,←eG7]
   congr 1
   omega
  ·simp only[Array.toList_append];rw[←hcl,eE9];exact hc
 have exta:∀(o:Obj),o9 (A3 v) w (w.drew.alloc o):=fun o=>
  o9.trans ((o6.drew w).weaken (fun _ _ h=>h.elim)) ((o6.alloc w.drew o).weaken (fun _ _ h=>h.elim))
 have hmv:∀n c,E8 w v (.slice (some ⟨w.heap.size,0,.none⟩) n c):=fun n c b hb=>by
  simp[A3,Value.ownBlock]at hb;subst hb;exact .inr (ex0 _)
 subst hm;rcases ho with⟨rfl,rfl⟩|⟨b,cc,cur,rfl,h1,h2,h3,h4,h5,h6⟩
 ·have hr:=run_append_nil (P:=P) w t e T i z ht hi hz ad ys.length c news (by rw[hl,hsize]) hnews hy0 (by simp only[maxLen,eC2,ez0]at h63;omega) (by simp only[eC2,ez0]at hbytes;omega);have hf:=fresh 0 news (by simpa using hn) (by simp;exact hy0);simp only[eC2,ez0,eG5]at hf ⊢;exact⟨_,_,hr,hf,exta _,hmv _ _⟩
 ·by_cases hroom:xs.length+ys.length≤cc
  ·have hfit:xs.length*i.size+news.length≤cur.size:=by rw[hl,hsize,h5,←eG7];exact eD9 _ hroom
   have hr:=run_append_room (P:=P) w t e T i ht hi b xs.length cc cur h2 ad ys.length c news (by rw[hl,hsize]) hnews hone hroom hfit;refine⟨_,_,hr,?_,o9.setRow _ _ _ (by simp[A3,Value.ownBlock]),fun b' hb'=>.inl hb'⟩;right;refine⟨b,cc,_,by rw[ev7],h1,setRow_heap w b cur _ T _ h2,by rw[ev7];exact hroom,h4,?_,?_⟩
   ·simp only[eF1,ev7,ew9,eD0,eI7];rw[hsize]at hfit ⊢;have:xs.length*z7.sz α≤cur.size:=by omega
    omega
   ·rw[hsize];have hlen:(cur.toList.take (xs.length*z7.sz α)++news).length=(xs++ys).length*z7.sz α:=by
     rw[ev7,hl,J9 h6,ev7,eG7]
    rw[←hlen,eE9];exact ag9 h6 hn
  ·have hcs:(cur.toList.take (xs.length*z7.sz α)).length=xs.length*i.size:=by rw[J9 h6,hsize]
   have holds:∀j u,(cur.toList.take (xs.length*z7.sz α))[j]?=some u→w.cell? ((⟨b,0,.none⟩:Addr).add j)=some u:=by
    intro j u hj;have ha:(⟨b,0,.none⟩:Addr).add j=⟨b,j,.none⟩:=by unfold Addr.add;split<;>simp_all
    rw[ha,eD1 w b j cur T (0,0) h2];rw[eE2]at hj;split at hj
    ·simpa using hj
    ·cases hj
   have hr:=run_append_grow (P:=P) w t e T i z ht hi hz ⟨b,0,.none⟩ xs.length cc (cur.toList.take (xs.length*z7.sz α)) hcs holds ad ys.length c news (by rw[hl,hsize]) hnews (by omega)
    (by simp only[maxLen]at h63;omega) (growslice_fits (by omega) hbytes)
   have hf:=fresh cc (cur.toList.take (xs.length*z7.sz α)++news) (ag9 h6 hn) (by omega);have e1:((cur.toList.take (xs.length*z7.sz α)++news).toArray:Array Value)=(cur.toList.take (xs.length*z7.sz α)).toArray++news.toArray:=by simp
   rw[e1]at hf;exact⟨_,_,hr,hf,exta _,hmv _ _⟩
theorem bt0(off:Nat):∀(l:List Value) (k:Nat) (cs:Array Value),off+k+l.length≤cs.size →
  ((l.zipIdx k).foldl (fun cs (p:Value×Nat)=>cs.setIfInBounds (off+p.2) p.1) cs).toList=cs.toList.take (off+k)++l++cs.toList.drop (off+k+l.length)
 | [],k,cs,_=>by simp
 | v::l,k,cs,hl=>by
  simp only[ey0]at hl;rw[List.zipIdx_cons,List.foldl_cons,bt0 off l (k+1) _ (by simp;omega)];have hlen:cs.toList.length=cs.size:=by simp
  simp only[Array.toList_setIfInBounds,ey0];rw[show off+(k+1)=off+k+1 by omega,List.take_set,ew3 (by omega),List.set_append_right (h:=by simp;omega)];have e1:off+k-(cs.toList.take (off+k)).length=0:=by simp;omega
  rw[e1,List.drop_set_of_lt (by omega)];simp[ey3,eF0,Nat.add_comm 1]
theorem ct6{place:Nat→Option (Nat×Nat)}{off sz i:Nat}{x:Value}{cs:Array Value}{rest:List (Nat×Value)}(hp:place i=some (off,sz))(hx:x.cells.size=sz)(hs:off+sz≤cs.size):
  Instr.fill place cs ((i,x)::rest)=Instr.fill place (cs.toList.take off++x.cells.toList++cs.toList.drop (off+sz)).toArray rest:=by
 conv=>lhs;unfold Instr.fill
 simp only[hp];rw[if_neg (by simp[hx];omega)]
 congr 1
 apply Array.ext';have:=bt0 off x.cells.toList 0 cs (by simp;omega);simp only[Nat.add_zero,eI7,hx]at this;rw[←this,←Array.foldl_toList];simp[Array.toList_zipIdx]
theorem bG8(sz:Nat):∀(xs:List Value) (k:Nat) (cs:Array Value),(∀x∈xs,x.cells.size=sz)→cs.size=(k+xs.length)*sz →
  Instr.fill (fun i=>some (i*sz,sz)) cs ((xs.zipIdx k).map fun p=>(p.2,p.1))=some (cs.toList.take (k*sz)++xs.flatMap (·.cells.toList)).toArray
 | [],k,cs,_,hc=>by
  simp only[eC2,Nat.add_zero]at hc;simp only[List.zipIdx_nil,List.map_nil,Instr.fill,List.flatMap_nil,ey7]
  congr 1
  apply Array.ext';rw[←hc,eA1 (by simp)]
 | x::xs,k,cs,hx,hc=>by
  simp only[ey0]at hc;have hc':cs.size=k*sz+sz+xs.length*sz:=by rw[hc,eG7,eG7];omega
  have hxs:=hx x (by simp);have hlen:cs.toList.length=cs.size:=by simp
  rw[List.zipIdx_cons,eA3];show Instr.fill _ cs ((k,x)::_)=_;rw[ct6 rfl hxs (by omega)];have hl:(List.take (k*sz) cs.toList++x.cells.toList++List.drop (k*sz+sz) cs.toList).toArray.size=(k+1+xs.length)*sz:=by
   simp[hxs];rw[eG7,eG7];omega
  rw[bG8 sz xs (k+1) _ (fun y hy=>hx y (by simp[hy])) hl]
  congr 2
  have e:(k+1)*sz=(List.take (k*sz) cs.toList++x.cells.toList).length:=by
   simp[hxs,eG7];omega
  rw[e,eE9];simp
theorem ao3{e:TypeId}{z:Value}(ht:A7 P t=some e)(hi:(P.info? e).isSome=true)(hz:H3 P e=some z)(xs:List Value)(hx:∀x∈xs,x.cells.size=E4 P e)(hn:xs≠[])
  (hpos:0<E4 P e) (hsm:xs.length*E4 P e≤16777216) {parts:Array (Nat×Value)} (hp:parts.toList=(xs.zipIdx 0).map fun p=>(p.2,p.1)) {n:Nat} (hnl:n=xs.length) :
  (Instr.buildSlice t n parts).run P w = .ok (.slice (some ⟨w.heap.size,0,none⟩) n n) (w.alloc (.cells (xs.flatMap (·.cells.toList)).toArray e)):=by
 subst hnl;obtain⟨i,hi'⟩:=eB3.1 hi;have hz':i.zero=some z:=by simpa[H3,hi']using hz
 have h0:¬(xs.length*E4 P e=0):=by
  have:0<xs.length:=List.length_pos_iff.2 hn;exact Nat.ne_of_gt (Nat.mul_pos this hpos)
 unfold Instr.buildSlice zeroValue;simp only[ey2,F7,L0 ht,ex2,N7 hi,Sem.run_ite,N5,hi',hz',ez6];rw[if_neg (by omega)];simp only[h0,eC8];rw[hp,bG8 (E4 P e) xs 0 _ hx (by simp)];simp only[Nat.zero_mul,eH0,eG5];rfl
theorem C8{i:TypeInfo}(hi:P.info? t=some i):E4 P t=i.size:=by simp[E4,hi]
theorem as3{i:TypeInfo}(hi:P.info? t=some i):cr7 P t=i.bytes:=by simp[cr7,hi]
theorem t8{z:Value}(hz:H3 P t=some z):∃i,P.info? t=some i∧i.zero=some z:=by
 unfold H3 at hz;cases hi:P.info? t with
 | none=>simp[hi]at hz
 | some i=>exact⟨i,rfl,by simpa[hi]using hz⟩
theorem cA5{e:TypeId}{z:Value}(ht:A7 P t=some T)(hz:H3 P T=some z)(hsize:E4 P T=z7.sz α)(hzs:z.cells.size=z7.sz α)
  {xs:List α} (ho:A8 h w T v xs) {x:Value} {y:α} (hy:z7.enc h x.cells.toList y) (h63:xs.length+1≤1000000000000) (hbytes:(xs.length+1)*cr7 P T≤140737488355328) (hw:B3 h (d7 w)) :
  ∃v' w',(Builtin.append_ #[t,t] e #[v,.slice (some ⟨w.heap.size,0,none⟩) 1 1]).run P (w.alloc (.cells x.cells T)) = .ok v' w'∧A8 h w' T v' (xs++[y])∧o9 (A3 v) w w'∧E8 w v v':=by
 obtain⟨i,hi,hiz⟩:=t8 hz;rw[C8 hi]at hsize;rw[as3 hi]at hbytes;have hw1:B3 h (d7 (w.alloc (.cells x.cells T))):=p9 hw (b7 (o6.alloc w _));have hnews:∀j u,x.cells.toList[j]?=some u→(w.alloc (.cells x.cells T)).cell? ((⟨w.heap.size,0,none⟩:Addr).add j)=some u:=by
  intro j u hj;have ha:(⟨w.heap.size,0,none⟩:Addr).add j=⟨w.heap.size,j,none⟩:=by unfold Addr.add;split<;>simp_all
  rw[ha,eH1];simpa using hj
 obtain⟨v',w',h1,h2,h3,h4⟩:=aL5 (P:=P) (e:=e) (L0 ht) hi hiz hsize (by rw[hzs,hsize]) (ho.ext (o6.alloc w (.cells x.cells T))) (c:=1) (m:=1) (ad:=⟨w.heap.size,0,none⟩) rfl (aX6 hy) hnews (by simp)
  (by simp[maxLen];omega) (by simpa using hbytes) hw1
 refine⟨v',w',h1,h2,?_,fun b hb=>?_⟩
 ·exact o9.trans ((o6.alloc w (.cells x.cells T)).weaken (fun _ _ h=>h.elim)) h3
 ·rcases h4 b hb with h|h
  ·exact .inl h
  ·simp at h;exact .inr (by omega)
theorem ai3{e:TypeId}{z:Value}(ht:A7 P t=some e)(hz:H3 P e=some z)(hpos:0<E4 P e)(hsm:E4 P e≤16777216){x:Value}(hx:x.cells.size=E4 P e):
  (Instr.buildSlice t 1 #[(0,x)]).run P w = .ok (.slice (some ⟨w.heap.size,0,none⟩) 1 1) (w.alloc (.cells x.cells e)):=by
 obtain⟨i,hi,hiz⟩:=t8 hz;have:=ao3 (w:=w) ht (by rw[hi];rfl) hz [x] (by simpa using hx) (by simp) hpos (by simpa using hsm) (parts:=#[(0,x)]) rfl (n:=1) rfl;simpa using this
end
def eA7:=@List.mem_cons_of_mem
def cM4(ops:Array Oper):List Nat:=ops.toList.filterMap (·.dst)
def wrC:Code→List Nat
 | .seq a b=>wrC a++wrC b
 | .cond _ a b=>wrC a++wrC b
 | .block _ a=>wrC a
 | .loop a=>wrC a
 | .region _ ops _=>cM4 ops
 | _=>[]
section
variable {P:Program}
theorem bv4{r:Result Value}{K K':Fr→World→Prop}{f:Fr}{d:Option Nat}(h:∀v w,K (A5 f d v) w→K' (A5 f d v) w)(hr:ad4 r K f d):ad4 r K' f d:=by
 cases r with
 | ok v w=>exact h _ _ hr
 | halt x w=>exact hr.elim
theorem aU9{r:Result Unit}{K K':Fr→World→Prop}{f:Fr}{d:Option Nat}(h:∀v w,K (A5 f d v) w→K' (A5 f d v) w)(hr:aU8 r K f d):aU8 r K' f d:=by
 cases r with
 | ok v w=>exact h _ _ hr
 | halt x w=>exact hr.elim
theorem bP1{k:Nat}{args:List Value}{w:World}{K K':Fr→World→Prop}{f:Fr}{d:Option Nat}(h:∀v w,K (A5 f d v) w→K' (A5 f d v) w)(hr:ar6 P k args w K f d):ar6 P k args w K' f d:=by
 rcases hr with⟨hb,hc⟩|⟨v,w',h1,h2⟩
 ·exact .inl ⟨hb,hc.mono fun e w' ⟨v,he,hk⟩=>⟨v,he,h _ _ hk⟩⟩
 ·exact .inr ⟨v,w',h1,h _ _ h2⟩
theorem ba9{o:Oper}{K K':Fr→World→Prop}{f:Fr}{w:World}(h:∀v w,K (A5 f o.dst v) w→K' (A5 f o.dst v) w)(hs:N8 P o K f w):N8 P o K' f w:=by
 unfold N8 at *;generalize(execOp (ev f) o).run P w=r at *;cases r with
 | halt x w'=>exact hs
 | ok n w'=>
  cases n
  case value v=>exact h _ _ hs
  case skip=>exact h _ _ hs
  case enter g args=>exact Calls.mono hs fun e w'' ⟨v,he,hk⟩=>⟨v,he,h _ _ hk⟩
  all_goals exact hs
theorem aw0{S:Option (World→Prop)}{K K':Fr→World→Prop}{f:Fr}{d:Option Nat}(h:∀v w,K (A5 f d v) w→K' (A5 f d v) w):∀v w,aJ1 S K (A5 f d v) w→aJ1 S K' (A5 f d v) w:=by
 intro v w hk;cases S with
 | none=>exact h _ _ hk
 | some S=>exact⟨hk.1,h _ _ hk.2⟩
theorem cg6{S:Option (World→Prop)}{fl:Bool}{s:Sem Value}{K K':Fr→World→Prop}{f:Fr}{d:Option Nat}{w:World}(h:∀v w,K (A5 f d v) w→K' (A5 f d v) w)(hr:be4 P S fl s K f d w):be4 P S fl s K' f d w:=by
 unfold be4 at *;cases S with
 | none=>exact bv4 h hr
 | some S=>
  cases fl with
  | true=>
   simp only[eB5]at hr ⊢;obtain⟨v,h1,h2⟩:=hr;exact⟨v,h1,h _ _ h2⟩
  | false=>
   simp only[eB8,eC8]at hr ⊢;exact bv4 (fun v w hk=>⟨hk.1,h _ _ hk.2⟩) hr
theorem W6{S:Option (World→Prop)}{o:Oper}{K K':Fr→World→Prop}{f:Fr}{w:World}(h:∀v w,K (A5 f o.dst v) w→K' (A5 f o.dst v) w)(hs:A9 P S o K f w):A9 P S o K' f w:=by
 unfold A9 at *;split
 ·rename_i v hv;simp only[hv]at hs;exact h _ _ hs
 ·rename_i hv;simp only[hv]at hs;unfold Y1 at *;split
  ·rename_i s hs';simp only[hs']at hs;exact cg6 h hs
  ·rename_i hs';simp only[hs']at hs;obtain⟨d,op,ty,pos,aft,gd⟩:=o;cases op
   case store=>exact aU9 (aw0 h) hs
   case mapUpdate=>exact aU9 (aw0 h) hs
   case insert=>exact aU9 (aw0 h) hs
   case call c=>
    obtain⟨cal,args,tys⟩:=c;cases cal
    case value g=>
     simp only at hs ⊢;cases hg:ev f g
     case func fn first cap=>
      cases fn
      case func k=>simp only[hg]at hs ⊢;exact bP1 (aw0 h) hs
      all_goals (simp only[hg]at hs)
     all_goals (simp only[hg]at hs)
    all_goals exact hs
   all_goals
    cases S with
    | none=>exact ba9 h hs
    | some S=>
     simp only at hs ⊢;split
     ·rename_i hf;rw[if_pos hf]at hs;obtain⟨v,h1,h2⟩:=hs;exact⟨v,h1,h _ _ h2⟩
     ·rename_i hf;rw[if_neg hf]at hs;exact ba9 (fun v w hk=>⟨hk.1,h _ _ hk.2⟩) hs
theorem aM7{f:Fr}{d:Option Nat}{v:Value}{i:Nat}(h:∀k,d=some k→i≠k):A5 f d v i=f i:=by
 cases d with
 | none=>rfl
 | some k=>simp[A5,p7,h k rfl]
theorem cp3{ops:Array Oper}{K K':Fr→World→Prop}:∀(l:List Oper) (f:Fr) (w:World),(∀f' w',(∀i,i∉l.filterMap (·.dst)→f' i=f i)→K f' w'→K' f' w')→Rn P ops l K f w→Rn P ops l K' f w
 | [],f,w,h,hr=>h _ _ (fun _ _=>rfl) hr
 | o::l,f,w,h,hr=>by
  have key:∀v w',Rn P ops l K (A5 f o.dst v) w'→Rn P ops l K' (A5 f o.dst v) w':=fun v w' hk=>
   cp3 l _ _ (fun f' w'' hf hk'=>h _ _ (fun i hi=>by
    have h1:i∉l.filterMap (·.dst):=fun hm=>hi (List.mem_filterMap.2 (let⟨a,ha,hd⟩:=List.mem_filterMap.1 hm;⟨a,eA7 _ ha,hd⟩));rw[hf i h1];exact aM7 fun k hk e=>hi (by subst e;exact List.mem_filterMap.2 ⟨o,by simp,hk⟩)) hk') hk
  unfold Rn at hr ⊢;split
  ·rename_i hg;simp only[hg]at hr;exact W6 key hr
  ·rename_i j b hg;simp only[hg]at hr;split
   ·rename_i hc;rw[if_pos hc]at hr;exact W6 key hr
   ·rename_i hc;rw[if_neg hc]at hr;exact key _ _ hr
theorem bK0{ops:Array Oper}{i:Nat}{o:Oper}{k:Nat}(ho:ops[i]?=some o)(hd:o.dst=some k):k∈cM4 ops:=
 List.mem_filterMap.2 ⟨o,by have:=Array.mem_of_getElem? ho;simpa using this,hd⟩
theorem by3{ops:Array Oper}{S:World→Prop}{K K':Fr→World→Prop}:∀(l:aA6) (f:Fr) (w:World),(∀f' w',(∀i,i∉cM4 ops→f' i=f i)→K f' w'→K' f' w')→RnF P ops S l K f w→RnF P ops S l K' f w
 | .nil,f,w,h,hr=>h _ _ (fun _ _=>rfl) hr
 | .op i l,f,w,h,hr=>by
  unfold RnF at hr ⊢;cases ho:ops[i]? with
  | none=>simp[ho]at hr
  | some o=>
   simp only[ho]at hr ⊢;have key:∀v w',RnF P ops S l K (A5 f o.dst v) w'→RnF P ops S l K' (A5 f o.dst v) w':=fun v w' hk=>
    by3 l _ _ (fun f' w'' hf hk'=>h _ _ (fun j hj=>by
     rw[hf j hj];exact aM7 fun k hk e=>hj (by subst e;exact bK0 ho hk)) hk') hk
   split
   ·rename_i hg;simp only[hg]at hr;exact W6 key hr
   ·rename_i j b hg;simp only[hg]at hr;split
    ·rename_i hc;rw[if_pos hc]at hr;exact W6 key hr
    ·rename_i hc;rw[if_neg hc]at hr;exact key _ _ hr
 | .fork rs k,f,w,h,hr=>by
  unfold RnF at hr ⊢;intro i hi;have hr:=hr i hi;cases ho:ops[i]? with
  | none=>simp[ho]at hr
  | some o=>
   simp only[ho]at hr ⊢;have key:∀v w',RnF P ops S (k i) K (A5 f o.dst v) w'→RnF P ops S (k i) K' (A5 f o.dst v) w':=fun v w' hk=>
    by3 (k i) _ _ (fun f' w'' hf hk'=>h _ _ (fun j hj=>by
     rw[hf j hj];exact aM7 fun k hk e=>hj (by subst e;exact bK0 ho hk)) hk') hk
   split
   ·rename_i hg;simp only[hg]at hr;exact⟨W6 key hr.1,hr.2⟩
   ·rename_i j b hg;simp only[hg]at hr;split
    ·rename_i hc;rw[if_pos hc]at hr;exact⟨W6 key hr.1,hr.2⟩
    ·rename_i hc;rw[if_neg hc]at hr;exact key _ _ hr
theorem co5:∀(c:Code) (Q Q':Exit→Fr→World→Prop) (f:Fr) (w:World),(∀e f' w',(∀i,i∉wrC c→f' i=f i)→Q e f' w'→Q' e f' w')→CW P c Q f w→CW P c Q' f w:=by
 intro c
 induction c with
 | skip=>intro Q Q' f w h hc;exact h _ _ _ (fun _ _=>rfl) hc
 | seq a b iha ihb=>
  intro Q Q' f w h hc;refine iha _ _ _ _ ?_ hc;intro e f' w' hf hq;cases e
  case normal=>
   refine ihb _ _ _ _ ?_ hq;intro e2 f2 w2 hf2 hq2;exact h _ _ _ (fun i hi=>by
    simp only[wrC,ew8,not_or]at hi;rw[hf2 i hi.2,hf i hi.1]) hq2
  all_goals exact h _ _ _ (fun i hi=>by
    simp only[wrC,ew8,not_or]at hi;exact hf i hi.1) hq
 | cond v a b iha ihb=>
  intro Q Q' f w h hc;simp only[CW]at hc ⊢;unfold aI7 at *;split
  ·rename_i hv;simp only[hv]at hc;exact iha _ _ _ _ (fun e f' w' hf hq=>h _ _ _ (fun i hi=>by simp only[wrC,ew8,not_or]at hi;exact hf i hi.1) hq) hc
  ·rename_i hv;simp only[hv]at hc;exact ihb _ _ _ _ (fun e f' w' hf hq=>h _ _ _ (fun i hi=>by simp only[wrC,ew8,not_or]at hi;exact hf i hi.2) hq) hc
  ·rename_i h1 h2;split at hc
   ·rename_i hv;exact absurd hv h1
   ·rename_i hv;exact absurd hv h2
   ·exact hc
 | block id a ih=>
  intro Q Q' f w h hc;refine ih _ _ _ _ ?_ hc;intro e f' w' hf hq;cases e
  case exit id'=>
   simp only[X7]at hq ⊢;split
   ·rename_i hid;rw[if_pos hid]at hq;exact h _ _ _ hf hq
   ·rename_i hid;rw[if_neg hid]at hq;exact h _ _ _ hf hq
  all_goals exact h _ _ _ hf hq
 | loop a ih=>
  intro Q Q' f w h hc;obtain⟨σ,I,m,s0,h0,hr⟩:=hc;refine⟨σ,fun s f' w'=>I s f' w'∧∀i,i∉wrC a→f' i=f i,m,s0,⟨h0,fun _ _=>rfl⟩,?_⟩;rintro s f' w' ⟨hI,hfr⟩;refine ih _ _ _ _ ?_ (hr s f' w' hI);intro e f2 w2 hf2 hq;cases e
  case normal=>
   obtain⟨s',h1,h2⟩:=hq;exact⟨s',h1,h2,fun i hi=>by rw[hf2 i hi,hfr i hi]⟩
  all_goals exact h _ _ _ (fun i hi=>by rw[hf2 i hi,hfr i hi]) hq
 | region id ops d=>
  intro Q Q' f w h hc;cases d
  case false=>exact cp3 _ _ _ (fun f' w' hf hq=>h _ _ _ hf hq) hc
  case true=>
   obtain⟨S,n,ord,h1,h3,h4⟩:=hc;refine⟨S,n,ord,h1,h3,?_⟩;refine by3 ord _ _ ?_ h4;intro f' w' hf hq;refine cp3 _ _ _ ?_ hq;intro f2 w2 hf2 hq2;exact h _ _ _ (fun i hi=>by
    rw[hf2 i,hf i hi];intro hm;obtain⟨o,ho,hd⟩:=List.mem_filterMap.1 hm;exact hi (List.mem_filterMap.2 ⟨o,eG3 ho,hd⟩)) hq2
 | exit id=>intro Q Q' f w h hc;exact h _ _ _ (fun _ _=>rfl) hc
 | label l=>intro Q Q' f w h hc;exact h _ _ _ (fun _ _=>rfl) hc
 | ret=>intro Q Q' f w h hc;exact h _ _ _ (fun _ _=>rfl) hc
 | _=>intro Q Q' f w _ hc;exact hc
theorem n7{c:Code}{Q:Exit→Fr→World→Prop}{f:Fr}{w:World}{σ:Type}(keep:List Nat)(I:σ→Fr→World→Prop)(m:σ→Nat)(s0:σ)
  (hk:keep.all (fun i=>!(wrC c).contains i)=true) (h0:I s0 f w)
  (hr:∀s f' w',(∀i∈keep,f' i=f i)→I s f' w'→CW P c (ab8 (fun f'' w''=>∃s',m s'<m s∧I s' f'' w'') Q) f' w'):bY5 (CW P c) Q f w:=by
 have hk':∀i∈keep,i∉wrC c:=by
  intro i hi hm;have:=eE6.1 hk i hi;simp[hm]at this
 refine⟨σ,fun s f' w'=>I s f' w'∧∀i∈keep,f' i=f i,m,s0,⟨h0,fun _ _=>rfl⟩,?_⟩;rintro s f' w' ⟨hI,hfr⟩;refine co5 c _ _ _ _ ?_ (hr s f' w' hfr hI);intro e f2 w2 hf2 hq;cases e
 case normal=>
  obtain⟨s',h1,h2⟩:=hq;exact⟨s',h1,h2,fun i hi=>by rw[hf2 i (hk' i hi),hfr i hi]⟩
 all_goals exact hq
theorem y5{k:Nat}{args:List Value}{w:World}{K:Fr→World→Prop}{f:Fr}{d:Option Nat}{R:Value→World→Prop}(hb:ag2 P k=true)
  (h:Calls P k args.toArray w fun e w'=>∃v,e = .returned v∧R v w') (hk:∀v w',R v w'→K (A5 f d v) w'):ar6 P k args w K f d:=
 .inl ⟨hb,h.mono fun _ _ ⟨v,he,hr⟩=>⟨v,he,hk _ _ hr⟩⟩
theorem C5{ops:Array Oper}{K:Fr→World→Prop}{f:Fr}{w:World}(S:World→Prop)(n:Nat)(ord:aA6)(hok:bL6 ops n ord=true)(hS:S w.drew)
  (h:RnF P ops S ord (Rn P ops (ops.toList.drop n) K) f w.drew):co8 P ops K f w:=⟨S,n,ord,hok,hS,h⟩
theorem cs9{ops:Array Oper}{K:Fr→World→Prop}{f:Fr}{w:World}(keep:List Nat)(S:World→Prop)(n:Nat)(ord:aA6)(I:Fr→World→Prop)(hok:bL6 ops n ord=true)(hkp:keep.all (fun i=>!(cM4 ops).contains i)=true)(hS:S w.drew)
  (h:RnF P ops S ord I f w.drew) (hk:∀f' w',(∀i∈keep,f' i=f i)→I f' w'→Rn P ops (ops.toList.drop n) K f' w'):co8 P ops K f w:=by
 refine⟨S,n,ord,hok,hS,by3 ord _ _ (fun f' w' hf hi=>hk f' w' (fun i hi'=>hf i ?_) hi) h⟩;have:=eE6.1 hkp i hi';intro hm;simp[hm]at this
theorem at7{ops:Array Oper}{S:World→Prop}{K:Fr→World→Prop}{f:Fr}{w:World}{rs:List Nat}{k:Nat→aA6}(hf:rs.all (fun i=>match ops[i]? with|some o=>!flt o.op|none=>false)=true)
  (h:∀i∈rs,RnF P ops S (.op i (k i)) K f w):RnF P ops S (.fork rs k) K f w:=by
 unfold RnF;intro i hi;have h1:=h i hi;have h2:=eE6.1 hf i hi;unfold RnF at h1;cases ho:ops[i]? with
 | none=>simp[ho]at h2
 | some o=>
  simp only[ho]at h1 h2 ⊢;have h3:flt o.op=false:=by simpa using h2
  cases hg:o.guard with
  | none=>simp only[hg]at h1 ⊢;exact⟨h1,h3⟩
  | some jb=>
   obtain⟨j,b⟩:=jb;simp only[hg]at h1 ⊢;split
   ·rename_i hc;rw[if_pos hc]at h1;exact⟨h1,h3⟩
   ·rename_i hc;rw[if_neg hc]at h1;exact h1
def B0:List Nat→aA6
 | []=>.nil
 | i::l=>.op i (B0 l)
end
def ex8:=@Int.toNat_natCast
def eC9:=@List.ext_getElem
def ew5:=@List.length_map
def eB2:=@List.length_range
def eA5:=@List.length_replicate
def ey8:=@List.map_append
def eD3:=@List.mem_iff_getElem?
def ex5:=@List.mem_of_getElem?
def ew7:=@List.take_length
def eG0:=@decide_eq_false
theorem L4(n:Int)(h : -9223372036854775808≤n∧n≤9223372036854775807):IntKind.i64.wrap n=n:=IntWalk.i64_in n h
theorem B1(k:Nat)(h:k<4000000000000000000):IntKind.i64.wrap ((k:Int)+1)=((k+1:Nat):Int):=by
 rw[L4 _ (by omega)];rfl
theorem ej8(k:Nat)(h:k<4000000000000000000):IntKind.i64.wrap (k:Int)=(k:Int):=L4 _ (by omega)
theorem ek1(k:Nat):decide ((0:Int)≤(k:Int))=true:=by simp
def F3(P:Program)(t T sz by_:Nat):Bool:=
 (A7 P t==some T)&&(match H3 P T with|some z=>z.cells.size==sz|none=>false)&&(E4 P T==sz)&&(cr7 P T==by_)&&decide (0<sz)&&decide (sz≤1000000)
theorem Q5{P:Program}{t T sz by_:Nat}(h:F3 P t T sz by_=true):
  A7 P t=some T∧(∃z,H3 P T=some z∧z.cells.size=sz)∧E4 P T=sz∧cr7 P T=by_∧0<sz∧sz≤1000000:=by
 simp only[F3,ex4,beq_iff_eq,ez1]at h;obtain⟨⟨⟨⟨⟨h1,h2⟩,h3⟩,h4⟩,h5⟩,h6⟩:=h;refine⟨h1,?_,h3,h4,h5,h6⟩;cases hz:H3 P T with
 | none=>simp[hz]at h2
 | some z=>exact⟨z,rfl,by simpa[hz]using h2⟩
section
variable {P:Program} {w:World} {h:Hp} {t T sz by_:Nat} {v:Value}
theorem push{α:Type}[z7 α]{e:TypeId}(hs:F3 P t T sz by_=true)(hsz:z7.sz α=sz){xs:List α}(ho:A8 h w T v xs){x:Value}{y:α}(hy:z7.enc h x.cells.toList y)
  (hl:xs.length+1≤1000000000000) (hb:(xs.length+1)*by_≤140737488355328) (hw:B3 h (d7 w)) :
  (Instr.buildSlice t 1 #[(0,x)]).run P w = .ok (.slice (some ⟨w.heap.size,0,none⟩) 1 1) (w.alloc (.cells x.cells T)) ∧
  ∃v' w',(Builtin.append_ #[t,t] e #[v,.slice (some ⟨w.heap.size,0,none⟩) 1 1]).run P (w.alloc (.cells x.cells T)) = .ok v' w'∧A8 h w' T v' (xs++[y])∧o9 (A3 v) w w'∧E8 w v v':=by
 obtain⟨h1,⟨z,hz,hzs⟩,h3,h4,h5,h6⟩:=Q5 hs;have hx:x.cells.size=sz:=by have:=z7.len hy;simpa[hsz]using this
 exact⟨ai3 h1 hz (by omega) (by omega) (by rw[hx,h3]),cA5 h1 hz (by rw[h3,hsz]) (by rw[hzs,hsz]) ho hy hl (by rw[h4];exact hb) hw⟩
theorem lit{α:Type}[z7 α](hs:F3 P t T sz by_=true){xs:List Value}{ys:List α}{parts:Array (Nat×Value)}{n:Nat}(hp:parts.toList=(xs.zipIdx 0).map fun p=>(p.2,p.1))
  (he:N2 h (xs.flatMap (·.cells.toList)) ys) (hx:∀x∈xs,x.cells.size=sz) (hn:n=xs.length) (hyl:ys.length=xs.length) (hne:xs≠[]) (hlt:xs.length≤16) (hw:B3 h (d7 w)) :
  ∃v w',(Instr.buildSlice t n parts).run P w = .ok v w'∧A8 h w' T v ys∧o6 w w'∧(∀b,A3 v b→w.heap.size≤b):=by
 obtain⟨h1,⟨z,hz,hzs⟩,h3,h4,h5,h6⟩:=Q5 hs;obtain⟨i,hi,hiz⟩:=t8 hz;have hr:=ao3 (w:=w) h1 (by rw[hi];rfl) hz xs (by rw[h3];exact hx) hne (by omega) (ew2 (Nat.mul_le_mul hlt (show E4 P T≤1000000 by omega)) (by omega)) hp hn;refine⟨_,_,hr,.inr ⟨w.heap.size,n,_,by rw[hn,hyl],av8 hw (ex0 _),ez9 w _,by omega,by rw[hn];simp only[maxLen];omega,?_,?_⟩,o6.alloc _ _,fun b hb=>by simp[A3,Value.ownBlock]at hb;omega⟩
 ·have:=J9 he;simp only[eF1,this,hyl,hn]
 ·rw[←J9 he];simp only[ew7];exact he
theorem cb0{α:Type}[z7 α]{c:List Value}{y:α}(he:z7.enc h c y):∀n:Nat,N2 h (List.replicate n c).flatten (List.replicate n y)
 | 0=>rfl
 | n+1=>⟨c,(List.replicate n c).flatten,by simp[List.replicate_succ],he,cb0 he n⟩
theorem bH2(z:Array Value)(hz:0<z.size):∀n:Nat,((Array.range (n*z.size)).map fun i=>z[i % z.size]!).toList=(List.replicate n z.toList).flatten
 | 0=>by simp
 | n+1=>by
  have ih:=bH2 z hz n;simp only[Array.toList_map,Array.toList_range]at ih ⊢;rw[eG7,Nat.one_mul,List.range_add,ey8,ih,List.replicate_succ',List.flatten_append]
  congr 1
  simp only[List.map_map,List.flatten_cons,List.flatten_nil,ey7];apply eC9
  ·simp
  ·intro i h1 h2;simp only[ew5,eB2]at h1;have:(n*z.size+i) % z.size=i:=by rw[Nat.add_comm,Nat.add_mul_mod_self_right];exact Nat.mod_eq_of_lt h1
   simp[this,h1]
theorem mk{α:Type}[z7 α](hs:F3 P t T sz by_=true){z:Value}(hz:H3 P T=some z){y:α}(he:z7.enc h z.cells.toList y){n:Nat}(hb:by_*n≤281474976710656)(hn:n≤1000000000000)(hw:B3 h (d7 w)):
  ∃v w',(Instr.makeSlice t (.int .i64 n) (.int .i64 n)).run P w = .ok v w'∧A8 h w' T v (List.replicate n y)∧o6 w w'∧(∀b,A3 v b→w.heap.size≤b)∧w'.heap.size=w.heap.size+1:=by
 obtain⟨h1,⟨z',hz',hzs⟩,h3,h4,h5,h6⟩:=Q5 hs;obtain rfl:z=z':=ex1 (hz.symm.trans hz');obtain⟨i,hi,hiz⟩:=t8 hz;have hby:i.bytes=by_:=by rw[←h4,as3 hi]
 have hsi:i.size=sz:=by rw[←h3,C8 hi]
 have hl:=z7.len he;have hszα:z7.sz α=sz:=by rw[←hl];simpa using hzs
 have hnw:IntKind.i64.wrap (n:Int)=n:=ej8 n (by omega);have hnb:¬((by_:Int)*(n:Int)>281474976710656):=by
  have:=Int.ofNat_le.2 hb;rw[Int.natCast_mul]at this;omega
 have hpow:(2:Int) ^ 48=281474976710656:=by decide +kernel
 have hroom:∀b w,(askRoom b).run P w = .ok () w:=by
  intro b w;unfold askRoom;split
  ·rfl
  ·rfl
 refine⟨.slice (some ⟨w.heap.size,0,none⟩) n n,w.alloc (.cells ((Array.range (n*sz)).map fun i=>z.cells[i % z.cells.size]!) T),?_,?_,o6.alloc _ _,fun b hb'=>by simp[A3,Value.ownBlock]at hb';omega,by simp⟩
 ·unfold Instr.makeSlice;simp only[ey2,F7,L0 h1,ex2,asInt,asIntOf,ez6,N5,hi,hby,hnw,hpow];have hc:((decide ((n:Int)<0)||decide ((by_:Int)*(n:Int)>281474976710656))||decide ((n:Int)<0)||decide ((n:Int)>(n:Int)))=false:=by
   rw[eG0 (show ¬((n:Int)<0) by omega),eG0 hnb,eG0 (show ¬((n:Int)>(n:Int)) by omega)];rfl
  simp only[hc,eB8,eC8,ey2,hroom,ex2,ex8,N7 (show(P.info? T).isSome=true by rw[hi];rfl),h3];by_cases h0:n*sz=0
  ·have e0:∀(g:Nat→Value),(Array.range 0).map g=#[]:=fun g=>by simp
   simp only[h0,eB5,e0];simp only[ey2,ez6,ex2];rfl
  ·simp only[h0,eC8,ey2,zeroValue,N5,hi,ex2,hiz,ez6];rfl
 ·right;refine⟨w.heap.size,n,_,by simp,av8 hw (ex0 _),ez9 w _,by simp,by simp only[maxLen];omega,by simp[hszα],?_⟩;have:=bH2 z.cells (by omega) n;rw[hzs]at this ⊢;rw[this,eA5,hszα];have hlen:(List.replicate n z.cells.toList).flatten.length=n*sz:=by simp[hzs]
  rw[←hlen,ew7];exact cb0 he n
end
structure Ptr (α:Type) where
 to:α
instance {α:Type} [z7 α]:z7 (Ptr α) where
 sz:=1
 pos:=by omega
 enc h cs x:=∃a es,cs=[.pointer (some a)]∧z7.enc h es x.to∧∀j v,es[j]?=some v→I7 h (a.add j)=some v
 len:=by rintro h cs x ⟨a,es,rfl,_⟩;rfl
 mono:=by
  rintro h k cs x hk ⟨a,es,e,h1,h2⟩;exact⟨a,es,e,z7.mono hk h1,fun j v hv=>G2 hk (h2 j v hv)⟩
 one:=by
  rintro h cs x ⟨a,es,rfl,_⟩ v hv;simp at hv;subst hv;rfl
structure Z0 where
 v:Value
instance:z7 Z0 where
 sz:=1
 pos:=by omega
 enc _ cs x:=cs=[x.v]∧x.v.oneCell'=true
 len h:=by simp[h.1]
 mono _ h:=h
 one h:=by
  intro v hv;rw[h.1]at hv;simp at hv;subst hv;exact h.2
structure K1 {α:Type} [z7 α] (h:Hp) (w:World) (T T':TypeId) (v:Value) (us:List Z0) (xss:List (List α)):Prop where
 outer:A8 h w T v us
 len:us.length=xss.length
 row:∀(i:Nat) (u:Z0) (xs:List α),us[i]?=some u→xss[i]?=some xs→A8 h w T' u.v xs
 apart:∀(i j:Nat) (u u':Z0),i≠j→us[i]?=some u→us[j]?=some u'→∀b,A3 u.v b→¬A3 u'.v b
 off:∀(i:Nat) (u:Z0),us[i]?=some u→∀b,A3 u.v b→¬A3 v b
def K6(v:Value)(us:List Z0)(b:Nat):Prop:=A3 v b∨∃u∈us,A3 u.v b
section
variable {α:Type} [z7 α] {h:Hp} {w:World} {T T':TypeId} {v:Value} {us:List Z0} {xss:List (List α)}
theorem K1.free(hr:K1 h w T T' v us xss){b:Nat}(hb:K6 v us b):h b=none:=by
 rcases hb with hb|⟨u,hu,hb⟩
 ·exact hr.outer.free hb
 ·obtain⟨i,hi⟩:=eD3.1 hu;have hlt:i<xss.length:=by rw[←hr.len];exact(ev9.1 hi).1
  exact(hr.row i u _ hi (ev4 hlt)).free hb
theorem K1.lt(hr:K1 h w T T' v us xss){b:Nat}(hb:K6 v us b):b<w.heap.size:=by
 rcases hb with hb|⟨u,hu,hb⟩
 ·exact hr.outer.lt hb
 ·obtain⟨i,hi⟩:=eD3.1 hu;have hlt:i<xss.length:=by rw[←hr.len];exact(ev9.1 hi).1
  exact(hr.row i u _ hi (ev4 hlt)).lt hb
theorem K1.mod{M:Nat→Prop}{w':World}(hr:K1 h w T T' v us xss)(hm:o9 M w w')(hM:∀b,K6 v us b→¬M b):K1 h w' T T' v us xss:=
 ⟨hr.outer.mod hm fun b hb=>hM b (.inl hb),hr.len,fun i u xs hi hx=>(hr.row i u xs hi hx).mod hm fun b hb=>hM b (.inr ⟨u,ex5 hi,hb⟩),hr.apart,hr.off⟩
theorem K1.ext{w':World}(hr:K1 h w T T' v us xss)(hm:o6 w w'):K1 h w' T T' v us xss:=hr.mod hm fun _ _=>id
theorem K1.set{w' w'':World}(hr:K1 h w T T' v us xss){i:Nat}{u:Z0}(hi:us[i]?=some u){u':Value}{xs:List α}
  (hm:o9 (A3 u.v) w w') (ho:A8 h w' T' u' xs) (hv:E8 w u.v u')
  (hm2:o9 (A3 v) w' w'') (ho2:A8 h w'' T v (us.set i ⟨u'⟩)):K1 h w'' T T' v (us.set i ⟨u'⟩) (xss.set i xs):=by
 have hil:i<us.length:=(ev9.1 hi).1;have hnew:∀b,A3 u' b→¬A3 v b:=fun b hb hb2=>by
  rcases hv b hb with hb3|hb3
  ·exact hr.off i u hi b hb3 hb2
  ·have:=hr.outer.lt hb2;omega
 have hget:∀(j:Nat) (x:Z0),(us.set i ⟨u'⟩)[j]?=some x→(j=i∧x=⟨u'⟩)∨(j≠i∧us[j]?=some x):=by
  intro j x hj;rw[List.getElem?_set]at hj;by_cases hji:i=j
  ·subst hji;simp only[eB5,if_pos hil]at hj;exact .inl ⟨rfl,(ex1 hj).symm⟩
  ·rw[if_neg hji]at hj;exact .inr ⟨fun e=>hji e.symm,hj⟩
 have hother:∀(j:Nat) (x:Z0),j≠i→us[j]?=some x→∀b,A3 x.v b→¬A3 u' b:=by
  intro j x hji hj b hb hb2;rcases hv b hb2 with hb3|hb3
  ·exact hr.apart j i x u hji hj hi b hb hb3
  ·have hlt:j<xss.length:=by rw[←hr.len];exact(ev9.1 hj).1
   have:=(hr.row j x _ hj (ev4 hlt)).lt hb;omega
 refine⟨ho2,by simp[hr.len],?_,?_,?_⟩
 ·intro j x ys hj hy;rcases hget j x hj with⟨rfl,rfl⟩|⟨hji,hj'⟩
  ·rw[List.getElem?_set,if_pos rfl,if_pos (by rw[←hr.len];exact hil)]at hy;obtain rfl:=ex1 hy;exact ho.mod hm2 hnew
  ·rw[List.getElem?_set,if_neg (fun e=>hji e.symm)]at hy;refine((hr.row j x ys hj' hy).mod hm fun b hb hb2=>hr.apart j i x u hji hj' hi b hb hb2).mod hm2 fun b hb=>hr.off j x hj' b hb
 ·intro j k x y hjk hj hk b hb hb2;rcases hget j x hj with⟨rfl,rfl⟩|⟨hji,hj'⟩<;>rcases hget k y hk with⟨rfl,rfl⟩|⟨hki,hk'⟩
  ·exact hjk rfl
  ·exact hother k y hki hk' b hb2 hb
  ·exact hother j x hji hj' b hb hb2
  ·exact hr.apart j k x y hjk hj' hk' b hb hb2
 ·intro j x hj b hb;rcases hget j x hj with⟨rfl,rfl⟩|⟨hji,hj'⟩
  ·exact hnew b hb
  ·exact hr.off j x hj' b hb
theorem K1.ro(hr:K1 h w T T' v us xss)(hw:B3 h (d7 w)):R (d7 w) v xss:=by
 have ho:=hr.outer.rw_ hw;obtain⟨a,n,c,e,h1,h2,es,h3,h4⟩:=ho;refine⟨a,n,c,e,by rw[h1,hr.len],h2,es,?_,h4⟩;have key:∀(us:List Z0) (xss:List (List α)) (es:List Value),us.length=xss.length→N2 (d7 w) es us →
   (∀(i:Nat) (u:Z0) (xs:List α),us[i]?=some u→xss[i]?=some xs→R (d7 w) u.v xs)→N2 (d7 w) es xss:=by
  intro us
  induction us with
  | nil=>
   intro xss es hl he _;have:xss=[]:=List.eq_nil_of_length_eq_zero hl.symm;subst this;exact he
  | cons u us ih=>
   intro xss es hl he hx;cases xss with
   | nil=>simp at hl
   | cons xs xss=>
    obtain⟨c1,c2,rfl,⟨hc1,_⟩,hc2⟩:=he;subst hc1;exact⟨[u.v],c2,rfl,hx 0 u xs rfl rfl,ih xss c2 (by simpa using hl) hc2 fun i u' xs' h5 h6=>hx (i+1) u' xs' (by simpa using h5) (by simpa using h6)⟩
 exact key us xss es hr.len h3 fun i u xs hi hx=>(hr.row i u xs hi hx).rw_ hw
end
section
variable {P:Program} {w:World} {h:Hp} {t T:TypeId} {v:Value}
theorem bC7(w:World)(z cs:Array Value)(T:TypeId):(w.alloc (.cells z T)).setRow w.heap.size cs=w.alloc (.cells cs T):=by
 unfold World.setRow World.alloc
 congr 1
 apply Array.ext
 ·simp
 ·intro i h1 h2;simp only[Array.getElem_modify];by_cases hi:w.heap.size=i
  ·subst hi;simp
  ·rw[if_neg hi];have:i<w.heap.size:=by simp at h2;omega
   simp[Array.getElem_push,this]
theorem aU2{z:Value}(hz:H3 P T=some z)(hs:z.cells.size=E4 P T){cs:Array Value}(hc:cs.size=E4 P T)(h1:∀u∈cs.toList,u.oneCell'=true):
  (Instr.alloc T true (.tuple #[])).run P w = .ok (.pointer (some ⟨w.heap.size,0,none⟩)) (w.alloc (.cells z.cells T)) ∧
  (Instr.storeAt T (.pointer (some ⟨w.heap.size,0,none⟩)) (.agg cs)).run P (w.alloc (.cells z.cells T)) = .ok () (w.alloc (.cells cs T)):=by
 obtain⟨i,hi,hiz⟩:=t8 hz;constructor
 ·unfold Instr.alloc zeroValue;simp only[ey2,N5,hi,hiz,ez6,ex2];rfl
 ·have hst:=run_storeCells_from (P:=P) w.heap.size T cs.toList 0 z.cells (w.alloc (.cells z.cells T)) (ez9 w _) (by simp[hc,hs]) h1;simp only[eH0,eG5,Array.toArray_toList]at hst;unfold Instr.storeAt storeVar;simp only[Instr.sureAddr,ey2,ez6,ex2,sizeOf,N5,hi,Value.cells];rw[C8 hi]at hc;simp only[hc,ne_eq,not_true_eq_false,eC8];rw[←bC7 w z.cells cs T];exact hst
theorem cs5{cs:Array Value}{i:Nat}{u:Value}(hu:cs[i]?=some u):(w.alloc (.cells cs T)).cell? ⟨w.heap.size,i,none⟩=some u:=by
 rw[eH1];exact hu
theorem cy4{cs:Array Value}{i:Nat}{u:Value}(hu:cs[i]?=some u)(ht:B9 P t=false):(Instr.loadAt t (.pointer (some ⟨w.heap.size,i,none⟩))).run P (w.alloc (.cells cs T)) = .ok u (w.alloc (.cells cs T)):=
 R5 ht (cs5 hu)
theorem cc2{xs:List (Int×Int)}(hr:R h v xs)(hw:B3 h (d7 w)){k:Nat}{x:Int×Int}(hk:xs[k]?=some x)(ht:B9 P t=true)(hu:(P.underlying t).isSome=true)(hi:(P.info? t).isSome=true)(hs:E4 P t=2):
  (Instr.loadAt t (.pointer (some (H5 v (k*2))))).run P w = .ok (.agg #[.int .i64 x.1,.int .i64 x.2]) w:=by
 obtain⟨_,es,he,hc⟩:=hr.get hk;obtain⟨c1,c2,rfl,h1,h2⟩:=he;have h1':c1=[.int .i64 x.1]:=h1;have h2':c2=[.int .i64 x.2]:=h2;subst h1' h2';exact bi5 (cs:=[.int .i64 x.1,.int .i64 x.2]) ht hu hi hs fun j u hj=>G2 hw (hc j u hj)
theorem add_lit(b o k:Nat):(⟨b,o,none⟩:Addr).add k=⟨b,o+k,none⟩:=by unfold Addr.add;split<;>simp_all
theorem R.row{α:Type}[z7 α]{xss:List (List α)}(hr:R h v xss){k:Nat}{x:List α}(hk:xss[k]?=some x):∃u,R h u x∧I7 h (H5 v k)=some u:=by
 obtain⟨_,es,he,hc⟩:=hr.get hk;have hl:es.length=1:=z7.len he
 match es,hl with
 | [u],_=>
  have:=hc 0 u rfl;rw[K0]at this;have h1:(k*z7.sz (List α))=k:=eF2 k;rw[h1]at this;exact⟨u,he,this⟩
theorem G5{a:Addr}{u:Value}(hc:I7 h a=some u)(hw:B3 h (d7 w))(ht:B9 P t=false):(Instr.loadAt t (.pointer (some a))).run P w = .ok u w:=
 R5 ht (G2 hw hc)
theorem A8.ext2{α:Type}[z7 α]{w0 w2:World}{xs:List α}(ho:A8 (d7 w0) w T v xs)(hx:o6 w0 w)(hm:o9 (A3 v) w w2):o6 w0 w2:=
 o9.ext_of hx hm fun b hb=>by
  rcases ez4 b w0.heap.size with hlt|hge
  ·have:=ho.free hb;simp[d7,hlt]at this
  ·exact hge
theorem aT5{α:Type}[J0 α]{k:Hp}:∀{xs:List α} {cs:List Value},N2 k cs xs→N2 h cs xs
 | [],_,e=>e
 | _::_,_,⟨c1,c2,e,h1,h2⟩=>⟨c1,c2,e,h1,aT5 h2⟩
theorem A8.down{α:Type}[J0 α]{k:Hp}{xs:List α}(ho:A8 k w T v xs)(hk:B3 h k):A8 h w T v xs:=by
 rcases ho with hn|⟨b,c,cur,rfl,h1,h2,h3,h4,h5,h6⟩
 ·exact .inl hn
 ·refine .inr ⟨b,c,cur,rfl,?_,h2,h3,h4,h5,aT5 h6⟩;cases e:h b with
  | none=>rfl
  | some o=>rw[hk b o e]at h1;cases h1
theorem A8.back{α:Type}[J0 α]{w0 w1:World}{xs:List α}(ho:A8 (d7 w1) w T v xs)(hx:o6 w0 w1):A8 (d7 w0) w T v xs:=ho.down (b7 hx)
end
open Classical in
noncomputable def aI9 (w:World) (v:Value):Hp:=fun b=>if A3 v b then none else w.heap[b]?
theorem bt4{w:World}{v:Value}{b:Nat}(h:A3 v b):aI9 w v b=none:=by unfold aI9;rw[if_pos h]
theorem aG1{w:World}{v:Value}{b:Nat}(h:¬A3 v b):aI9 w v b=w.heap[b]?:=by unfold aI9;rw[if_neg h]
theorem cv4(w:World)(v:Value):B3 (aI9 w v) (d7 w):=fun b o e=>by
 by_cases h:A3 v b
 ·rw[bt4 h]at e;cases e
 ·rw[aG1 h]at e;exact e
section
variable {α:Type} [z7 α] {h:Hp} {w:World} {T:TypeId} {v:Value} {xs:List α}
theorem A8.rebase(ho:A8 h w T v xs)(hw:B3 h (d7 w)):A8 (aI9 w v) w T v xs:=by
 refine ho.up (fun b o e=>?_) fun b hb=>bt4 hb;have hn:¬A3 v b:=fun hb=>by rw[ho.free hb]at e;cases e
 rw[aG1 hn];exact hw b o e
theorem A8.beside{β:Type}[z7 β]{k:Hp}{T':TypeId}{u:Value}{ys:List β}(hu:A8 k w T' u ys)(hk:B3 k (aI9 w v))(hd:∀b,A3 u b→¬A3 v b):R (aI9 w v) u ys:=
 hu.ro hk fun b hb=>aG1 (hd b hb)
end
theorem K1.write{α:Type}[z7 α]{h:Hp}{w w':World}{T T':TypeId}{v:Value}{us:List Z0}{xss:List (List α)}(hr:K1 h w T T' v us xss){i:Nat}{u:Z0}(hi:us[i]?=some u){xs:List α}
  (hm:o9 (A3 u.v) w w') (ho:A8 h w' T' u.v xs):K1 h w' T T' v us (xss.set i xs):=by
 have hset:us.set i ⟨u.v⟩=us:=by
  obtain⟨hl,e⟩:=ev9.1 hi;apply eC9 (by simp);intro j h1 h2;rw[List.getElem_set];split
  ·rename_i e2;subst e2;exact e.symm
  ·rfl
 have:=hr.set (u':=u.v) (xs:=xs) hi hm ho (fun b hb=>.inl hb) (o9.refl _) (by
  rw[hset];exact hr.outer.mod hm fun b hb hb2=>hr.off i u hi b hb2 hb)
 rw[hset]at this;exact this
open Classical in
noncomputable def B4 (w:World) (N:Nat→Prop):Hp:=fun b=>if N b then none else w.heap[b]?
theorem H8{w:World}{N:Nat→Prop}{b:Nat}(h:N b):B4 w N b=none:=by unfold B4;rw[if_pos h]
theorem D3{w:World}{N:Nat→Prop}{b:Nat}(h:¬N b):B4 w N b=w.heap[b]?:=by unfold B4;rw[if_neg h]
theorem B7(w:World)(N:Nat→Prop):B3 (B4 w N) (d7 w):=fun b o e=>by
 by_cases h:N b
 ·rw[H8 h]at e;cases e
 ·rw[D3 h]at e;exact e
theorem H1{w w':World}{N N' M:Nat→Prop}(hm:o9 M w w')(hM:∀b,M b→N b)(hN:∀b,N' b→N b∨w.heap.size≤b):B3 (B4 w N) (B4 w' N'):=fun b o e=>by
 by_cases h:N b
 ·rw[H8 h]at e;cases e
 ·rw[D3 h]at e;have hb:b<w.heap.size:=(ew1.1 e).1;have h':¬N' b:=fun hb'=>by
   rcases hN b hb' with k|k
   ·exact h k
   ·omega
  rw[D3 h',hm.block b hb fun hh=>h (hM b hh)];exact e
theorem aG2{w0 w:World}{N:Nat→Prop}(hx:o6 w0 w)(hN:∀b,N b→w0.heap.size≤b):B3 (d7 w0) (B4 w N):=fun b o e=>by
 have hb:b<w0.heap.size:=(ew1.1 (show w0.heap[b]?=some o from e)).1;have hn:¬N b:=fun h=>by have:=hN b h;omega
 rw[D3 hn];exact b7 hx b o e
section
variable {α:Type} [z7 α] {h:Hp} {w:World} {T:TypeId} {v:Value} {xs:List α} {N:Nat→Prop}
theorem A8.noMod{w':World}{N' M:Nat→Prop}(ho:A8 (B4 w N) w T v xs)(hm:o9 M w w')(hM:∀b,M b→N b)(hd:∀b,A3 v b→¬M b)(hN:∀b,N' b→N b∨w.heap.size≤b)(hv:∀b,A3 v b→N' b):A8 (B4 w' N') w' T v xs:=
 (ho.mod hm hd).up (H1 hm hM hN) fun b hb=>H8 (hv b hb)
theorem A8.roNo{k:Hp}(hu:A8 k w T v xs)(hk:B3 k (B4 w N))(hd:∀b,A3 v b→¬N b):R (B4 w N) v xs:=hu.ro hk fun b hb=>D3 (hd b hb)
theorem A8.reNo(ho:A8 h w T v xs)(hh:B3 h (B4 w N))(hv:∀b,A3 v b→N b):A8 (B4 w N) w T v xs:=ho.up hh fun b hb=>H8 (hv b hb)
end
def eI4:=@Bool.eq_iff_iff
def eC4:=@Iff.rfl
def eI5:=@List.cons.injEq
def eG6:=@List.cons_append
def ex6:=@List.mem_cons
def eB0:=@List.not_mem_nil
def eG9:=@or_false
structure A4 where
 b:List UInt8
 deriving DecidableEq
instance:Inhabited A4:=⟨⟨[]⟩⟩
def ofA(b:Array UInt8):A4:=⟨b.toList⟩
abbrev e0:A4:=ofA #[]
def o7(s:A4):Value:=.string ⟨s.b.toArray⟩
instance:J0 A4:=⟨o7,fun _=>rfl⟩
theorem al8(l:List UInt8):(⟨l.toArray⟩:ByteArray).toList=l:=by
 rw[ByteArray.toList_eq]
def ltS(a b:A4):Bool:=Op.bytesLess a.b b.b
theorem bd8(a b:A4):(a.b==b.b)=decide (a=b):=by
 refine eI4.2 ?_;rw[beq_iff_eq,decide_eq_true_iff];cases a;cases b;simp
section
variable {P:Program} {t:TypeId}
theorem bZ3{a b:A4}:B6 P .eql t (o7 a) (o7 b)=some (.bool (decide (a=b))):=by
 simp only[o7,B6,al8,bd8]
theorem cL1{a b:A4}:B6 P .neq t (o7 a) (o7 b)=some (.bool (!decide (a=b))):=by
 simp only[o7,B6,al8,bd8]
theorem ea7{a b:A4}:B6 P .lss t (o7 a) (o7 b)=some (.bool (ltS a b)):=by
 simp only[o7,B6,al8,ltS]
theorem cL0{a b:A4}:B6 P .gtr t (o7 a) (o7 b)=some (.bool !(ltS a b||decide (a=b))):=by
 simp only[o7,B6,al8,ltS,bd8]
theorem dG2{s:A4}(h:bD1 P t=true)(he:A7 P t=none):Q4 P t (o7 s)=some (.int .i64 (s.b.length:Nat)):=by
 simp only[Q4,he,Option.isSome_none,eB8,eC8,o7,h,eB5];rfl
end
def bl5(h:Hp)(v:Value)(n:Nat)(E:List Value→Prop):Prop:=∃a m c es,v = .slice a m c∧m=n∧m≤c∧E es∧∀j u,es[j]?=some u→∃ad,a=some ad∧I7 h (ad.add j)=some u
theorem aL9{h k:Hp}(hk:B3 h k){v:Value}{n:Nat}{E F:List Value→Prop}(hE:∀es,E es→F es):bl5 h v n E→bl5 k v n F:=by
 rintro⟨a,m,c,es,e1,e2,e3,e4,e5⟩;refine⟨a,m,c,es,e1,e2,e3,hE _ e4,fun j u hj=>?_⟩;obtain⟨ad,h1,h2⟩:=e5 j u hj;exact⟨ad,h1,G2 hk h2⟩
theorem aV4{h:Hp}{v:Value}{n:Nat}{E:List Value→Prop}:bl5 h v n E→v.oneCell'=true:=by
 rintro⟨a,m,c,es,rfl,_⟩;rfl
theorem bY8{α:Type}[z7 α]{h:Hp}{v:Value}{xs:List α}:R h v xs↔bl5 h v xs.length (fun es=>N2 h es xs):=by
 constructor
 ·rintro⟨a,n,c,e,h1,h2,es,h3,h4⟩;simp only[eI5,and_true]at e;exact⟨a,n,c,es,e,h1,h2,h3,h4⟩
 ·rintro⟨a,n,c,es,rfl,h1,h2,h3,h4⟩;exact⟨a,n,c,rfl,h1,h2,es,h3,h4⟩
structure be1 (α:Type) where
 n:Nat
 pos:0<n
 cells:α→List Value
 len:∀x,(cells x).length=n
 one:∀x,∀v∈cells x,v.oneCell'=true
abbrev be1.rep{α:Type}(F:be1 α):z7 α where
 sz:=F.n
 pos:=F.pos
 enc _ cs x:=cs=F.cells x
 len h:=by rw[h];exact F.len _
 mono _ h:=h
 one h:=by intro v hv;rw[h]at hv;exact F.one _ v hv
structure Pa where
 name:A4
 ref:Bool
 deriving DecidableEq
def Pa.cells(p:Pa):List Value:=[o7 p.name,.bool p.ref]
instance:z7 Pa:=be1.rep ⟨2,by omega,Pa.cells,fun _=>rfl,fun x v hv=>by simp[Pa.cells]at hv;rcases hv with rfl|rfl<;>rfl⟩
structure Sp where
 src:Int
 dst:Int
 kind:Int
 deriving DecidableEq
def Sp.cells(p:Sp):List Value:=[.int .i64 p.src,.int .i64 p.dst,.int .i64 p.kind]
instance:z7 Sp:=be1.rep ⟨3,by omega,Sp.cells,fun _=>rfl,fun x v hv=>by simp[Sp.cells]at hv;rcases hv with rfl|rfl|rfl<;>rfl⟩
structure Fw where
 src:Int
 dst:Int
 var:A4
 deriving DecidableEq
def Fw.cells(p:Fw):List Value:=[.int .i64 p.src,.int .i64 p.dst,o7 p.var]
instance:z7 Fw:=be1.rep ⟨3,by omega,Fw.cells,fun _=>rfl,fun x v hv=>by simp[Fw.cells]at hv;rcases hv with rfl|rfl|rfl<;>rfl⟩
structure Vx where
 proc:A4
 kind:Int
 id:Int
 slot:A4
 deriving DecidableEq
def Vx.cells(p:Vx):List Value:=[o7 p.proc,.int .i64 p.kind,.int .i64 p.id,o7 p.slot]
instance:z7 Vx:=be1.rep ⟨4,by omega,Vx.cells,fun _=>rfl,fun x v hv=>by simp[Vx.cells]at hv;rcases hv with rfl|rfl|rfl|rfl<;>rfl⟩
structure Eg where
 src:Vx
 dst:Vx
 kind:Int
 deriving DecidableEq
def Eg.cells(p:Eg):List Value:=p.src.cells++p.dst.cells++[.int .i64 p.kind]
instance:z7 Eg:=be1.rep ⟨9,by omega,Eg.cells,fun _=>rfl,fun x v hv=>by simp[Eg.cells,Vx.cells]at hv;rcases hv with rfl|rfl|rfl|rfl|rfl|rfl|rfl|rfl|rfl<;>rfl⟩
inductive Ex where
 | mk (op n:Int) (name:A4) (kids:List Ex)
namespace Ex
def op:Ex→Int | .mk a _ _ _=>a
def n:Ex→Int | .mk _ a _ _=>a
def name:Ex→A4 | .mk _ _ a _=>a
def kids:Ex→List Ex | .mk _ _ _ a=>a
end Ex
mutual
def aN6(h:Hp):Ex→List Value→Prop
 | .mk op n name kids,cs=>∃vk,cs=[.int .i64 op,.int .i64 n,o7 name,vk]∧bl5 h vk kids.length (aq9 h kids)
def aq9(h:Hp):List Ex→List Value→Prop
 | [],cs=>cs=[]
 | x::xs,cs=>∃c1 c2,cs=c1++c2∧aN6 h x c1∧aq9 h xs c2
end
mutual
theorem bf8{h k:Hp}(hk:B3 h k):∀(x:Ex) (cs:List Value),aN6 h x cs→aN6 k x cs
 | .mk op n name kids,cs,e=>by
  simp only[aN6]at *;obtain⟨vk,e1,e2⟩:=e;exact⟨vk,e1,aL9 hk (fun es=>aX5 hk kids es) e2⟩
theorem aX5{h k:Hp}(hk:B3 h k):∀(x:List Ex) (cs:List Value),aq9 h x cs→aq9 k x cs
 | [],cs,e=>by simpa only[aq9]using e
 | x::xs,cs,e=>by
  simp only[aq9]at *;obtain⟨c1,c2,e1,e2,e3⟩:=e;exact⟨c1,c2,e1,bf8 hk x c1 e2,aX5 hk xs c2 e3⟩
end
instance:z7 Ex where
 sz:=4
 pos:=by omega
 enc h cs x:=aN6 h x cs
 len:=by
  rintro h cs ⟨op,n,name,kids⟩ e;simp only[aN6]at e;obtain⟨vk,rfl,_⟩:=e;rfl
 mono hk:=bf8 hk _ _
 one:=by
  rintro h cs ⟨op,n,name,kids⟩ e v hv;simp only[aN6]at e;obtain⟨vk,rfl,h2⟩:=e;simp only[ex6,eB0,eG9]at hv;rcases hv with rfl|rfl|rfl|rfl
  ·rfl
  ·rfl
  ·rfl
  ·exact aV4 h2
theorem bf9{h:Hp}:∀(xs:List Ex) (es:List Value),aq9 h xs es↔N2 h es xs
 | [],es=>by simp only[aq9,N2]
 | x::xs,es=>by
  simp only[aq9,N2,bf9 xs];exact eC4
theorem bz6{h:Hp}{cs:List Value}{x:Ex}:z7.enc h cs x↔∃vk,cs=[.int .i64 x.op,.int .i64 x.n,o7 x.name,vk]∧R h vk x.kids:=by
 obtain⟨op,n,name,kids⟩:=x;show aN6 h _ cs↔_;simp only[aN6,bY8,Ex.op,Ex.n,Ex.name,Ex.kids];have:aq9 h kids=fun es=>N2 h es kids:=by funext es;exact propext (bf9 kids es)
 rw[this]
structure Ar where
 ref:Bool
 name:A4
 x:Ex
instance:z7 Ar where
 sz:=6
 pos:=by omega
 enc h cs a:=∃c,cs = .bool a.ref::o7 a.name::c∧z7.enc h c a.x
 len:=by rintro h cs a ⟨c,rfl,h2⟩;have:=z7.len h2;simp[this];rfl
 mono:=by rintro h k cs a hk ⟨c,rfl,h2⟩;exact⟨c,rfl,z7.mono hk h2⟩
 one:=by
  rintro h cs a ⟨c,rfl,h2⟩ v hv;simp only[ex6]at hv;rcases hv with rfl|rfl|hv
  ·rfl
  ·rfl
  ·exact z7.one h2 v hv
inductive St where
 | mk (id kind:Int) (labels:List A4) (name proc:A4) (x:Ex) (has:Bool) (args:List Ar) (thn els:List St)
namespace St
def id:St→Int | .mk a _ _ _ _ _ _ _ _ _=>a
def kind:St→Int | .mk _ a _ _ _ _ _ _ _ _=>a
def labels:St→List A4 | .mk _ _ a _ _ _ _ _ _ _=>a
def name:St→A4 | .mk _ _ _ a _ _ _ _ _ _=>a
def proc:St→A4 | .mk _ _ _ _ a _ _ _ _ _=>a
def x:St→Ex | .mk _ _ _ _ _ a _ _ _ _=>a
def has:St→Bool | .mk _ _ _ _ _ _ a _ _ _=>a
def args:St→List Ar | .mk _ _ _ _ _ _ _ a _ _=>a
def thn:St→List St | .mk _ _ _ _ _ _ _ _ a _=>a
def els:St→List St | .mk _ _ _ _ _ _ _ _ _ a=>a
end St
mutual
def aN7(h:Hp):St→List Value→Prop
 | .mk id kind labels name proc x has args thn els,cs=>∃vl cx va vt ve,cs = .int .i64 id :: .int .i64 kind::vl::o7 name::o7 proc::cx++[.bool has,va,vt,ve] ∧
   R h vl labels∧z7.enc h cx x∧R h va args∧bl5 h vt thn.length (ai2 h thn)∧bl5 h ve els.length (ai2 h els)
def ai2(h:Hp):List St→List Value→Prop
 | [],cs=>cs=[]
 | x::xs,cs=>∃c1 c2,cs=c1++c2∧aN7 h x c1∧ai2 h xs c2
end
mutual
theorem bg0{h k:Hp}(hk:B3 h k):∀(x:St) (cs:List Value),aN7 h x cs→aN7 k x cs
 | .mk id kind labels name proc x has args thn els,cs,e=>by
  simp only[aN7]at *;obtain⟨vl,cx,va,vt,ve,e1,e2,e3,e4,e5,e6⟩:=e;exact⟨vl,cx,va,vt,ve,e1,z7.mono hk e2,z7.mono hk e3,z7.mono hk e4,aL9 hk (fun es=>aB4 hk thn es) e5,aL9 hk (fun es=>aB4 hk els es) e6⟩
theorem aB4{h k:Hp}(hk:B3 h k):∀(x:List St) (cs:List Value),ai2 h x cs→ai2 k x cs
 | [],cs,e=>by simpa only[ai2]using e
 | x::xs,cs,e=>by
  simp only[ai2]at *;obtain⟨c1,c2,e1,e2,e3⟩:=e;exact⟨c1,c2,e1,bg0 hk x c1 e2,aB4 hk xs c2 e3⟩
end
theorem X2{α:Type}[z7 α]{h:Hp}{v:Value}{xs:α}(hr:R h v xs):v.oneCell'=true:=z7.one hr v (by simp)
instance:z7 St where
 sz:=13
 pos:=by omega
 enc h cs x:=aN7 h x cs
 len:=by
  rintro h cs ⟨id,kind,labels,name,proc,x,has,args,thn,els⟩ e;simp only[aN7]at e;obtain⟨vl,cx,va,vt,ve,rfl,h2,h3,_⟩:=e;have h4:cx.length=4:=z7.len h3;simp[h4]
 mono hk:=bg0 hk _ _
 one:=by
  rintro h cs ⟨id,kind,labels,name,proc,x,has,args,thn,els⟩ e v hv;simp only[aN7]at e;obtain⟨vl,cx,va,vt,ve,rfl,h2,h3,h4,h5,h6⟩:=e;simp only[eG6,ex6,ew8,eB0,eG9]at hv;rcases hv with rfl|rfl|rfl|rfl|rfl|hv|rfl|rfl|rfl|rfl
  ·rfl
  ·rfl
  ·exact X2 h2
  ·rfl
  ·rfl
  ·exact z7.one h3 v hv
  ·rfl
  ·exact X2 h4
  ·exact aV4 h5
  ·exact aV4 h6
theorem aK8{h:Hp}:∀(xs:List St) (es:List Value),ai2 h xs es↔N2 h es xs
 | [],es=>by simp only[ai2,N2]
 | x::xs,es=>by
  simp only[ai2,N2,aK8 xs];exact eC4
theorem bz7{h:Hp}{cs:List Value}{s:St}:z7.enc h cs s↔∃vl cx va vt ve,cs = .int .i64 s.id :: .int .i64 s.kind::vl::o7 s.name::o7 s.proc::cx++[.bool s.has,va,vt,ve] ∧
   R h vl s.labels∧z7.enc h cx s.x∧R h va s.args∧R h vt s.thn∧R h ve s.els:=by
 obtain⟨id,kind,labels,name,proc,x,has,args,thn,els⟩:=s;show aN7 h _ cs↔_;have h1:ai2 h thn=fun es=>N2 h es thn:=by funext es;exact propext (aK8 thn es)
 have h2:ai2 h els=fun es=>N2 h es els:=by funext es;exact propext (aK8 els es)
 simp only[aN7,bY8,h1,h2,St.id,St.kind,St.labels,St.name,St.proc,St.x,St.has,St.args,St.thn,St.els]
structure Pr where
 name:A4
 params:List Pa
 vars:List A4
 body:List St
 fin:List A4
instance:z7 Pr where
 sz:=5
 pos:=by omega
 enc h cs p:=∃v1 v2 v3 v4,cs=[o7 p.name,v1,v2,v3,v4]∧R h v1 p.params∧R h v2 p.vars∧R h v3 p.body∧R h v4 p.fin
 len:=by rintro h cs a ⟨v1,v2,v3,v4,rfl,_⟩;rfl
 mono:=by rintro h k cs a hk ⟨v1,v2,v3,v4,rfl,h1,h2,h3,h4⟩;exact⟨v1,v2,v3,v4,rfl,z7.mono hk h1,z7.mono hk h2,z7.mono hk h3,z7.mono hk h4⟩
 one:=by
  rintro h cs a ⟨v1,v2,v3,v4,rfl,h1,h2,h3,h4⟩ v hv;simp only[ex6,eB0,eG9]at hv;rcases hv with rfl|rfl|rfl|rfl|rfl
  ·rfl
  ·exact X2 h1
  ·exact X2 h2
  ·exact X2 h3
  ·exact X2 h4
structure Pg where
 globals:List A4
 procs:List Pr
instance:z7 Pg where
 sz:=2
 pos:=by omega
 enc h cs p:=∃v1 v2,cs=[v1,v2]∧R h v1 p.globals∧R h v2 p.procs
 len:=by rintro h cs a ⟨v1,v2,rfl,_⟩;rfl
 mono:=by rintro h k cs a hk ⟨v1,v2,rfl,h1,h2⟩;exact⟨v1,v2,rfl,z7.mono hk h1,z7.mono hk h2⟩
 one:=by
  rintro h cs a ⟨v1,v2,rfl,h1,h2⟩ v hv;simp only[ex6,eB0,eG9]at hv;rcases hv with rfl|rfl
  ·exact X2 h1
  ·exact X2 h2
structure It where
 s:St
 proc:Int
 up:Int
 next:Int
 loop:Int
instance:z7 It where
 sz:=17
 pos:=by omega
 enc h cs p:=∃c,cs=c++[.int .i64 p.proc,.int .i64 p.up,.int .i64 p.next,.int .i64 p.loop]∧z7.enc h c p.s
 len:=by rintro h cs a ⟨c,rfl,h1⟩;have h4:c.length=13:=z7.len h1;simp[h4]
 mono:=by rintro h k cs a hk ⟨c,rfl,h1⟩;exact⟨c,rfl,z7.mono hk h1⟩
 one:=by
  rintro h cs a ⟨c,rfl,h1⟩ v hv;simp only[ew8,ex6,eB0,eG9]at hv;rcases hv with hv|rfl|rfl|rfl|rfl
  ·exact z7.one h1 v hv
  all_goals rfl
structure Sh where
 p:Pg
 l:List It
 lo:List Int
 hi:List Int
instance:z7 Sh where
 sz:=5
 pos:=by omega
 enc h cs p:=∃c v1 v2 v3,cs=c++[v1,v2,v3]∧z7.enc h c p.p∧R h v1 p.l∧R h v2 p.lo∧R h v3 p.hi
 len:=by rintro h cs a ⟨c,v1,v2,v3,rfl,h1,_⟩;have h4:c.length=2:=z7.len h1;simp[h4]
 mono:=by rintro h k cs a hk ⟨c,v1,v2,v3,rfl,h0,h1,h2,h3⟩;exact⟨c,v1,v2,v3,rfl,z7.mono hk h0,z7.mono hk h1,z7.mono hk h2,z7.mono hk h3⟩
 one:=by
  rintro h cs a ⟨c,v1,v2,v3,rfl,h0,h1,h2,h3⟩ v hv;simp only[ew8,ex6,eB0,eG9]at hv;rcases hv with hv|rfl|rfl|rfl
  ·exact z7.one h0 v hv
  ·exact X2 h1
  ·exact X2 h2
  ·exact X2 h3
def SV{α:Type}[z7 α](h:Hp)(v:Value)(x:α):Prop:=∃cs,v = .agg (List.toArray cs)∧z7.enc h cs x
section
variable {α:Type} [z7 α] {h k:Hp} {v:Value} {x:α} {P:Program} {t T:TypeId} {w:World}
theorem SV.mono(hk:B3 h k):SV h v x→SV k v x:=fun⟨cs,e,h1⟩=>⟨cs,e,z7.mono hk h1⟩
theorem SV.enc:SV h v x→z7.enc h v.cells.toList x:=by
 rintro⟨cs,rfl,h1⟩;simpa[Value.cells]using h1
theorem G1{xs:List α}(hr:R h v xs)(hw:B3 h (d7 w)){k:Nat}(hk:xs[k]?=some x)(ht:B9 P t=true)(hu:(P.underlying t).isSome=true)(hi:(P.info? t).isSome=true)(hs:E4 P t=z7.sz α):
  ∃sv,SV h sv x∧(Instr.loadAt t (.pointer (some (H5 v (k*E4 P t))))).run P w = .ok sv w:=by
 obtain⟨_,es,he,hc⟩:=hr.get hk;refine⟨.agg (List.toArray es),⟨es,rfl,he⟩,?_⟩;rw[hs];exact bi5 (cs:=es) ht hu hi (by rw[hs,z7.len he]) fun j u hj=>G2 hw (hc j u hj)
end
def At{α:Type}[z7 α](h:Hp)(a:Addr)(x:α):Prop:=∃es,z7.enc h es x∧∀j u,es[j]?=some u→I7 h (a.add j)=some u
section
variable {α:Type} [z7 α] {h k:Hp} {v:Value} {x:α} {P:Program} {t T:TypeId} {w:World} {a:Addr}
theorem At.mono(hk:B3 h k):At h a x→At k a x:=fun⟨es,h1,h2⟩=>⟨es,z7.mono hk h1,fun j u hj=>G2 hk (h2 j u hj)⟩
theorem R.at_{xs:List α}(hr:R h v xs){i:Nat}(hi:xs[i]?=some x):At h (H5 v (i*z7.sz α)) x:=(hr.get hi).2
theorem Ptr.at_{p:Ptr α}(hp:R h v p):∃a,v = .pointer (some a)∧At h a p.to:=by
 obtain⟨a,es,e,h1,h2⟩:=hp;simp only[eI5,and_true]at e;exact⟨a,e,es,h1,h2⟩
theorem At.ptr(ha:At h a x):R h (.pointer (some a)) (⟨x⟩:Ptr α):=by
 obtain⟨es,h1,h2⟩:=ha;exact⟨a,es,rfl,h1,h2⟩
theorem At.sv(ha:At h a x)(ht:B9 P t=true)(hu:(P.underlying t).isSome=true)(hi:(P.info? t).isSome=true)(hs:E4 P t=z7.sz α):
  ∃sv,SV h sv x∧∀w,B3 h (d7 w)→(Instr.loadAt t (.pointer (some a))).run P w = .ok sv w:=by
 obtain⟨es,he,hc⟩:=ha;exact⟨.agg (List.toArray es),⟨es,rfl,he⟩,fun w hw=>bi5 (cs:=es) ht hu hi (by rw[hs,z7.len he]) fun j u hj=>G2 hw (hc j u hj)⟩
theorem p8{es:List Value}(hc:∀j u,es[j]?=some u→I7 h (a.add j)=some u){o:Nat}{u:Value}(ho:es[o]?=some u)(ht:B9 P t=false):
  ∀w,B3 h (d7 w)→(Instr.loadAt t (.pointer (some (a.add o)))).run P w = .ok u w:=fun w hw=>R5 ht (G2 hw (hc o u ho))
theorem bc7{β:Type}[z7 β]{y:β}{es c:List Value}(hc:∀j u,es[j]?=some u→I7 h (a.add j)=some u){o:Nat}(hy:z7.enc h c y)(hp:∀j u,c[j]?=some u→es[o+j]?=some u):At h (a.add o) y:=
 ⟨c,hy,fun j u hj=>by rw[Addr.add_add'];exact hc _ _ (hp j u hj)⟩
theorem D8{es:List Value}(hc:∀j u,es[j]?=some u→I7 h (a.add j)=some u){u:Value}(ho:es[0]?=some u)(ht:B9 P t=false):
  ∀w,B3 h (d7 w)→(Instr.loadAt t (.pointer (some a))).run P w = .ok u w:=fun w hw=>by
 have:=p8 (P:=P) (t:=t) hc ho ht w hw
 rwa [K0]at this
theorem be8{β:Type}[z7 β]{y:β}{es c:List Value}(hc:∀j u,es[j]?=some u→I7 h (a.add j)=some u)(hy:z7.enc h c y)(hp:∀j u,c[j]?=some u→es[0+j]?=some u):At h a y:=by
 have:=bc7 hc hy hp
 rwa [K0]at this
theorem z6{S:World→Prop}{s:Sem Value}{u:Value}{K:Fr→World→Prop}{f:Fr}{d:Option Nat}{w0:World}(hS:S w0)(h:∀w',S w'→s.run P w' = .ok u w'):B5 P S s K f d w=K (A5 f d u) w:=by
 refine propext ⟨?_,fun hk=>⟨u,h,hk⟩⟩;rintro⟨v,hv,hk⟩;have:=(hv w0 hS).symm.trans (h w0 hS);simp only[Result.ok.injEq,and_true]at this;rw[←this];exact hk
theorem At.sv2(ha:At h a x)(ht:B9 P t=true)(hu:(P.underlying t).isSome=true)(hi:(P.info? t).isSome=true)(hs:E4 P t=z7.sz α):
  ∃sv,SV h sv x∧(∀w,B3 h (d7 w)→(Instr.loadAt t (.pointer (some a))).run P w = .ok sv w)∧(∀(S:World→Prop) (w0:World),S w0→(∀w,S w→B3 h (d7 w))→∀K f d w,B5 P S (Instr.loadAt t (.pointer (some a))) K f d w=K (A5 f d sv) w):=by
 obtain⟨sv,h1,h2⟩:=ha.sv (P:=P) (t:=t) ht hu hi hs;exact⟨sv,h1,h2,fun S w0 hS hw K f d w=>z6 hS fun w' hw'=>h2 w' (hw w' hw')⟩
theorem by6(hv:SV h v x)(hw:B3 h (d7 w)):∃a w',(Instr.box T v).run P w = .ok (.pointer (some a)) w'∧o6 w w'∧At (d7 w') a x:=by
 obtain⟨cs,rfl,he⟩:=hv;have hx:=o6.alloc w (.cells (List.toArray cs) T);refine⟨⟨w.heap.size,0,none⟩,w.alloc (.cells (List.toArray cs) T),rfl,hx,cs,z7.mono (p9 hw (b7 hx)) he,fun j u hj=>?_⟩;rw[←aj5,add_lit,ez0,eH1];simpa using hj
theorem bn8(hv:SV h v x)(hw:B3 h (d7 w)){z:Value}(hz:H3 P T=some z)(hsz:z.cells.size=E4 P T)(hs:E4 P T=z7.sz α):
  ∃a wz w',(Instr.alloc T true (.tuple #[])).run P w = .ok (.pointer (some a)) wz∧(Instr.storeAt T (.pointer (some a)) v).run P wz = .ok () w'∧o6 w w'∧At (d7 w') a x:=by
 obtain⟨cs,rfl,he⟩:=hv;obtain⟨h1,h2⟩:=aU2 (P:=P) (w:=w) (T:=T) hz hsz (cs:=List.toArray cs) (by simpa[hs]using z7.len he) (by simpa using z7.one he);have hx:=o6.alloc w (.cells (List.toArray cs) T);refine⟨_,_,_,h1,h2,hx,cs,z7.mono (p9 hw (b7 hx)) he,fun j u hj=>?_⟩;rw[←aj5,add_lit,ez0,eH1];simpa using hj
end
def eF7:=@Classical.byContradiction
def eH6:=@List.any_eq_true
def eF5:=@List.getElem?_replicate
def eD6:=@List.getElem?_set_ne
def eB1:=@List.mem_iff_getElem
def eA9:=@Option.getD_some
def ex3:=@congrArg
abbrev W:=BitVec 64
instance:J0 W:=⟨fun x=>.int .u64 (x.toNat:Nat),fun _=>rfl⟩
section
variable {P:Program} {t:TypeId}
theorem bn7(n:Nat)(h:n<18446744073709551616):IntKind.u64.wrap (n:Int)=(n:Int):=by
 have:IntKind.u64.wrap (n:Int)=IntKind.u64.wrap (n:Int):=rfl;unfold IntKind.wrap;simp[IntKind.bits,IntKind.signed];omega
theorem bB4(x:W):BitVec.ofInt IntKind.u64.bits ((x.toNat:Nat):Int)=x:=by
 show BitVec.ofInt 64 ((x.toNat:Nat):Int)=x;rw[BitVec.ofInt_natCast,BitVec.ofNat_toNat];simp
theorem by8(f:Nat)(hf:f<1000000000000):B6 P .quo t (.int .i64 f) (.int .i64 64)=some (.int .i64 ((f / 64:Nat):Int)):=by
 have h1:(f:Int).tdiv 64=((f / 64:Nat):Int):=by rfl
 simp only[B6,E6,eB5,h1];rw[if_neg (by decide),IntWalk.i64_in _ (by omega)]
theorem cr5(f:Nat):B6 P .rem t (.int .i64 f) (.int .i64 64)=some (.int .i64 ((f % 64:Nat):Int)):=by
 have h1:(f:Int).tmod 64=((f % 64:Nat):Int):=by rfl
 simp only[B6,E6,eB5,h1];rw[if_neg (by decide)]
theorem cr6(x:W)(k:Nat)(hk:k<64):B6 P .shr t (.int .u64 ((x.toNat:Nat):Int)) (.int .i64 k)=some (.int .u64 (((x >>> k).toNat:Nat):Int)):=by
 simp only[B6];rw[if_neg (by omega)];have h1:min ((k:Int).toNat) IntKind.u64.bits=k:=by
  show min ((k:Int).toNat) 64=k;omega
 rw[h1,BitVec.toNat_ushiftRight,Nat.shiftRight_eq_div_pow];have h2:((x.toNat:Nat):Int).fdiv (2 ^ k)=((x.toNat / 2 ^ k:Nat):Int):=by
  rw[Int.fdiv_eq_ediv_of_nonneg _ (by exact Int.le_of_lt (Int.pow_pos (by decide)))];simp
 rw[h2]
theorem cr3(x:W)(k:Nat):B6 P .and t (.int .u64 (((x >>> k).toNat:Nat):Int)) (.int .u64 1)=some (.int .u64 (if x.getLsbD k then 1 else 0)):=by
 have h1:BitVec.ofInt IntKind.u64.bits 1=(1#64:W):=rfl;simp only[B6,E6,eB5,bB4,h1];have h2:((x >>> k) &&& 1#64:W)=if x.getLsbD k then 1#64 else 0#64:=by
  apply BitVec.eq_of_getLsbD_eq;intro i hi;rw[BitVec.getLsbD_and,BitVec.getLsbD_ushiftRight];by_cases h0:i=0
  ·subst h0;cases hx:x.getLsbD k<;>simp[]
  ·have:(1#64:W).getLsbD i=false:=by
    rw[BitVec.getLsbD_one];simp[h0]
   rw[this,Bool.and_false];split
   ·exact this.symm
   ·simp
 show some (Value.int .u64 (IntKind.u64.wrap ((((x >>> k) &&& 1#64:W).toNat:Nat):Int)))=_;rw[h2];cases x.getLsbD k<;>rfl
theorem db3(b:Bool):B6 P .eql t (.int .u64 (if b then 1 else 0)) (.int .u64 0)=some (.bool (!b)):=by
 cases b<;>rfl
theorem db4(b:Bool):B6 P .eql t (.int .u64 (if b then 1 else 0)) (.int .u64 1)=some (.bool b):=by
 cases b<;>rfl
theorem db6(k:Nat)(hk:k<64):B6 P .shl t (.int .u64 1) (.int .i64 k)=some (.int .u64 (((1#64 <<< k:W).toNat:Nat):Int)):=by
 simp only[B6];rw[if_neg (by omega)];have h1:min ((k:Int).toNat) IntKind.u64.bits=k:=by
  show min ((k:Int).toNat) 64=k;omega
 rw[h1];have h2:(1:Int)*2 ^ k=((2 ^ k:Nat):Int):=by simp
 have h3:2 ^ k<18446744073709551616:=by
  have:(2:Nat) ^ k<2 ^ 64:=Nat.pow_lt_pow_right (by decide) hk;simpa using this
 have h5:(1#64 <<< k:W).toNat=2 ^ k:=by
  rw[BitVec.toNat_shiftLeft,Nat.shiftLeft_eq];show(1*2 ^ k) % 2 ^ 64=2 ^ k;rw[Nat.one_mul];exact Nat.mod_eq_of_lt (Nat.pow_lt_pow_right (by decide) hk)
 rw[h2,bn7 _ h3,h5]
theorem cr4(x y:W):B6 P .or t (.int .u64 ((x.toNat:Nat):Int)) (.int .u64 ((y.toNat:Nat):Int))=some (.int .u64 (((x ||| y).toNat:Nat):Int)):=by
 simp only[B6,E6,eB5,bB4];rw[bn7 _ (by exact(x ||| y).isLt)];rfl
theorem br4(x y:W):B6 P .andNot t (.int .u64 ((x.toNat:Nat):Int)) (.int .u64 ((y.toNat:Nat):Int))=some (.int .u64 (((x &&& ~~~y).toNat:Nat):Int)):=by
 simp only[B6,E6,eB5,bB4];rw[bn7 _ (by exact(x &&& ~~~y).isLt)];rfl
theorem db5(x:W):B6 P .neq t (.int .u64 ((x.toNat:Nat):Int)) (.int .u64 0)=some (.bool (x != 0#64)):=by
 simp only[B6,E6,eB5]
 congr 2
 rw[eI4];simp only[bne_iff_ne,ne_eq];constructor
 ·intro h e;subst e;exact h rfl
 ·intro h e;apply h;apply BitVec.eq_of_toNat_eq;simpa using e
end
theorem el1{K:Fr→World→Prop}{f:Fr}{d:Option Nat}{w:World}{v:Value}{D:Prop}:aw8 (some v) K f d w D=K (A5 f d v) w:=propext eC4
def O2(ws:List W)(f:Nat):Bool:=(ws.getD (f / 64) 0#64).getLsbD (f % 64)
def cm4(ws:List W)(f:Nat):List W:=ws.set (f / 64) (ws.getD (f / 64) 0#64 ||| (1#64 <<< (f % 64)))
theorem cv0{ws:List W}{f:Nat}(hf:f / 64<ws.length)(g:Nat):O2 (cm4 ws f) g=(decide (g=f)||O2 ws g):=by
 unfold O2 cm4;by_cases hd:g / 64=f / 64
 ·have h1:(ws.set (f / 64) (ws.getD (f / 64) 0#64 ||| (1#64 <<< (f % 64)))).getD (g / 64) 0#64=ws.getD (f / 64) 0#64 ||| (1#64 <<< (f % 64)):=by
   rw[hd];simp[List.getD,hf]
  rw[h1,BitVec.getLsbD_or,hd];have h2:(1#64 <<< (f % 64):W).getLsbD (g % 64)=decide (g=f):=by
   rw[BitVec.getLsbD_shiftLeft,BitVec.getLsbD_one];rw[eI4];simp;omega
  rw[h2,Bool.or_comm]
 ·have h1:(ws.set (f / 64) (ws.getD (f / 64) 0#64 ||| (1#64 <<< (f % 64)))).getD (g / 64) 0#64=ws.getD (g / 64) 0#64:=by
   simp only[List.getD];rw[eD6 (fun e=>hd e.symm)]
  have h3:g≠f:=fun e=>hd (by rw[e]);rw[h1];simp[h3]
theorem bI1{n f:Nat}:O2 (List.replicate n 0#64) f=false:=by
 unfold O2;have:(List.replicate n (0#64:W)).getD (f / 64) 0#64=0#64:=by
  simp only[List.getD,eF5];split<;>rfl
 rw[this];simp
theorem cB1(ws:List W)(f:Nat):(cm4 ws f).length=ws.length:=by simp[cm4]
def orB(b c:List W):List W:=List.zipWith (· ||| ·) b c
def ae4(b c:List W):Bool:=(List.zipWith (fun x y=>(y &&& ~~~x:W) != 0#64) b c).any id
theorem ct9{α:Type}(g:W→W→α)(d:α)(hd:g 0#64 0#64=d){b c:List W}(hl:b.length=c.length)(i:Nat):(List.zipWith g b c).getD i d=g (b.getD i 0#64) (c.getD i 0#64):=by
 simp only[List.getD,List.getElem?_zipWith];by_cases hi:i<b.length
 ·rw[ev4 hi,ev4 (by omega)];rfl
 ·rw[eD2 (by omega),eD2 (by omega)];simp[hd]
theorem av7{b c:List W}(hl:b.length=c.length)(f:Nat):O2 (orB b c) f=(O2 b f||O2 c f):=by
 unfold O2 orB;rw[ct9 (· ||| ·) 0#64 (by simp) hl,BitVec.getLsbD_or]
theorem bu8{b c:List W}(hl:b.length=c.length):ae4 b c=true↔∃f,O2 c f=true∧O2 b f=false:=by
 unfold ae4;rw[eH6];constructor
 ·rintro⟨x,hx,hx1⟩;simp only[id]at hx1;subst hx1;obtain⟨i,hi,e⟩:=eB1.1 hx;rw[List.getElem_zipWith]at e;simp only[List.length_zipWith]at hi;have hne:(c[i]'(by omega) &&& ~~~b[i]'(by omega):W)≠0#64:=by simpa using e
  have:∃k,k<64∧(c[i]'(by omega) &&& ~~~b[i]'(by omega):W).getLsbD k=true:=by
   refine eF7 fun hno=>hne ?_;apply BitVec.eq_of_getLsbD_eq;intro k hk;have h1:¬(c[i]'(by omega) &&& ~~~b[i]'(by omega):W).getLsbD k=true:=fun h2=>hno ⟨k,hk,h2⟩;simp only[Bool.not_eq_true]at h1;rw[h1];simp
  obtain⟨k,hk,hk2⟩:=this;rw[BitVec.getLsbD_and,BitVec.getLsbD_not]at hk2;have hd1:(i*64+k) / 64=i:=by omega
  have hd2:(i*64+k) % 64=k:=by omega
  simp only[ex4,ez1,Bool.not_eq_true']at hk2;refine⟨i*64+k,?_,?_⟩
  ·unfold O2;rw[hd1,hd2];simp only[List.getD,ev4 (show i<c.length by omega),eA9];exact hk2.1
  ·unfold O2;rw[hd1,hd2];simp only[List.getD,ev4 (show i<b.length by omega),eA9];exact hk2.2.2
 ·rintro⟨f,h1,h2⟩;have hi:f / 64<c.length:=by
   refine eF7 fun hno=>?_;unfold O2 at h1;simp only[List.getD,eD2 (show c.length≤f / 64 by omega),Option.getD_none]at h1;simp at h1
  refine⟨true,?_,rfl⟩;refine eB1.2 ⟨f / 64,by simp;omega,?_⟩;rw[List.getElem_zipWith];simp only[bne_iff_ne,ne_eq];intro e;unfold O2 at h1 h2;simp only[List.getD,ev4 hi,ev4 (show f / 64<b.length by omega),eA9]at h1 h2;have:=ex3 (fun x:W=>x.getLsbD (f % 64)) e;simp only[BitVec.getLsbD_and,BitVec.getLsbD_not,h1,h2]at this;simp at this;omega
theorem bC0{b c:List W}(hl:b.length=c.length):(orB b c).length=b.length:=by simp[orB,hl]
def eC1:=@Bool.true_and
def bF2:Value→Option Bool
 | .bool b=>some b
 | _=>none
theorem eb1{b:Bool}:bF2 (.bool b)=some b:=rfl
theorem eb2:bF2 undef=none:=rfl
theorem dc1{ops:Array Oper}{f:Fr}{j:Nat}:aI3 ops f j=match cu8 ops j with|some d=>bF2 (f d)|none=>none:=by
 unfold aI3 cu8;cases(ops[j]?).bind (·.dst)with
 | none=>rfl
 | some d=>
  show(match f d with | .bool b=>some b|_=>none)=bF2 (f d);unfold bF2;cases f d<;>rfl
theorem ep8{P:Program}{ops:Array Oper}{l:List Oper}{K:Fr→World→Prop}{f:Fr}{w:World}{d:Option Nat}{op:Op}{ty:TypeId}{pos:String}{aft:Array Edge}{j:Nat}{b:Bool}:
  Rn P ops (⟨d,op,ty,pos,aft,some (j,b)⟩::l) K f w =
   if aI3 ops f j=some b then A9 P none ⟨d,op,ty,pos,aft,none⟩ (Rn P ops l K) f w else Rn P ops l K (A5 f d undef) w:=propext eC4
theorem dZ3{P:Program}{Q:Exit→Fr→World→Prop}{f:Fr}{w:World}{id:Nat}{ops:Array Oper}:CW P (.region id ops false) Q f w=Rn P ops ops.toList (Q .normal) f w:=propext eC4
theorem dZ9{P:Program}{ops:Array Oper}{K:Fr→World→Prop}{f:Fr}{w:World}:Rn P ops [] K f w=K f w:=propext eC4
theorem ed4{P:Program}{ops:Array Oper}{l:List Oper}{K:Fr→World→Prop}{f:Fr}{w:World}{d:Option Nat}{op:Op}{ty:TypeId}{pos:String}{aft:Array Edge}:
  Rn P ops (⟨d,op,ty,pos,aft,none⟩::l) K f w=A9 P none ⟨d,op,ty,pos,aft,none⟩ (Rn P ops l K) f w:=propext eC4
theorem el9{K:Fr→World→Prop}{f:Fr}{d:Option Nat}{w:World}{v:Value}:ad4 (.ok v w) K f d=K (A5 f d v) w:=propext eC4
theorem em0{K:Fr→World→Prop}{f:Fr}{d:Option Nat}{w:World}{v:Unit}:aU8 (.ok v w) K f d=K (A5 f d undef) w:=propext eC4
theorem aU5(h:Hp){α:Type}[z7 α]:R h (.slice none 0 0) ([]:List α):=⟨none,0,0,rfl,rfl,ex0 _,[],rfl,fun j u hj=>by simp at hj⟩
section
variable {P:Program} {t:TypeId}
theorem bm5(b:Array UInt8):(.string ⟨b⟩:Value)=o7 (ofA b):=by
 simp[o7,ofA]
theorem ea1{a:A4}{b:Array UInt8}:B6 P .eql t (o7 a) (.string ⟨b⟩)=some (.bool (decide (a=ofA b))):=by
 rw[bm5,bZ3]
theorem ea8{a:A4}{b:Array UInt8}:B6 P .neq t (o7 a) (.string ⟨b⟩)=some (.bool (!decide (a=ofA b))):=by
 rw[bm5,cL1]
def chr(s:A4)(i:Nat):Option UInt8:=s.b[i]?
theorem db0(l:List UInt8)(i:Nat):(⟨l.toArray⟩:ByteArray)[i]?=l[i]?:=by
 by_cases h:i<l.length
 ·rw[getElem?_pos (⟨l.toArray⟩:ByteArray) i (by show i<l.toArray.size;simpa using h),ByteArray.getElem_eq_getElem_data];simp[h]
 ·rw[getElem?_neg (⟨l.toArray⟩:ByteArray) i (by show ¬i<l.toArray.size;simpa using h)];simp[h]
theorem cX6{s:A4}{k:IntKind}{i:Nat}{c:UInt8}(h:bD1 P t=true)(ha:C3 P t=none)(hc:chr s i=some c):V5 P t (o7 s) (.int k (i:Int))=some (.int .u8 (c.toNat:Int)):=by
 have h2:(⟨s.b.toArray⟩:ByteArray)[i]?=some c:=(db0 s.b i).trans hc;simp only[V5,ha,o7,h,eC1,ex8,h2,eC0,ek1,eB5]
theorem ek2{v:Value}(he:(A7 P t).isSome=true)(hs:isS v=true):Q4 P t v=some (.int .i64 (vlen v:Nat)):=by
 simp only[Q4,he,hs,eB5]
theorem ea6{a b:Int}:B6 P .lss t (.int .i64 a) (.int .i64 b)=some (.bool (decide (a<b))):=by simp[B6,E6]
theorem ea5{a b:Int}:B6 P .leq t (.int .i64 a) (.int .i64 b)=some (.bool (decide (a≤b))):=by simp[B6,E6]
theorem ea4{a b:Int}:B6 P .gtr t (.int .i64 a) (.int .i64 b)=some (.bool (decide (b<a))):=by simp[B6,E6]
theorem ea3{a b:Int}:B6 P .geq t (.int .i64 a) (.int .i64 b)=some (.bool (decide (b≤a))):=by simp[B6,E6]
theorem ea2{a b:Int}:B6 P .eql t (.int .i64 a) (.int .i64 b)=some (.bool (decide (a=b))):=by simp[B6,E6];rfl
theorem ea9{a b:Int}:B6 P .neq t (.int .i64 a) (.int .i64 b)=some (.bool (!decide (a=b))):=by simp[B6,E6];rfl
theorem ea0{a b:Int}:B6 P .add t (.int .i64 a) (.int .i64 b)=some (.int .i64 (IntKind.i64.wrap (a+b))):=by simp[B6,E6]
theorem eb0{a b:Int}:B6 P .sub t (.int .i64 a) (.int .i64 b)=some (.int .i64 (IntKind.i64.wrap (a-b))):=by simp[B6,E6]
theorem dD2{a b:Int}:B6 P .leq t (.int .u8 a) (.int .u8 b)=some (.bool (decide (a≤b))):=by simp[B6,E6]
theorem dD1{a b:Int}:B6 P .geq t (.int .u8 a) (.int .u8 b)=some (.bool (decide (b≤a))):=by simp[B6,E6]
theorem ep6{b:Bool}:unV .not (.bool b)=some (.bool (!b)):=by simp[unV]
theorem be9{a:Option Addr}{op:BinOp}(ho:op = .eql)(h:H7 P t=2):B6 P op t (.pointer a) (.pointer none)=some (.bool a.isNone):=by
 subst ho;simp[B6,h]
end
def eI8:=@Nat.le_of_not_lt
theorem bd3{w:World}{b:Nat}(h:w.heap.size≤b):d7 w b=none:=by
 show w.heap[b]?=none;simp[h]
theorem C6{w:World}{b:Nat}(h:d7 w b=none):w.heap.size≤b:=eI8 fun hlt=>by simp[d7,hlt]at h
theorem W2{v:Value}(h:isS v=true):v.oneCell'=true:=by
 cases v<;>simp[isS]at h;rfl
theorem D9{v:Value}(h:isS v=true):v.cells=#[v]:=by
 cases v<;>simp[isS]at h;rfl
section
variable {P:Program} {h:Hp} {w:World} {t T:TypeId} {v:Value}
theorem F0{gb i:Nat}{cs:Array Value}{u:Value}(hh:w.heap[gb]?=some (.cells cs T (0,0)))(hu:cs[i]?=some u)(ht:B9 P t=false):(Instr.loadAt t (.pointer (some ⟨gb,i,none⟩))).run P w = .ok u w:=
 R5 ht (by rw[eD1 w gb i cs T (0,0) hh];exact hu)
theorem ai0{gb i:Nat}{cs:Array Value}{x:Value}(hh:w.heap[gb]?=some (.cells cs T (0,0)))(hi:i<cs.size)(hx:x.cells=#[x])(h1:x.oneCell'=true){inf:TypeInfo}(hinf:P.info? t=some inf)(hs:inf.size=1):
  ∃w',(Instr.storeAt t (.pointer (some ⟨gb,i,none⟩)) x).run P w = .ok () w'∧w'.heap[gb]?=some (.cells (cs.setIfInBounds i x) T (0,0))∧o9 (fun b=>b=gb) w w':=by
 have hcell:w.cell? ⟨gb,i,.none⟩=some cs[i]:=by rw[eD1 w gb i cs T (0,0) hh,eE5 hi]
 have hfr:w.frozen? ⟨gb,i,.none⟩=false:=frozen_of_row w gb i cs T hh;exact⟨_,aJ4 (P:=P) (t:=t) hinf hs hx h1 hcell hfr,heap_setCell_same w gb i cs T x hh,o9.setCell _ _ _ rfl⟩
theorem ap8{gb:Nat}{cur cs:Array Value}(hh:w.heap[gb]?=some (.cells cur T (0,0))){z:Value}(hz:H3 P T=some z)(hcur:cur.size=E4 P T)(hc:cs.size=E4 P T)(h1:∀u∈cs.toList,u.oneCell'=true):
  ∃w',(Instr.storeAt T (.pointer (some ⟨gb,0,none⟩)) (.agg cs)).run P w = .ok () w'∧w'.heap[gb]?=some (.cells cs T (0,0))∧o9 (fun b=>b=gb) w w':=by
 obtain⟨i,hi,hiz⟩:=t8 hz;have hst:=run_storeCells_from (P:=P) gb T cs.toList 0 cur w hh (by simp[hc,hcur]) h1;simp only[eH0,eG5,Array.toArray_toList]at hst;refine⟨_,?_,setRow_heap w gb cur cs T (0,0) hh,o9.setRow _ _ _ rfl⟩;unfold Instr.storeAt storeVar;simp only[Instr.sureAddr,ey2,ez6,ex2,sizeOf,N5,hi,Value.cells];rw[C8 hi]at hc;simp only[hc,ne_eq,not_true_eq_false,eC8];exact hst
theorem ac4{gb:Nat}{cs:Array Value}(hh:w.heap[gb]?=some (.cells cs T (0,0)))(ht:B9 P T=true)(hu:(P.underlying T).isSome=true)(hi:(P.info? T).isSome=true)(hs:E4 P T=cs.size):
  (Instr.loadAt T (.pointer (some ⟨gb,0,none⟩))).run P w = .ok (.agg cs) w:=by
 have:=bi5 (P:=P) (w:=w) (a:=⟨gb,0,none⟩) (cs:=cs.toList) ht hu hi (by simpa using hs) fun j u hj=>by
  have ha:(⟨gb,0,.none⟩:Addr).add j=⟨gb,j,.none⟩:=by unfold Addr.add;split<;>simp_all
  rw[ha,eD1 w gb j cs T (0,0) hh];simpa using hj
 simpa using this
theorem L8{fn:Func}{R:Value→World→Prop}{f:Fr}{a:Nat}{ty:TypeId}{ad:Addr}(h:fn.results=#[.cell a ty])(hf:f a = .pointer (some ad))(hl:(Instr.loadAt ty (.pointer (some ad))).run P w = .ok v w)(hR:R v w):by2 P fn R .ret f w:=by
 refine⟨[v],?_,hR⟩;rw[h];refine⟨?_,trivial⟩;show(do loadVar ty (←asAddr (f a)):Sem Value).run P w = .ok v w;rw[hf];exact hl
theorem cv3{h:Hp}{w:World}{N:Nat→Prop}(hw:B3 h (d7 w))(hN:∀b,N b→h b=none):B3 h (B4 w N):=fun b o e=>by
 have hn:¬N b:=fun hb=>by rw[hN b hb]at e;cases e
 rw[D3 hn];exact hw b o e
theorem C9{w w':World}{N:Nat→Prop}(hm:o9 N w w'):B3 (B4 w N) (d7 w'):=K7 (B7 w N) hm fun b hb=>H8 hb
theorem bI2{w w':World}{N:Nat→Prop}(hm:o9 N w w')(hN:∀b,N b→b<w.heap.size):B3 (B4 w N) (B4 w' N):=H1 hm (fun b h=>h) fun b h=>.inl h
section
variable {α:Type} [z7 α] {x:α} {N:Nat→Prop}
theorem dY6(hv:SV h v x)(hw:B3 h (B4 w N))(hN:∀b,N b→b<w.heap.size){z:Value}(hz:H3 P T=some z)(hsz:z.cells.size=E4 P T)(hs:E4 P T=z7.sz α):
  ∃a wz w',(Instr.alloc T true (.tuple #[])).run P w = .ok (.pointer (some a)) wz∧(Instr.storeAt T (.pointer (some a)) v).run P wz = .ok () w'∧o6 w w'∧At (B4 w' N) a x:=by
 obtain⟨cs,rfl,he⟩:=hv;obtain⟨h1,h2⟩:=aU2 (P:=P) (w:=w) (T:=T) hz hsz (cs:=List.toArray cs) (by simpa[hs]using z7.len he) (by simpa using z7.one he);have hx:=o6.alloc w (.cells (List.toArray cs) T);refine⟨_,_,_,h1,h2,hx,cs,z7.mono (p9 hw (bI2 (hx.weaken fun _ _ h=>h.elim) hN)) he,fun j u hj=>?_⟩;have hn:¬N w.heap.size:=fun hb=>by have:=hN _ hb;omega
 have:I7 (d7 (w.alloc (.cells (List.toArray cs) T))) ((⟨w.heap.size,0,none⟩:Addr).add j)=some u:=by
  rw[←aj5,add_lit,ez0,eH1];simpa using hj
 rw[add_lit]at this ⊢;unfold I7 at *;simp only at *;rw[D3 hn];exact this
end
end
section
variable {P:Program}
theorem D2{k:Nat}{args:List Value}{w:World}{K:Fr→World→Prop}{f:Fr}{d:Option Nat}{v:Value}(hb:ag2 P k=true)
  (h:Calls P k args.toArray w fun e w'=>∃u,e = .returned u∧(u=v∧w'=w)) (hk:K (A5 f d v) w):ar6 P k args w K f d:=
 y5 hb h fun u w' ⟨hu,hw⟩=>by rw[hu,hw];exact hk
theorem B8{k:Nat}{args:List Value}{w:World}{K:Fr→World→Prop}{f:Fr}{d:Option Nat}{v:Value}(hb:ag2 P k=true)
  (h:Calls P k args.toArray w fun e w'=>∃u,e = .returned u∧(u=v∧o6 w w')) (hk:∀w',o6 w w'→K (A5 f d v) w'):ar6 P k args w K f d:=
 y5 hb h fun u w' ⟨hu,hw⟩=>by rw[hu];exact hk w' hw
end
section
variable {P:Program} {t T:TypeId}
theorem bm1(g o:Nat):∀(vs:List Value) (i:Nat) (cur:Array Value) (w:World),w.heap[g]?=some (.cells cur T (0,0))→o+i+vs.length≤cur.size→(∀v∈vs,v.oneCell'=true) →
  ∃w',(storeCells ⟨g,o,none⟩ vs i).run P w = .ok () w'∧w'.heap[g]?=some (.cells (cur.toList.take (o+i)++vs++cur.toList.drop (o+i+vs.length)).toArray T (0,0))∧o9 (fun b=>b=g) w w'
 | [],i,cur,w,hg,hl,_=>by
  refine⟨w,rfl,?_,o9.refl _⟩;simp only[ey7,eC2,Nat.add_zero,eA6,Array.toArray_toList];exact hg
 | v::rest,i,cur,w,hg,hl,h1=>by
  simp only[ey0]at hl;have hi:o+i<cur.size:=by omega
  have hadd:(⟨g,o,none⟩:Addr).add i=⟨g,o+i,none⟩:=add_lit g o i;have hcell:w.cell? ⟨g,o+i,none⟩=some cur[o+i]:=by rw[eD1 w g (o+i) cur T (0,0) hg,eE5 hi]
  have hfro:w.frozen? ⟨g,o+i,none⟩=false:=frozen_of_row w g (o+i) cur T hg;have hst:(store ((⟨g,o,none⟩:Addr).add i) v).run P w = .ok () (w.setCell ⟨g,o+i,none⟩ v):=by
   rw[hadd,run_store P w _ v _ (h1 v (by simp)),hcell];simp[hfro]
  obtain⟨w',h2,h3,h4⟩:=bm1 g o rest (i+1) (cur.setIfInBounds (o+i) v) (w.setCell ⟨g,o+i,none⟩ v) (heap_setCell_same w g (o+i) cur T v hg) (by simp;omega) (fun x hx=>h1 x (by simp[hx]));refine⟨w',?_,?_,(o9.setCell (M:=fun b=>b=g) w ⟨g,o+i,none⟩ v rfl).trans h4⟩
  ·simp only[storeCells,ey2,hst,ex2,h2]
  ·rw[h3]
   congr 3
   have hlen:cur.toList.length=cur.size:=by simp
   simp only[Array.toList_setIfInBounds,ey0];rw[show o+(i+1)=o+i+1 by omega,List.take_set,ew3 (by omega),List.set_append_right (h:=by simp;omega)];have e1:o+i-(cur.toList.take (o+i)).length=0:=by simp;omega
   rw[e1,List.drop_set_of_lt (by omega)];simp[ey3,eF0,Nat.add_comm 1]
theorem bZ4{w:World}{gb o:Nat}{cur:Array Value}{cs:List Value}(hh:w.heap[gb]?=some (.cells cur T (0,0)))(ho:o+cs.length≤cur.size)(h1:∀u∈cs,u.oneCell'=true)(hi:(P.info? t).isSome=true)(hs:E4 P t=cs.length):
  ∃w',(Instr.storeAt t (.pointer (some ⟨gb,o,none⟩)) (.agg (List.toArray cs))).run P w = .ok () w'∧w'.heap[gb]?=some (.cells (cur.toList.take o++cs++cur.toList.drop (o+cs.length)).toArray T (0,0))∧o9 (fun b=>b=gb) w w':=by
 obtain⟨w',h2,h3,h4⟩:=bm1 (P:=P) gb o cs 0 cur w hh (by omega) h1;refine⟨w',?_,h3,h4⟩;obtain⟨i,hi'⟩:=eB3.1 hi;have hsz:i.size=cs.length:=by rw[←hs,C8 hi']
 unfold Instr.storeAt storeVar;simp only[Instr.sureAddr,ey2,ez6,ex2,sizeOf,N5,hi',Value.cells,hsz];simp only[eF1,ne_eq,not_true_eq_false,eC8];exact h2
end
def J7(k:Hp)(a:Addr)(v:Value):Prop:=∃cs,v = .agg (List.toArray cs)∧∀j u,cs[j]?=some u→I7 k (a.add j)=some u
theorem ac3{c d:List Value}(h:(Value.agg (List.toArray c)) = .agg (List.toArray d)):d=c:=by
 simp only[Value.agg.injEq]at h;have:=ex3 Array.toList h;simpa using this.symm
section
variable {α:Type} [z7 α] {h k:Hp} {v:Value} {x:α} {P:Program} {t T:TypeId} {w:World} {a:Addr} {N:Nat→Prop}
theorem J7.mono{k':Hp}(hk:B3 k k'):J7 k a v→J7 k' a v:=fun⟨cs,e,hc⟩=>⟨cs,e,fun j u hj=>G2 hk (hc j u hj)⟩
theorem aN4{es c:List Value}(hc:∀j u,es[j]?=some u→I7 k (a.add j)=some u){o:Nat}(hp:∀j u,c[j]?=some u→es[o+j]?=some u):J7 k (a.add o) (.agg (List.toArray c)):=
 ⟨c,rfl,fun j u hj=>by rw[Addr.add_add'];exact hc _ _ (hp j u hj)⟩
theorem br1{es c:List Value}(hc:∀j u,es[j]?=some u→I7 k (a.add j)=some u)(hp:∀j u,c[j]?=some u→es[0+j]?=some u):J7 k a (.agg (List.toArray c)):=by
 have:=aN4 hc hp
 rwa [K0]at this
theorem J7.whole(ha:J7 k a v)(hv:SV h v x)(ht:B9 P t=true)(hu:(P.underlying t).isSome=true)(hi:(P.info? t).isSome=true)(hs:E4 P t=z7.sz α):
  (∀w,B3 k (d7 w)→(Instr.loadAt t (.pointer (some a))).run P w = .ok v w)∧(∀(S:World→Prop) (w0:World),S w0→(∀w,S w→B3 k (d7 w))→∀K f d w,B5 P S (Instr.loadAt t (.pointer (some a))) K f d w=K (A5 f d v) w):=by
 obtain⟨cs,rfl,hc⟩:=ha;obtain⟨cs2,e,he⟩:=hv;obtain rfl:=ac3 e;have h1:∀w,B3 k (d7 w)→(Instr.loadAt t (.pointer (some a))).run P w = .ok (.agg (List.toArray cs2)) w:=fun w hw=>bi5 ht hu hi (by rw[hs,z7.len he]) fun j u hj=>G2 hw (hc j u hj);exact⟨h1,fun S w0 hS hw K f d w=>z6 hS fun w' hw'=>h1 w' (hw w' hw')⟩
theorem bZ1{w:World}{cs:List Value}(hN:∀b,N b→b<w.heap.size):J7 (B4 (w.alloc (.cells (List.toArray cs) T)) N) ⟨w.heap.size,0,none⟩ (.agg (List.toArray cs)):=by
 refine⟨cs,rfl,fun j u hj=>?_⟩;have hn:¬N w.heap.size:=fun hb=>by have:=hN _ hb;omega
 have:I7 (d7 (w.alloc (.cells (List.toArray cs) T))) ((⟨w.heap.size,0,none⟩:Addr).add j)=some u:=by
  rw[←aj5,add_lit,ez0,eH1];simpa using hj
 rw[add_lit]at this ⊢;unfold I7 at *;simp only at *;rw[D3 hn];exact this
theorem ch0(hv:SV h v x)(hN:∀b,N b→b<w.heap.size):∃a w',(Instr.box T v).run P w = .ok (.pointer (some a)) w'∧o6 w w'∧J7 (B4 w' N) a v:=by
 obtain⟨cs,rfl,he⟩:=hv;exact⟨⟨w.heap.size,0,none⟩,w.alloc (.cells (List.toArray cs) T),rfl,o6.alloc w _,bZ1 hN⟩
theorem bX9(hv:SV h v x)(hN:∀b,N b→b<w.heap.size){z:Value}(hz:H3 P T=some z)(hsz:z.cells.size=E4 P T)(hs:E4 P T=z7.sz α):
  ∃a wz w',(Instr.alloc T true (.tuple #[])).run P w = .ok (.pointer (some a)) wz∧(Instr.storeAt T (.pointer (some a)) v).run P wz = .ok () w'∧o6 w w'∧J7 (B4 w' N) a v:=by
 obtain⟨cs,rfl,he⟩:=hv;obtain⟨h1,h2⟩:=aU2 (P:=P) (w:=w) (T:=T) hz hsz (cs:=List.toArray cs) (by simpa[hs]using z7.len he) (by simpa using z7.one he);exact⟨_,_,_,h1,h2,o6.alloc w _,bZ1 hN⟩
end
theorem o9.chain{M N:Nat→Prop}{a b c:World}(h:o9 M a b)(k:o9 N b c)(hN:∀i,i<a.heap.size→N i→M i):o9 M a c:=
 ⟨k.os.trans h.os,k.tape.trans h.tape,k.output.trans h.output,ew2 h.size k.size,fun i hi hm=>(k.block i (eC6 hi h.size) fun hn=>hm (hN i hi hn)).trans (h.block i hi hm)⟩
theorem o9.up{M:Nat→Prop}{a b:World}(h:o6 a b):o9 M a b:=h.weaken fun _ _ h=>h.elim
theorem cF9:B9 prog 2=false:=by kernel_rfl
theorem aR8:E4 prog 3=1:=by kernel_rfl
theorem ay1:H3 prog 3=some (.int .i64 0):=by kernel_rfl
theorem F8:B9 prog 3=false:=by kernel_rfl
theorem aE3:E4 prog 4=1:=by kernel_rfl
theorem U0:H3 prog 4=some (.bool false):=by kernel_rfl
theorem ap7:B9 prog 4=false:=by kernel_rfl
theorem dV8:E4 prog 9=1:=by kernel_rfl
theorem dY2:H3 prog 9=some (.string ⟨#[]⟩):=by kernel_rfl
theorem S1:B9 prog 9=false:=by kernel_rfl
theorem dj2:C3 prog 9=none:=by kernel_rfl
theorem dx4:bD1 prog 9=true:=by kernel_rfl
theorem cH5:E4 prog 22=1:=by kernel_rfl
theorem bO4:H3 prog 22=some (.slice none 0 0):=by kernel_rfl
theorem M3:B9 prog 22=false:=by kernel_rfl
theorem da0:H7 prog 22=3:=by kernel_rfl
theorem bw3:B9 prog 23=false:=by kernel_rfl
theorem ce3:(prog.info? 25).isSome=true:=by kernel_rfl
theorem bw6:E4 prog 25=2:=by kernel_rfl
theorem da5:H3 prog 25=some (.agg #[.slice none 0 0,.slice none 0 0]):=by kernel_rfl
theorem ce1:B9 prog 25=true:=by kernel_rfl
theorem ce6:(prog.underlying 25).isSome=true:=by kernel_rfl
theorem cZ6:E7 prog 25=some (#[.slice none 0 0,.slice none 0 0],[(0,1),(1,1)]):=by kernel_rfl
theorem da1:E4 prog 30=1:=by kernel_rfl
theorem dX9:H3 prog 30=some (.slice none 0 0):=by kernel_rfl
theorem bw4:B9 prog 30=false:=by kernel_rfl
theorem da2:E4 prog 32=1:=by kernel_rfl
theorem dY0:H3 prog 32=some (.slice none 0 0):=by kernel_rfl
theorem cG0:B9 prog 32=false:=by kernel_rfl
theorem az5:(prog.info? 36).isSome=true:=by kernel_rfl
theorem V8:E4 prog 36=4:=by kernel_rfl
theorem bw8:H3 prog 36=some (.agg #[.string ⟨#[]⟩,.int .i64 0,.int .i64 0,.string ⟨#[]⟩]):=by kernel_rfl
theorem az4:B9 prog 36=true:=by kernel_rfl
theorem az7:(prog.underlying 36).isSome=true:=by kernel_rfl
theorem bO2:E7 prog 36=some (#[.string ⟨#[]⟩,.int .i64 0,.int .i64 0,.string ⟨#[]⟩],[(0,1),(1,1),(2,1),(3,1)]):=by kernel_rfl
theorem bN9:B9 prog 39=false:=by kernel_rfl
theorem bn1:(prog.info? 41).isSome=true:=by kernel_rfl
theorem ap0:E4 prog 41=4:=by kernel_rfl
theorem cI2:H3 prog 41=some (.agg #[.int .i64 0,.int .i64 0,.string ⟨#[]⟩,.slice none 0 0]):=by kernel_rfl
theorem bm8:B9 prog 41=true:=by kernel_rfl
theorem bn6:(prog.underlying 41).isSome=true:=by kernel_rfl
theorem ce4:E7 prog 41=some (#[.int .i64 0,.int .i64 0,.string ⟨#[]⟩,.slice none 0 0],[(0,1),(1,1),(2,1),(3,1)]):=by kernel_rfl
theorem bO0:B9 prog 42=false:=by kernel_rfl
theorem au4:B9 prog 43=false:=by kernel_rfl
theorem aR7:(prog.info? 45).isSome=true:=by kernel_rfl
theorem ah8:E4 prog 45=13:=by kernel_rfl
theorem cI3:H3 prog 45=some (.agg #[.int .i64 0,.int .i64 0,.slice none 0 0,.string ⟨#[]⟩,.string ⟨#[]⟩,.int .i64 0,.int .i64 0,.string ⟨#[]⟩,.slice none 0 0,.bool false,.slice none 0 0,.slice none 0 0,.slice none 0 0]):=by kernel_rfl
theorem bb2:B9 prog 45=true:=by kernel_rfl
theorem bb7:(prog.underlying 45).isSome=true:=by kernel_rfl
theorem bn3:E7 prog 45=some (#[.int .i64 0,.int .i64 0,.slice none 0 0,.string ⟨#[]⟩,.string ⟨#[]⟩,.int .i64 0,.int .i64 0,.string ⟨#[]⟩,.slice none 0 0,.bool false,.slice none 0 0,.slice none 0 0,.slice none 0 0],[(0,1),(1,1),(2,1),(3,1),(4,1),(5,4),(9,1),(10,1),(11,1),(12,1)]):=by kernel_rfl
theorem bO1:B9 prog 49=false:=by kernel_rfl
theorem ao9:(prog.info? 51).isSome=true:=by kernel_rfl
theorem O8:E4 prog 51=5:=by kernel_rfl
theorem cI4:H3 prog 51=some (.agg #[.string ⟨#[]⟩,.slice none 0 0,.slice none 0 0,.slice none 0 0,.slice none 0 0]):=by kernel_rfl
theorem ao8:B9 prog 51=true:=by kernel_rfl
theorem ap2:(prog.underlying 51).isSome=true:=by kernel_rfl
theorem cH1:E7 prog 51=some (#[.string ⟨#[]⟩,.slice none 0 0,.slice none 0 0,.slice none 0 0,.slice none 0 0],[(0,1),(1,1),(2,1),(3,1),(4,1)]):=by kernel_rfl
theorem bn2:(prog.info? 60).isSome=true:=by kernel_rfl
theorem az6:E4 prog 60=9:=by kernel_rfl
theorem cI5:H3 prog 60=some (.agg #[.string ⟨#[]⟩,.int .i64 0,.int .i64 0,.string ⟨#[]⟩,.string ⟨#[]⟩,.int .i64 0,.int .i64 0,.string ⟨#[]⟩,.int .i64 0]):=by kernel_rfl
theorem bw5:B9 prog 60=true:=by kernel_rfl
theorem bw7:(prog.underlying 60).isSome=true:=by kernel_rfl
theorem cZ7:E7 prog 60=some (#[.string ⟨#[]⟩,.int .i64 0,.int .i64 0,.string ⟨#[]⟩,.string ⟨#[]⟩,.int .i64 0,.int .i64 0,.string ⟨#[]⟩,.int .i64 0],[(0,4),(4,4),(8,1)]):=by kernel_rfl
theorem bb6:(prog.info? 68).isSome=true:=by kernel_rfl
theorem ap1:E4 prog 68=2:=by kernel_rfl
theorem dY1:H3 prog 68=some (.agg #[.string ⟨#[]⟩,.bool false]):=by kernel_rfl
theorem bb3:B9 prog 68=true:=by kernel_rfl
theorem bb8:(prog.underlying 68).isSome=true:=by kernel_rfl
theorem ce5:E7 prog 68=some (#[.string ⟨#[]⟩,.bool false],[(0,1),(1,1)]):=by kernel_rfl
theorem bb4:B9 prog 78=false:=by kernel_rfl
theorem bb5:B9 prog 89=false:=by kernel_rfl
theorem da3:E4 prog 90=1:=by kernel_rfl
theorem dY3:H3 prog 90=some (.slice none 0 0):=by kernel_rfl
theorem ce2:B9 prog 90=false:=by kernel_rfl
theorem da4:E4 prog 91=1:=by kernel_rfl
theorem dY4:H3 prog 91=some (.slice none 0 0):=by kernel_rfl
theorem ah7:B9 prog 91=false:=by kernel_rfl
theorem cZ8:E7 prog 93=some (#[.pointer none,.slice none 0 0,.slice none 0 0,.slice none 0 0,.slice none 0 0,.slice none 0 0],[(0,1),(1,1),(2,1),(3,1),(4,1),(5,1)]):=by kernel_rfl
theorem cG2:(prog.info? 97).isSome=true:=by kernel_rfl
theorem bO3:E4 prog 97=3:=by kernel_rfl
theorem dY5:H3 prog 97=some (.agg #[.int .i64 0,.int .i64 0,.string ⟨#[]⟩]):=by kernel_rfl
theorem cG1:B9 prog 97=true:=by kernel_rfl
theorem cH6:(prog.underlying 97).isSome=true:=by kernel_rfl
theorem cZ9:E7 prog 97=some (#[.int .i64 0,.int .i64 0,.string ⟨#[]⟩],[(0,1),(1,1),(2,1)]):=by kernel_rfl
theorem ax8:(prog.info? 101).isSome=true:=by kernel_rfl
theorem U7:E4 prog 101=6:=by kernel_rfl
theorem cH7:H3 prog 101=some (.agg #[.bool false,.string ⟨#[]⟩,.int .i64 0,.int .i64 0,.string ⟨#[]⟩,.slice none 0 0]):=by kernel_rfl
theorem ax7:B9 prog 101=true:=by kernel_rfl
theorem ax9:(prog.underlying 101).isSome=true:=by kernel_rfl
theorem bX1:E7 prog 101=some (#[.bool false,.string ⟨#[]⟩,.int .i64 0,.int .i64 0,.string ⟨#[]⟩,.slice none 0 0],[(0,1),(1,1),(2,4)]):=by kernel_rfl
theorem cF8:B9 prog 105=false:=by kernel_rfl
theorem bW9:(prog.info? 107).isSome=true:=by kernel_rfl
theorem bX3:E4 prog 107=2:=by kernel_rfl
theorem bX7:H3 prog 107=some (.agg #[.int .i64 0,.int .i64 0]):=by kernel_rfl
theorem bW7:B9 prog 107=true:=by kernel_rfl
theorem bX5:(prog.underlying 107).isSome=true:=by kernel_rfl
theorem bD5:E7 prog 107=some (#[.int .i64 0,.int .i64 0],[(0,1),(1,1)]):=by kernel_rfl
theorem cH3:E4 prog 111=1:=by kernel_rfl
theorem cH8:H3 prog 111=some (.slice none 0 0):=by kernel_rfl
theorem aM4:B9 prog 111=false:=by kernel_rfl
theorem aE2:E4 prog 112=1:=by kernel_rfl
theorem T4:H3 prog 112=some (.slice none 0 0):=by kernel_rfl
theorem P5:B9 prog 112=false:=by kernel_rfl
theorem bW6:A7 prog 112=some 3:=by kernel_rfl
theorem cH2:H7 prog 112=3:=by kernel_rfl
theorem cG3:E7 prog 114=some (#[.slice none 0 0,.slice none 0 0,.slice none 0 0,.slice none 0 0,.slice none 0 0],[(0,2),(2,1),(3,1),(4,1)]):=by kernel_rfl
theorem cG4:E7 prog 116=some (#[.pointer none,.int .i64 0,.string ⟨#[]⟩,.slice none 0 0,.slice none 0 0,.slice none 0 0,.slice none 0 0,.slice none 0 0,.slice none 0 0],[(0,1),(1,1),(2,5),(7,1),(8,1)]):=by kernel_rfl
theorem Y8:(prog.info? 121).isSome=true:=by kernel_rfl
theorem I9:E4 prog 121=17:=by kernel_rfl
theorem bX8:H3 prog 121=some (.agg #[.int .i64 0,.int .i64 0,.slice none 0 0,.string ⟨#[]⟩,.string ⟨#[]⟩,.int .i64 0,.int .i64 0,.string ⟨#[]⟩,.slice none 0 0,.bool false,.slice none 0 0,.slice none 0 0,.slice none 0 0,.int .i64 0,.int .i64 0,.int .i64 0,.int .i64 0]):=by kernel_rfl
theorem Y7:B9 prog 121=true:=by kernel_rfl
theorem Y9:(prog.underlying 121).isSome=true:=by kernel_rfl
theorem bX2:E7 prog 121=some (#[.int .i64 0,.int .i64 0,.slice none 0 0,.string ⟨#[]⟩,.string ⟨#[]⟩,.int .i64 0,.int .i64 0,.string ⟨#[]⟩,.slice none 0 0,.bool false,.slice none 0 0,.slice none 0 0,.slice none 0 0,.int .i64 0,.int .i64 0,.int .i64 0,.int .i64 0],[(0,13),(13,1),(14,1),(15,1),(16,1)]):=by kernel_rfl
theorem ar3:B9 prog 126=false:=by kernel_rfl
theorem bX0:(prog.info? 128).isSome=true:=by kernel_rfl
theorem bn4:E4 prog 128=2:=by kernel_rfl
theorem cH9:H3 prog 128=some (.agg #[.int .i64 0,.int .i64 0]):=by kernel_rfl
theorem bW8:B9 prog 128=true:=by kernel_rfl
theorem bX6:(prog.underlying 128).isSome=true:=by kernel_rfl
theorem cG5:E7 prog 128=some (#[.int .i64 0,.int .i64 0],[(0,1),(1,1)]):=by kernel_rfl
theorem bD3:B9 prog 144=false:=by kernel_rfl
theorem bD6:E4 prog 149=1:=by kernel_rfl
theorem aW1:H3 prog 149=some (.slice none 0 0):=by kernel_rfl
theorem af6:B9 prog 149=false:=by kernel_rfl
theorem cG6:E7 prog 151=some (#[.pointer none,.int .i64 0,.int .i64 0,.slice none 0 0,.slice none 0 0],[(0,1),(1,1),(2,1),(3,1),(4,1)]):=by kernel_rfl
theorem cH4:E4 prog 153=1:=by kernel_rfl
theorem cI0:H3 prog 153=some (.slice none 0 0):=by kernel_rfl
theorem S0:B9 prog 153=false:=by kernel_rfl
theorem bm9:(prog.info? 186).isSome=true:=by kernel_rfl
theorem aM6:E4 prog 186=3:=by kernel_rfl
theorem cI1:H3 prog 186=some (.agg #[.int .i64 0,.int .i64 0,.int .i64 0]):=by kernel_rfl
theorem bD4:B9 prog 186=true:=by kernel_rfl
theorem bD8:(prog.underlying 186).isSome=true:=by kernel_rfl
theorem cG7:E7 prog 186=some (#[.int .i64 0,.int .i64 0,.int .i64 0],[(0,1),(1,1),(2,1)]):=by kernel_rfl
theorem bn0:(prog.info? 189).isSome=true:=by kernel_rfl
theorem aa5:E4 prog 189=2:=by kernel_rfl
theorem aW2:H3 prog 189=some (.agg #[.slice none 0 0,.int .i64 0]):=by kernel_rfl
theorem bm7:B9 prog 189=true:=by kernel_rfl
theorem bn5:(prog.underlying 189).isSome=true:=by kernel_rfl
theorem cG8:E7 prog 189=some (#[.slice none 0 0,.int .i64 0],[(0,1),(1,1)]):=by kernel_rfl
theorem cG9:E7 prog 197=some (#[.int .i64 0],[(0,1)]):=by kernel_rfl
theorem bD7:E4 prog 220=1:=by kernel_rfl
theorem ay0:H3 prog 220=some (.int .u64 0):=by kernel_rfl
theorem af7:B9 prog 220=false:=by kernel_rfl
theorem cH0:E7 prog 234=some (#[.slice none 0 0,.slice none 0 0],[(0,1),(1,1)]):=by kernel_rfl
theorem bX4:E4 prog 275=1:=by kernel_rfl
theorem aW3:H3 prog 275=some (.slice none 0 0):=by kernel_rfl
theorem aM5:B9 prog 275=false:=by kernel_rfl
theorem hm:prog.follows .mixedOrders=true:=by kernel_rfl

theorem TY:(prog.info? 3).isSome=true∧E4 prog 3=1∧(prog.info? 4).isSome=true∧E4 prog 4=1∧(prog.info? 9).isSome=true∧E4 prog 9=1∧A7 prog 9=none∧bD1 prog 9=true∧(prog.info? 22).isSome=true∧E4 prog 22=1∧A7 prog 22=some 9∧A7 prog 23=some 51∧v8 prog 25 0=some (0,22)∧v8 prog 25 1=some (1,23)∧A7 prog 30=some 36∧A7 prog 32=some 60∧(prog.info? 36).isSome=true∧E4 prog 36=4∧v8 prog 36 0=some (0,9)∧v8 prog 36 1=some (1,3)∧v8 prog 36 2=some (2,3)∧v8 prog 36 3=some (3,9)∧A7 prog 39=some 41∧(prog.info? 41).isSome=true∧E4 prog 41=4∧v8 prog 41 0=some (0,3)∧v8 prog 41 1=some (1,2)∧v8 prog 41 2=some (2,9)∧v8 prog 41 3=some (3,39)∧A7 prog 42=some 101∧A7 prog 43=some 45∧(prog.info? 45).isSome=true∧E4 prog 45=13∧v8 prog 45 0=some (0,3)∧v8 prog 45 1=some (1,3)∧v8 prog 45 2=some (2,22)∧v8 prog 45 3=some (3,9)∧v8 prog 45 4=some (4,9)∧v8 prog 45 5=some (5,41)∧v8 prog 45 6=some (9,4)∧v8 prog 45 7=some (10,42)∧v8 prog 45 8=some (11,43)∧v8 prog 45 9=some (12,43)∧A7 prog 49=some 68∧(prog.info? 51).isSome=true∧E4 prog 51=5∧v8 prog 51 0=some (0,9)∧v8 prog 51 1=some (1,49)∧v8 prog 51 2=some (2,22)∧v8 prog 51 3=some (3,43)∧v8 prog 51 4=some (4,22)∧(prog.info? 60).isSome=true∧E4 prog 60=9∧v8 prog 60 0=some (0,36)∧v8 prog 60 1=some (4,36)∧v8 prog 60 2=some (8,3)∧(prog.info? 68).isSome=true∧E4 prog 68=2∧v8 prog 68 0=some (0,9)∧v8 prog 68 1=some (1,4)∧A7 prog 90=some 126∧A7 prog 91=some 22∧v8 prog 93 0=some (0,89)∧v8 prog 93 1=some (1,90)∧v8 prog 93 2=some (2,91)∧v8 prog 93 3=some (3,91)∧v8 prog 93 4=some (4,91)∧v8 prog 93 5=some (5,91)∧A7 prog 95=some 97∧(prog.info? 97).isSome=true∧E4 prog 97=3∧v8 prog 97 0=some (0,3)∧v8 prog 97 1=some (1,3)∧v8 prog 97 2=some (2,9)∧(prog.info? 101).isSome=true∧E4 prog 101=6∧v8 prog 101 0=some (0,4)∧v8 prog 101 1=some (1,9)∧v8 prog 101 2=some (2,41)∧v8 prog 107 0=some (0,105)∧A7 prog 111=some 121∧(prog.info? 112).isSome=true∧E4 prog 112=1∧A7 prog 112=some 3∧v8 prog 114 0=some (0,25)∧v8 prog 114 1=some (2,111)∧v8 prog 114 2=some (3,112)∧v8 prog 114 3=some (4,112)∧v8 prog 116 0=some (0,78)∧v8 prog 116 2=some (2,51)∧v8 prog 116 3=some (7,30)∧v8 prog 116 4=some (8,32)∧(prog.info? 121).isSome=true∧E4 prog 121=17∧v8 prog 121 0=some (0,45)∧v8 prog 121 1=some (13,3)∧v8 prog 121 3=some (15,3)∧v8 prog 121 4=some (16,3)∧A7 prog 125=some 128∧(prog.info? 126).isSome=true∧E4 prog 126=1∧(prog.info? 128).isSome=true∧E4 prog 128=2∧A7 prog 128=none∧C3 prog 128=some (2,3)∧A7 prog 144=some 186∧(prog.info? 149).isSome=true∧E4 prog 149=1∧A7 prog 149=some 4∧v8 prog 151 0=some (0,89)∧v8 prog 151 1=some (1,3)∧v8 prog 151 2=some (2,3)∧v8 prog 151 3=some (3,144)∧v8 prog 151 4=some (4,149)∧A7 prog 153=some 112∧A7 prog 166=some 149∧H7 prog 177=2∧(prog.info? 186).isSome=true∧E4 prog 186=3∧v8 prog 186 0=some (0,3)∧v8 prog 186 1=some (1,3)∧v8 prog 186 2=some (2,3)∧v8 prog 189 0=some (0,153)∧v8 prog 189 1=some (1,3)∧v8 prog 197 0=some (0,3)∧(prog.info? 220).isSome=true∧E4 prog 220=1∧v8 prog 234 0=some (0,153)∧v8 prog 234 1=some (1,153)∧A7 prog 243=some 275∧(prog.info? 275).isSome=true∧E4 prog 275=1∧A7 prog 275=some 220:=⟨by kernel_rfl,aR8,by kernel_rfl,aE3,by kernel_rfl,dV8,by kernel_rfl,dx4,by kernel_rfl,cH5,by kernel_rfl,by kernel_rfl,by kernel_rfl,by kernel_rfl,by kernel_rfl,by kernel_rfl,az5,V8,by kernel_rfl,by kernel_rfl,by kernel_rfl,by kernel_rfl,by kernel_rfl,bn1,ap0,by kernel_rfl,by kernel_rfl,by kernel_rfl,by kernel_rfl,by kernel_rfl,by kernel_rfl,aR7,ah8,by kernel_rfl,by kernel_rfl,by kernel_rfl,by kernel_rfl,by kernel_rfl,by kernel_rfl,by kernel_rfl,by kernel_rfl,by kernel_rfl,by kernel_rfl,by kernel_rfl,ao9,O8,by kernel_rfl,by kernel_rfl,by kernel_rfl,by kernel_rfl,by kernel_rfl,bn2,az6,by kernel_rfl,by kernel_rfl,by kernel_rfl,bb6,ap1,by kernel_rfl,by kernel_rfl,by kernel_rfl,by kernel_rfl,by kernel_rfl,by kernel_rfl,by kernel_rfl,by kernel_rfl,by kernel_rfl,by kernel_rfl,by kernel_rfl,cG2,bO3,by kernel_rfl,by kernel_rfl,by kernel_rfl,ax8,U7,by kernel_rfl,by kernel_rfl,by kernel_rfl,by kernel_rfl,by kernel_rfl,by kernel_rfl,aE2,bW6,by kernel_rfl,by kernel_rfl,by kernel_rfl,by kernel_rfl,by kernel_rfl,by kernel_rfl,by kernel_rfl,by kernel_rfl,Y8,I9,by kernel_rfl,by kernel_rfl,by kernel_rfl,by kernel_rfl,by kernel_rfl,by kernel_rfl,by kernel_rfl,bX0,bn4,by kernel_rfl,by kernel_rfl,by kernel_rfl,by kernel_rfl,bD6,by kernel_rfl,by kernel_rfl,by kernel_rfl,by kernel_rfl,by kernel_rfl,by kernel_rfl,by kernel_rfl,by kernel_rfl,by kernel_rfl,bm9,aM6,by kernel_rfl,by kernel_rfl,by kernel_rfl,by kernel_rfl,by kernel_rfl,by kernel_rfl,by kernel_rfl,bD7,by kernel_rfl,by kernel_rfl,by kernel_rfl,by kernel_rfl,bX4,by kernel_rfl⟩
theorem dG3{l:List Value}(h:l.length=2):∃a b,l=[a,b]:=by
 match l,h with
 | [a,b],_=>exact⟨a,b,rfl⟩
theorem aZ3{l:List Value}(h:l.length=4):∃a b c d,l=[a,b,c,d]:=by
 match l,h with
 | [a,b,c,d],_=>exact⟨a,b,c,d,rfl⟩
theorem bi7{l:List Value}(h:l.length=13):∃a b c d e f g i j k m n o,l=[a,b,c,d,e,f,g,i,j,k,m,n,o]:=by
 match l,h with
 | [a,b,c,d,e,f,g,i,j,k,m,n,o],_=>exact⟨a,b,c,d,e,f,g,i,j,k,m,n,o,rfl⟩
theorem cM8{h:Hp}{cs:List Value}{x:Pa}:z7.enc h cs x→cs=([o7 x.name]:List Value)++([.bool x.ref]:List Value):=by
 intro he;exact he
theorem At.pa{h:Hp}{a:Addr}{x:Pa}(ha:At h a x):(∀w,B3 h (d7 w)→(Instr.loadAt 9 (.pointer (some a))).run prog w = .ok (o7 x.name) w∧(Instr.loadAt 4 (.pointer (some (a.add 1)))).run prog w = .ok (.bool x.ref) w)∧(∀(S:World→Prop) (w0:World),S w0→(∀w,S w→B3 h (d7 w))→(∀K f d w,B5 prog S (Instr.loadAt 9 (.pointer (some a))) K f d w=K (A5 f d (o7 x.name)) w)∧(∀K f d w,B5 prog S (Instr.loadAt 4 (.pointer (some (a.add 1)))) K f d w=K (A5 f d (.bool x.ref)) w)):=by
 obtain⟨cs,he,hc⟩:=ha;obtain rfl:=cM8 he;exact⟨fun w hw=>⟨D8 hc rfl S1 w hw,p8 hc (o:=1) rfl ap7 w hw⟩,fun S w0 hS hw=>⟨fun K f d w=>z6 hS fun w' hw'=>D8 hc rfl S1 w' (hw w' hw'),fun K f d w=>z6 hS fun w' hw'=>p8 hc (o:=1) rfl ap7 w' (hw w' hw')⟩⟩
theorem At.pa_v{h:Hp}{a:Addr}{x:Pa}(ha:At h a x):∃sv,SV h sv x∧(∀w,B3 h (d7 w)→(Instr.loadAt 68 (.pointer (some a))).run prog w = .ok sv w)∧(∀(S:World→Prop) (w0:World),S w0→(∀w,S w→B3 h (d7 w))→∀K f d w,B5 prog S (Instr.loadAt 68 (.pointer (some a))) K f d w=K (A5 f d sv) w):=ha.sv2 bb3 bb8 bb6 ap1
theorem bZ6{h:Hp}{v:Value}{x:Pa}{w:World}(hv:SV h v x)(hw:B3 h (d7 w)):∃a w',(Instr.box 68 v).run prog w = .ok (.pointer (some a)) w'∧o6 w w'∧At (d7 w') a x:=by6 hv hw
theorem aH6{h:Hp}{v:Value}{x:Pa}{w:World}(hv:SV h v x)(hw:B3 h (d7 w)):∃a wz w',(Instr.alloc 68 true (.tuple #[])).run prog w = .ok (.pointer (some a)) wz∧(Instr.storeAt 68 (.pointer (some a)) v).run prog wz = .ok () w'∧o6 w w'∧At (d7 w') a x:=bn8 hv hw dY1 rfl ap1
theorem cN0{h:Hp}{cs:List Value}{x:Sp}:z7.enc h cs x→cs=([.int .i64 x.src]:List Value)++([.int .i64 x.dst]:List Value)++([.int .i64 x.kind]:List Value):=by
 intro he;exact he
theorem At.sp{h:Hp}{a:Addr}{x:Sp}(ha:At h a x):(∀w,B3 h (d7 w)→(Instr.loadAt 3 (.pointer (some a))).run prog w = .ok (.int .i64 x.src) w∧(Instr.loadAt 3 (.pointer (some (a.add 1)))).run prog w = .ok (.int .i64 x.dst) w∧(Instr.loadAt 3 (.pointer (some (a.add 2)))).run prog w = .ok (.int .i64 x.kind) w)∧(∀(S:World→Prop) (w0:World),S w0→(∀w,S w→B3 h (d7 w))→(∀K f d w,B5 prog S (Instr.loadAt 3 (.pointer (some a))) K f d w=K (A5 f d (.int .i64 x.src)) w)∧(∀K f d w,B5 prog S (Instr.loadAt 3 (.pointer (some (a.add 1)))) K f d w=K (A5 f d (.int .i64 x.dst)) w)∧(∀K f d w,B5 prog S (Instr.loadAt 3 (.pointer (some (a.add 2)))) K f d w=K (A5 f d (.int .i64 x.kind)) w)):=by
 obtain⟨cs,he,hc⟩:=ha;obtain rfl:=cN0 he;exact⟨fun w hw=>⟨D8 hc rfl F8 w hw,p8 hc (o:=1) rfl F8 w hw,p8 hc (o:=2) rfl F8 w hw⟩,fun S w0 hS hw=>⟨fun K f d w=>z6 hS fun w' hw'=>D8 hc rfl F8 w' (hw w' hw'),fun K f d w=>z6 hS fun w' hw'=>p8 hc (o:=1) rfl F8 w' (hw w' hw'),fun K f d w=>z6 hS fun w' hw'=>p8 hc (o:=2) rfl F8 w' (hw w' hw')⟩⟩
theorem At.sp_v{h:Hp}{a:Addr}{x:Sp}(ha:At h a x):∃sv,SV h sv x∧(∀w,B3 h (d7 w)→(Instr.loadAt 186 (.pointer (some a))).run prog w = .ok sv w)∧(∀(S:World→Prop) (w0:World),S w0→(∀w,S w→B3 h (d7 w))→∀K f d w,B5 prog S (Instr.loadAt 186 (.pointer (some a))) K f d w=K (A5 f d sv) w):=ha.sv2 bD4 bD8 bm9 aM6
theorem bZ7{h:Hp}{v:Value}{x:Sp}{w:World}(hv:SV h v x)(hw:B3 h (d7 w)):∃a w',(Instr.box 186 v).run prog w = .ok (.pointer (some a)) w'∧o6 w w'∧At (d7 w') a x:=by6 hv hw
theorem cV3{h:Hp}{v:Value}{x:Sp}{w:World}(hv:SV h v x)(hw:B3 h (d7 w)):∃a wz w',(Instr.alloc 186 true (.tuple #[])).run prog w = .ok (.pointer (some a)) wz∧(Instr.storeAt 186 (.pointer (some a)) v).run prog wz = .ok () w'∧o6 w w'∧At (d7 w') a x:=bn8 hv hw cI1 rfl aM6
theorem cM7{h:Hp}{cs:List Value}{x:Fw}:z7.enc h cs x→cs=([.int .i64 x.src]:List Value)++([.int .i64 x.dst]:List Value)++([o7 x.var]:List Value):=by
 intro he;exact he
theorem At.fw{h:Hp}{a:Addr}{x:Fw}(ha:At h a x):(∀w,B3 h (d7 w)→(Instr.loadAt 3 (.pointer (some a))).run prog w = .ok (.int .i64 x.src) w∧(Instr.loadAt 3 (.pointer (some (a.add 1)))).run prog w = .ok (.int .i64 x.dst) w∧(Instr.loadAt 9 (.pointer (some (a.add 2)))).run prog w = .ok (o7 x.var) w)∧(∀(S:World→Prop) (w0:World),S w0→(∀w,S w→B3 h (d7 w))→(∀K f d w,B5 prog S (Instr.loadAt 3 (.pointer (some a))) K f d w=K (A5 f d (.int .i64 x.src)) w)∧(∀K f d w,B5 prog S (Instr.loadAt 3 (.pointer (some (a.add 1)))) K f d w=K (A5 f d (.int .i64 x.dst)) w)∧(∀K f d w,B5 prog S (Instr.loadAt 9 (.pointer (some (a.add 2)))) K f d w=K (A5 f d (o7 x.var)) w)):=by
 obtain⟨cs,he,hc⟩:=ha;obtain rfl:=cM7 he;exact⟨fun w hw=>⟨D8 hc rfl F8 w hw,p8 hc (o:=1) rfl F8 w hw,p8 hc (o:=2) rfl S1 w hw⟩,fun S w0 hS hw=>⟨fun K f d w=>z6 hS fun w' hw'=>D8 hc rfl F8 w' (hw w' hw'),fun K f d w=>z6 hS fun w' hw'=>p8 hc (o:=1) rfl F8 w' (hw w' hw'),fun K f d w=>z6 hS fun w' hw'=>p8 hc (o:=2) rfl S1 w' (hw w' hw')⟩⟩
theorem cV1{h:Hp}{v:Value}{x:Fw}{w:World}(hv:SV h v x)(hw:B3 h (d7 w)):∃a wz w',(Instr.alloc 97 true (.tuple #[])).run prog w = .ok (.pointer (some a)) wz∧(Instr.storeAt 97 (.pointer (some a)) v).run prog wz = .ok () w'∧o6 w w'∧At (d7 w') a x:=bn8 hv hw dY5 rfl bO3
theorem ca9{h:Hp}{cs:List Value}{x:Vx}:z7.enc h cs x→cs=([o7 x.proc]:List Value)++([.int .i64 x.kind]:List Value)++([.int .i64 x.id]:List Value)++([o7 x.slot]:List Value):=by
 intro he;exact he
theorem At.vx{h:Hp}{a:Addr}{x:Vx}(ha:At h a x):(∀w,B3 h (d7 w)→(Instr.loadAt 9 (.pointer (some a))).run prog w = .ok (o7 x.proc) w∧(Instr.loadAt 3 (.pointer (some (a.add 1)))).run prog w = .ok (.int .i64 x.kind) w∧(Instr.loadAt 3 (.pointer (some (a.add 2)))).run prog w = .ok (.int .i64 x.id) w∧(Instr.loadAt 9 (.pointer (some (a.add 3)))).run prog w = .ok (o7 x.slot) w)∧(∀(S:World→Prop) (w0:World),S w0→(∀w,S w→B3 h (d7 w))→(∀K f d w,B5 prog S (Instr.loadAt 9 (.pointer (some a))) K f d w=K (A5 f d (o7 x.proc)) w)∧(∀K f d w,B5 prog S (Instr.loadAt 3 (.pointer (some (a.add 1)))) K f d w=K (A5 f d (.int .i64 x.kind)) w)∧(∀K f d w,B5 prog S (Instr.loadAt 3 (.pointer (some (a.add 2)))) K f d w=K (A5 f d (.int .i64 x.id)) w)∧(∀K f d w,B5 prog S (Instr.loadAt 9 (.pointer (some (a.add 3)))) K f d w=K (A5 f d (o7 x.slot)) w)):=by
 obtain⟨cs,he,hc⟩:=ha;obtain rfl:=ca9 he;exact⟨fun w hw=>⟨D8 hc rfl S1 w hw,p8 hc (o:=1) rfl F8 w hw,p8 hc (o:=2) rfl F8 w hw,p8 hc (o:=3) rfl S1 w hw⟩,fun S w0 hS hw=>⟨fun K f d w=>z6 hS fun w' hw'=>D8 hc rfl S1 w' (hw w' hw'),fun K f d w=>z6 hS fun w' hw'=>p8 hc (o:=1) rfl F8 w' (hw w' hw'),fun K f d w=>z6 hS fun w' hw'=>p8 hc (o:=2) rfl F8 w' (hw w' hw'),fun K f d w=>z6 hS fun w' hw'=>p8 hc (o:=3) rfl S1 w' (hw w' hw')⟩⟩
theorem J7.vx{h k:Hp}{a:Addr}{v:Value}{x:Vx}(hv:SV h v x)(ha:J7 k a v):(∀w,B3 k (d7 w)→(Instr.loadAt 9 (.pointer (some a))).run prog w = .ok (o7 x.proc) w∧(Instr.loadAt 3 (.pointer (some (a.add 1)))).run prog w = .ok (.int .i64 x.kind) w∧(Instr.loadAt 3 (.pointer (some (a.add 2)))).run prog w = .ok (.int .i64 x.id) w∧(Instr.loadAt 9 (.pointer (some (a.add 3)))).run prog w = .ok (o7 x.slot) w)∧(∀(S:World→Prop) (w0:World),S w0→(∀w,S w→B3 k (d7 w))→(∀K f d w,B5 prog S (Instr.loadAt 9 (.pointer (some a))) K f d w=K (A5 f d (o7 x.proc)) w)∧(∀K f d w,B5 prog S (Instr.loadAt 3 (.pointer (some (a.add 1)))) K f d w=K (A5 f d (.int .i64 x.kind)) w)∧(∀K f d w,B5 prog S (Instr.loadAt 3 (.pointer (some (a.add 2)))) K f d w=K (A5 f d (.int .i64 x.id)) w)∧(∀K f d w,B5 prog S (Instr.loadAt 9 (.pointer (some (a.add 3)))) K f d w=K (A5 f d (o7 x.slot)) w)):=by
 obtain⟨cs,rfl,he⟩:=hv;obtain⟨cs2,e2,hc⟩:=ha;obtain rfl:=ac3 e2;obtain rfl:=ca9 he;exact⟨fun w hw=>⟨D8 hc rfl S1 w hw,p8 hc (o:=1) rfl F8 w hw,p8 hc (o:=2) rfl F8 w hw,p8 hc (o:=3) rfl S1 w hw⟩,fun S w0 hS hw=>⟨fun K f d w=>z6 hS fun w' hw'=>D8 hc rfl S1 w' (hw w' hw'),fun K f d w=>z6 hS fun w' hw'=>p8 hc (o:=1) rfl F8 w' (hw w' hw'),fun K f d w=>z6 hS fun w' hw'=>p8 hc (o:=2) rfl F8 w' (hw w' hw'),fun K f d w=>z6 hS fun w' hw'=>p8 hc (o:=3) rfl S1 w' (hw w' hw')⟩⟩
theorem J7.vx_v{h k:Hp}{a:Addr}{v:Value}{x:Vx}(hv:SV h v x)(ha:J7 k a v):(∀w,B3 k (d7 w)→(Instr.loadAt 36 (.pointer (some a))).run prog w = .ok v w)∧(∀(S:World→Prop) (w0:World),S w0→(∀w,S w→B3 k (d7 w))→∀K f d w,B5 prog S (Instr.loadAt 36 (.pointer (some a))) K f d w=K (A5 f d v) w):=ha.whole hv az4 az7 az5 V8
theorem bZ9{h:Hp}{v:Value}{x:Vx}{w:World}(N:Nat→Prop)(hv:SV h v x)(hN:∀b,N b→b<w.heap.size):∃a w',(Instr.box 36 v).run prog w = .ok (.pointer (some a)) w'∧o6 w w'∧J7 (B4 w' N) a v:=ch0 hv hN
theorem bD9{h:Hp}{v:Value}{x:Vx}{w:World}(N:Nat→Prop)(hv:SV h v x)(hN:∀b,N b→b<w.heap.size):∃a wz w',(Instr.alloc 36 true (.tuple #[])).run prog w = .ok (.pointer (some a)) wz∧(Instr.storeAt 36 (.pointer (some a)) v).run prog wz = .ok () w'∧o6 w w'∧J7 (B4 w' N) a v:=bX9 hv hN bw8 rfl V8
theorem At.vx_v{h:Hp}{a:Addr}{x:Vx}(ha:At h a x):∃sv,SV h sv x∧(∀w,B3 h (d7 w)→(Instr.loadAt 36 (.pointer (some a))).run prog w = .ok sv w)∧(∀(S:World→Prop) (w0:World),S w0→(∀w,S w→B3 h (d7 w))→∀K f d w,B5 prog S (Instr.loadAt 36 (.pointer (some a))) K f d w=K (A5 f d sv) w):=ha.sv2 az4 az7 az5 V8
theorem aF2{h:Hp}{v:Value}{x:Vx}{w:World}(hv:SV h v x)(hw:B3 h (d7 w)):∃a w',(Instr.box 36 v).run prog w = .ok (.pointer (some a)) w'∧o6 w w'∧At (d7 w') a x:=by6 hv hw
theorem ce9{h:Hp}{v:Value}{x:Vx}{w:World}(hv:SV h v x)(hw:B3 h (d7 w)):∃a wz w',(Instr.alloc 36 true (.tuple #[])).run prog w = .ok (.pointer (some a)) wz∧(Instr.storeAt 36 (.pointer (some a)) v).run prog wz = .ok () w'∧o6 w w'∧At (d7 w') a x:=bn8 hv hw bw8 rfl V8
theorem ca5{h:Hp}{cs:List Value}{x:Eg}:z7.enc h cs x→∃c_src c_dst,cs=c_src++c_dst++([.int .i64 x.kind]:List Value)∧z7.enc h c_src x.src∧z7.enc h c_dst x.dst:=by
 intro he;exact⟨x.src.cells,x.dst.cells,he,rfl,rfl⟩
theorem At.eg{h:Hp}{a:Addr}{x:Eg}(ha:At h a x):At h a x.src∧At h (a.add 4) x.dst∧(∀w,B3 h (d7 w)→(Instr.loadAt 3 (.pointer (some (a.add 8)))).run prog w = .ok (.int .i64 x.kind) w)∧(∀(S:World→Prop) (w0:World),S w0→(∀w,S w→B3 h (d7 w))→(∀K f d w,B5 prog S (Instr.loadAt 3 (.pointer (some (a.add 8)))) K f d w=K (A5 f d (.int .i64 x.kind)) w)):=by
 obtain⟨cs,he,hc⟩:=ha;obtain⟨c_src,c_dst,rfl,h_src,h_dst⟩:=ca5 he;obtain⟨a_src0,a_src1,a_src2,a_src3,rfl⟩:=aZ3 (z7.len h_src);obtain⟨a_dst0,a_dst1,a_dst2,a_dst3,rfl⟩:=aZ3 (z7.len h_dst);exact⟨be8 hc h_src (fun j u hj=>by
  match j,hj with
  | 0,hj=>exact hj
  | 1,hj=>exact hj
  | 2,hj=>exact hj
  | 3,hj=>exact hj
  | m+4,hj=>simp at hj),bc7 hc h_dst (fun j u hj=>by
  match j,hj with
  | 0,hj=>exact hj
  | 1,hj=>exact hj
  | 2,hj=>exact hj
  | 3,hj=>exact hj
  | m+4,hj=>simp at hj),fun w hw=>p8 hc (o:=8) rfl F8 w hw,fun S w0 hS hw=>fun K f d w=>z6 hS fun w' hw'=>p8 hc (o:=8) rfl F8 w' (hw w' hw')⟩
theorem J7.eg{h k:Hp}{a:Addr}{v:Value}{x:Eg}(hv:SV h v x)(ha:J7 k a v):∃u_src u_dst,SV h u_src x.src∧J7 k a u_src∧SV h u_dst x.dst∧J7 k (a.add 4) u_dst∧(∀w,B3 k (d7 w)→(Instr.loadAt 3 (.pointer (some (a.add 8)))).run prog w = .ok (.int .i64 x.kind) w)∧(∀(S:World→Prop) (w0:World),S w0→(∀w,S w→B3 k (d7 w))→(∀K f d w,B5 prog S (Instr.loadAt 3 (.pointer (some (a.add 8)))) K f d w=K (A5 f d (.int .i64 x.kind)) w)):=by
 obtain⟨cs,rfl,he⟩:=hv;obtain⟨cs2,e2,hc⟩:=ha;obtain rfl:=ac3 e2;obtain⟨c_src,c_dst,rfl,h_src,h_dst⟩:=ca5 he;obtain⟨a_src0,a_src1,a_src2,a_src3,rfl⟩:=aZ3 (z7.len h_src);obtain⟨a_dst0,a_dst1,a_dst2,a_dst3,rfl⟩:=aZ3 (z7.len h_dst);exact⟨_,_,⟨_,rfl,h_src⟩,br1 hc (fun j u hj=>by
  match j,hj with
  | 0,hj=>exact hj
  | 1,hj=>exact hj
  | 2,hj=>exact hj
  | 3,hj=>exact hj
  | m+4,hj=>simp at hj),⟨_,rfl,h_dst⟩,aN4 hc (fun j u hj=>by
  match j,hj with
  | 0,hj=>exact hj
  | 1,hj=>exact hj
  | 2,hj=>exact hj
  | 3,hj=>exact hj
  | m+4,hj=>simp at hj),fun w hw=>p8 hc (o:=8) rfl F8 w hw,fun S w0 hS hw=>fun K f d w=>z6 hS fun w' hw'=>p8 hc (o:=8) rfl F8 w' (hw w' hw')⟩
theorem cV4{h:Hp}{v:Value}{x:Eg}{w:World}(N:Nat→Prop)(hv:SV h v x)(hN:∀b,N b→b<w.heap.size):∃a wz w',(Instr.alloc 60 true (.tuple #[])).run prog w = .ok (.pointer (some a)) wz∧(Instr.storeAt 60 (.pointer (some a)) v).run prog wz = .ok () w'∧o6 w w'∧J7 (B4 w' N) a v:=bX9 hv hN cI5 rfl az6
theorem At.eg_v{h:Hp}{a:Addr}{x:Eg}(ha:At h a x):∃sv,SV h sv x∧(∀w,B3 h (d7 w)→(Instr.loadAt 60 (.pointer (some a))).run prog w = .ok sv w)∧(∀(S:World→Prop) (w0:World),S w0→(∀w,S w→B3 h (d7 w))→∀K f d w,B5 prog S (Instr.loadAt 60 (.pointer (some a))) K f d w=K (A5 f d sv) w):=ha.sv2 bw5 bw7 bn2 az6
theorem ce8{h:Hp}{v:Value}{x:Eg}{w:World}(hv:SV h v x)(hw:B3 h (d7 w)):∃a wz w',(Instr.alloc 60 true (.tuple #[])).run prog w = .ok (.pointer (some a)) wz∧(Instr.storeAt 60 (.pointer (some a)) v).run prog wz = .ok () w'∧o6 w w'∧At (d7 w') a x:=bn8 hv hw cI5 rfl az6
theorem ca6{h:Hp}{cs:List Value}{x:Ex}:z7.enc h cs x→∃v_kids,cs=([.int .i64 x.op]:List Value)++([.int .i64 x.n]:List Value)++([o7 x.name]:List Value)++([v_kids]:List Value)∧R h v_kids x.kids:=by
 intro he;obtain⟨vk,rfl,h1⟩:=bz6.1 he;exact⟨vk,rfl,h1⟩
theorem At.ex{h:Hp}{a:Addr}{x:Ex}(ha:At h a x):∃v_kids,R h v_kids x.kids∧(∀w,B3 h (d7 w)→(Instr.loadAt 3 (.pointer (some a))).run prog w = .ok (.int .i64 x.op) w∧(Instr.loadAt 2 (.pointer (some (a.add 1)))).run prog w = .ok (.int .i64 x.n) w∧(Instr.loadAt 9 (.pointer (some (a.add 2)))).run prog w = .ok (o7 x.name) w∧(Instr.loadAt 39 (.pointer (some (a.add 3)))).run prog w = .ok (v_kids) w)∧(∀(S:World→Prop) (w0:World),S w0→(∀w,S w→B3 h (d7 w))→(∀K f d w,B5 prog S (Instr.loadAt 3 (.pointer (some a))) K f d w=K (A5 f d (.int .i64 x.op)) w)∧(∀K f d w,B5 prog S (Instr.loadAt 2 (.pointer (some (a.add 1)))) K f d w=K (A5 f d (.int .i64 x.n)) w)∧(∀K f d w,B5 prog S (Instr.loadAt 9 (.pointer (some (a.add 2)))) K f d w=K (A5 f d (o7 x.name)) w)∧(∀K f d w,B5 prog S (Instr.loadAt 39 (.pointer (some (a.add 3)))) K f d w=K (A5 f d (v_kids)) w)):=by
 obtain⟨cs,he,hc⟩:=ha;obtain⟨v_kids,rfl,h_kids⟩:=ca6 he;exact⟨_,h_kids,fun w hw=>⟨D8 hc rfl F8 w hw,p8 hc (o:=1) rfl cF9 w hw,p8 hc (o:=2) rfl S1 w hw,p8 hc (o:=3) rfl bN9 w hw⟩,fun S w0 hS hw=>⟨fun K f d w=>z6 hS fun w' hw'=>D8 hc rfl F8 w' (hw w' hw'),fun K f d w=>z6 hS fun w' hw'=>p8 hc (o:=1) rfl cF9 w' (hw w' hw'),fun K f d w=>z6 hS fun w' hw'=>p8 hc (o:=2) rfl S1 w' (hw w' hw'),fun K f d w=>z6 hS fun w' hw'=>p8 hc (o:=3) rfl bN9 w' (hw w' hw')⟩⟩
theorem J7.ex{h k:Hp}{a:Addr}{v:Value}{x:Ex}(hv:SV h v x)(ha:J7 k a v):∃v_kids,R h v_kids x.kids∧(∀w,B3 k (d7 w)→(Instr.loadAt 3 (.pointer (some a))).run prog w = .ok (.int .i64 x.op) w∧(Instr.loadAt 2 (.pointer (some (a.add 1)))).run prog w = .ok (.int .i64 x.n) w∧(Instr.loadAt 9 (.pointer (some (a.add 2)))).run prog w = .ok (o7 x.name) w∧(Instr.loadAt 39 (.pointer (some (a.add 3)))).run prog w = .ok (v_kids) w)∧(∀(S:World→Prop) (w0:World),S w0→(∀w,S w→B3 k (d7 w))→(∀K f d w,B5 prog S (Instr.loadAt 3 (.pointer (some a))) K f d w=K (A5 f d (.int .i64 x.op)) w)∧(∀K f d w,B5 prog S (Instr.loadAt 2 (.pointer (some (a.add 1)))) K f d w=K (A5 f d (.int .i64 x.n)) w)∧(∀K f d w,B5 prog S (Instr.loadAt 9 (.pointer (some (a.add 2)))) K f d w=K (A5 f d (o7 x.name)) w)∧(∀K f d w,B5 prog S (Instr.loadAt 39 (.pointer (some (a.add 3)))) K f d w=K (A5 f d (v_kids)) w)):=by
 obtain⟨cs,rfl,he⟩:=hv;obtain⟨cs2,e2,hc⟩:=ha;obtain rfl:=ac3 e2;obtain⟨v_kids,rfl,h_kids⟩:=ca6 he;exact⟨_,h_kids,fun w hw=>⟨D8 hc rfl F8 w hw,p8 hc (o:=1) rfl cF9 w hw,p8 hc (o:=2) rfl S1 w hw,p8 hc (o:=3) rfl bN9 w hw⟩,fun S w0 hS hw=>⟨fun K f d w=>z6 hS fun w' hw'=>D8 hc rfl F8 w' (hw w' hw'),fun K f d w=>z6 hS fun w' hw'=>p8 hc (o:=1) rfl cF9 w' (hw w' hw'),fun K f d w=>z6 hS fun w' hw'=>p8 hc (o:=2) rfl S1 w' (hw w' hw'),fun K f d w=>z6 hS fun w' hw'=>p8 hc (o:=3) rfl bN9 w' (hw w' hw')⟩⟩
theorem J7.ex_v{h k:Hp}{a:Addr}{v:Value}{x:Ex}(hv:SV h v x)(ha:J7 k a v):(∀w,B3 k (d7 w)→(Instr.loadAt 41 (.pointer (some a))).run prog w = .ok v w)∧(∀(S:World→Prop) (w0:World),S w0→(∀w,S w→B3 k (d7 w))→∀K f d w,B5 prog S (Instr.loadAt 41 (.pointer (some a))) K f d w=K (A5 f d v) w):=ha.whole hv bm8 bn6 bn1 ap0
theorem bd0{h:Hp}{v:Value}{x:Ex}{w:World}(N:Nat→Prop)(hv:SV h v x)(hN:∀b,N b→b<w.heap.size):∃a w',(Instr.box 41 v).run prog w = .ok (.pointer (some a)) w'∧o6 w w'∧J7 (B4 w' N) a v:=ch0 hv hN
theorem cV5{h:Hp}{v:Value}{x:Ex}{w:World}(N:Nat→Prop)(hv:SV h v x)(hN:∀b,N b→b<w.heap.size):∃a wz w',(Instr.alloc 41 true (.tuple #[])).run prog w = .ok (.pointer (some a)) wz∧(Instr.storeAt 41 (.pointer (some a)) v).run prog wz = .ok () w'∧o6 w w'∧J7 (B4 w' N) a v:=bX9 hv hN cI2 rfl ap0
theorem At.ex_v{h:Hp}{a:Addr}{x:Ex}(ha:At h a x):∃sv,SV h sv x∧(∀w,B3 h (d7 w)→(Instr.loadAt 41 (.pointer (some a))).run prog w = .ok sv w)∧(∀(S:World→Prop) (w0:World),S w0→(∀w,S w→B3 h (d7 w))→∀K f d w,B5 prog S (Instr.loadAt 41 (.pointer (some a))) K f d w=K (A5 f d sv) w):=ha.sv2 bm8 bn6 bn1 ap0
theorem aF1{h:Hp}{v:Value}{x:Ex}{w:World}(hv:SV h v x)(hw:B3 h (d7 w)):∃a w',(Instr.box 41 v).run prog w = .ok (.pointer (some a)) w'∧o6 w w'∧At (d7 w') a x:=by6 hv hw
theorem cV0{h:Hp}{v:Value}{x:Ex}{w:World}(hv:SV h v x)(hw:B3 h (d7 w)):∃a wz w',(Instr.alloc 41 true (.tuple #[])).run prog w = .ok (.pointer (some a)) wz∧(Instr.storeAt 41 (.pointer (some a)) v).run prog wz = .ok () w'∧o6 w w'∧At (d7 w') a x:=bn8 hv hw cI2 rfl ap0
theorem ca4{h:Hp}{cs:List Value}{x:Ar}:z7.enc h cs x→∃c_x,cs=([.bool x.ref]:List Value)++([o7 x.name]:List Value)++c_x∧z7.enc h c_x x.x:=by
 rintro⟨c,rfl,h1⟩;exact⟨c,rfl,h1⟩
theorem At.ar{h:Hp}{a:Addr}{x:Ar}(ha:At h a x):At h (a.add 2) x.x∧(∀w,B3 h (d7 w)→(Instr.loadAt 4 (.pointer (some a))).run prog w = .ok (.bool x.ref) w∧(Instr.loadAt 9 (.pointer (some (a.add 1)))).run prog w = .ok (o7 x.name) w)∧(∀(S:World→Prop) (w0:World),S w0→(∀w,S w→B3 h (d7 w))→(∀K f d w,B5 prog S (Instr.loadAt 4 (.pointer (some a))) K f d w=K (A5 f d (.bool x.ref)) w)∧(∀K f d w,B5 prog S (Instr.loadAt 9 (.pointer (some (a.add 1)))) K f d w=K (A5 f d (o7 x.name)) w)):=by
 obtain⟨cs,he,hc⟩:=ha;obtain⟨c_x,rfl,h_x⟩:=ca4 he;obtain⟨a_x0,a_x1,a_x2,a_x3,rfl⟩:=aZ3 (z7.len h_x);exact⟨bc7 hc h_x (fun j u hj=>by
  match j,hj with
  | 0,hj=>exact hj
  | 1,hj=>exact hj
  | 2,hj=>exact hj
  | 3,hj=>exact hj
  | m+4,hj=>simp at hj),fun w hw=>⟨D8 hc rfl ap7 w hw,p8 hc (o:=1) rfl S1 w hw⟩,fun S w0 hS hw=>⟨fun K f d w=>z6 hS fun w' hw'=>D8 hc rfl ap7 w' (hw w' hw'),fun K f d w=>z6 hS fun w' hw'=>p8 hc (o:=1) rfl S1 w' (hw w' hw')⟩⟩
theorem J7.ar{h k:Hp}{a:Addr}{v:Value}{x:Ar}(hv:SV h v x)(ha:J7 k a v):∃u_x,SV h u_x x.x∧J7 k (a.add 2) u_x∧(∀w,B3 k (d7 w)→(Instr.loadAt 4 (.pointer (some a))).run prog w = .ok (.bool x.ref) w∧(Instr.loadAt 9 (.pointer (some (a.add 1)))).run prog w = .ok (o7 x.name) w)∧(∀(S:World→Prop) (w0:World),S w0→(∀w,S w→B3 k (d7 w))→(∀K f d w,B5 prog S (Instr.loadAt 4 (.pointer (some a))) K f d w=K (A5 f d (.bool x.ref)) w)∧(∀K f d w,B5 prog S (Instr.loadAt 9 (.pointer (some (a.add 1)))) K f d w=K (A5 f d (o7 x.name)) w)):=by
 obtain⟨cs,rfl,he⟩:=hv;obtain⟨cs2,e2,hc⟩:=ha;obtain rfl:=ac3 e2;obtain⟨c_x,rfl,h_x⟩:=ca4 he;obtain⟨a_x0,a_x1,a_x2,a_x3,rfl⟩:=aZ3 (z7.len h_x);exact⟨_,⟨_,rfl,h_x⟩,aN4 hc (fun j u hj=>by
  match j,hj with
  | 0,hj=>exact hj
  | 1,hj=>exact hj
  | 2,hj=>exact hj
  | 3,hj=>exact hj
  | m+4,hj=>simp at hj),fun w hw=>⟨D8 hc rfl ap7 w hw,p8 hc (o:=1) rfl S1 w hw⟩,fun S w0 hS hw=>⟨fun K f d w=>z6 hS fun w' hw'=>D8 hc rfl ap7 w' (hw w' hw'),fun K f d w=>z6 hS fun w' hw'=>p8 hc (o:=1) rfl S1 w' (hw w' hw')⟩⟩
theorem cf0{h:Hp}{v:Value}{x:Ar}{w:World}(N:Nat→Prop)(hv:SV h v x)(hN:∀b,N b→b<w.heap.size):∃a wz w',(Instr.alloc 101 true (.tuple #[])).run prog w = .ok (.pointer (some a)) wz∧(Instr.storeAt 101 (.pointer (some a)) v).run prog wz = .ok () w'∧o6 w w'∧J7 (B4 w' N) a v:=bX9 hv hN cH7 rfl U7
theorem At.ar_v{h:Hp}{a:Addr}{x:Ar}(ha:At h a x):∃sv,SV h sv x∧(∀w,B3 h (d7 w)→(Instr.loadAt 101 (.pointer (some a))).run prog w = .ok sv w)∧(∀(S:World→Prop) (w0:World),S w0→(∀w,S w→B3 h (d7 w))→∀K f d w,B5 prog S (Instr.loadAt 101 (.pointer (some a))) K f d w=K (A5 f d sv) w):=ha.sv2 ax7 ax9 ax8 U7
theorem cL2{h:Hp}{v:Value}{x:Ar}{w:World}(hv:SV h v x)(hw:B3 h (d7 w)):∃a w',(Instr.box 101 v).run prog w = .ok (.pointer (some a)) w'∧o6 w w'∧At (d7 w') a x:=by6 hv hw
theorem aS0{h:Hp}{v:Value}{x:Ar}{w:World}(hv:SV h v x)(hw:B3 h (d7 w)):∃a wz w',(Instr.alloc 101 true (.tuple #[])).run prog w = .ok (.pointer (some a)) wz∧(Instr.storeAt 101 (.pointer (some a)) v).run prog wz = .ok () w'∧o6 w w'∧At (d7 w') a x:=bn8 hv hw cH7 rfl U7
theorem ca8{h:Hp}{cs:List Value}{x:St}:z7.enc h cs x→∃v_labels c_x v_args v_thn v_els,cs=([.int .i64 x.id]:List Value)++([.int .i64 x.kind]:List Value)++([v_labels]:List Value)++([o7 x.name]:List Value)++([o7 x.proc]:List Value)++c_x++([.bool x.has]:List Value)++([v_args]:List Value)++([v_thn]:List Value)++([v_els]:List Value)∧R h v_labels x.labels∧z7.enc h c_x x.x∧R h v_args x.args∧R h v_thn x.thn∧R h v_els x.els:=by
 intro he;obtain⟨vl,cx,va,vt,ve,rfl,h1,h2,h3,h4,h5⟩:=bz7.1 he;exact⟨vl,cx,va,vt,ve,by simp,h1,h2,h3,h4,h5⟩
theorem At.st{h:Hp}{a:Addr}{x:St}(ha:At h a x):∃v_labels v_args v_thn v_els,R h v_labels x.labels∧R h v_args x.args∧R h v_thn x.thn∧R h v_els x.els∧At h (a.add 5) x.x∧(∀w,B3 h (d7 w)→(Instr.loadAt 3 (.pointer (some a))).run prog w = .ok (.int .i64 x.id) w∧(Instr.loadAt 3 (.pointer (some (a.add 1)))).run prog w = .ok (.int .i64 x.kind) w∧(Instr.loadAt 22 (.pointer (some (a.add 2)))).run prog w = .ok (v_labels) w∧(Instr.loadAt 9 (.pointer (some (a.add 3)))).run prog w = .ok (o7 x.name) w∧(Instr.loadAt 9 (.pointer (some (a.add 4)))).run prog w = .ok (o7 x.proc) w∧(Instr.loadAt 4 (.pointer (some (a.add 9)))).run prog w = .ok (.bool x.has) w∧(Instr.loadAt 42 (.pointer (some (a.add 10)))).run prog w = .ok (v_args) w∧(Instr.loadAt 43 (.pointer (some (a.add 11)))).run prog w = .ok (v_thn) w∧(Instr.loadAt 43 (.pointer (some (a.add 12)))).run prog w = .ok (v_els) w)∧(∀(S:World→Prop) (w0:World),S w0→(∀w,S w→B3 h (d7 w))→(∀K f d w,B5 prog S (Instr.loadAt 3 (.pointer (some a))) K f d w=K (A5 f d (.int .i64 x.id)) w)∧(∀K f d w,B5 prog S (Instr.loadAt 3 (.pointer (some (a.add 1)))) K f d w=K (A5 f d (.int .i64 x.kind)) w)∧(∀K f d w,B5 prog S (Instr.loadAt 22 (.pointer (some (a.add 2)))) K f d w=K (A5 f d (v_labels)) w)∧(∀K f d w,B5 prog S (Instr.loadAt 9 (.pointer (some (a.add 3)))) K f d w=K (A5 f d (o7 x.name)) w)∧(∀K f d w,B5 prog S (Instr.loadAt 9 (.pointer (some (a.add 4)))) K f d w=K (A5 f d (o7 x.proc)) w)∧(∀K f d w,B5 prog S (Instr.loadAt 4 (.pointer (some (a.add 9)))) K f d w=K (A5 f d (.bool x.has)) w)∧(∀K f d w,B5 prog S (Instr.loadAt 42 (.pointer (some (a.add 10)))) K f d w=K (A5 f d (v_args)) w)∧(∀K f d w,B5 prog S (Instr.loadAt 43 (.pointer (some (a.add 11)))) K f d w=K (A5 f d (v_thn)) w)∧(∀K f d w,B5 prog S (Instr.loadAt 43 (.pointer (some (a.add 12)))) K f d w=K (A5 f d (v_els)) w)):=by
 obtain⟨cs,he,hc⟩:=ha;obtain⟨v_labels,c_x,v_args,v_thn,v_els,rfl,h_labels,h_x,h_args,h_thn,h_els⟩:=ca8 he;obtain⟨a_x0,a_x1,a_x2,a_x3,rfl⟩:=aZ3 (z7.len h_x);exact⟨_,_,_,_,h_labels,h_args,h_thn,h_els,bc7 hc h_x (fun j u hj=>by
  match j,hj with
  | 0,hj=>exact hj
  | 1,hj=>exact hj
  | 2,hj=>exact hj
  | 3,hj=>exact hj
  | m+4,hj=>simp at hj),fun w hw=>⟨D8 hc rfl F8 w hw,p8 hc (o:=1) rfl F8 w hw,p8 hc (o:=2) rfl M3 w hw,p8 hc (o:=3) rfl S1 w hw,p8 hc (o:=4) rfl S1 w hw,p8 hc (o:=9) rfl ap7 w hw,p8 hc (o:=10) rfl bO0 w hw,p8 hc (o:=11) rfl au4 w hw,p8 hc (o:=12) rfl au4 w hw⟩,fun S w0 hS hw=>⟨fun K f d w=>z6 hS fun w' hw'=>D8 hc rfl F8 w' (hw w' hw'),fun K f d w=>z6 hS fun w' hw'=>p8 hc (o:=1) rfl F8 w' (hw w' hw'),fun K f d w=>z6 hS fun w' hw'=>p8 hc (o:=2) rfl M3 w' (hw w' hw'),fun K f d w=>z6 hS fun w' hw'=>p8 hc (o:=3) rfl S1 w' (hw w' hw'),fun K f d w=>z6 hS fun w' hw'=>p8 hc (o:=4) rfl S1 w' (hw w' hw'),fun K f d w=>z6 hS fun w' hw'=>p8 hc (o:=9) rfl ap7 w' (hw w' hw'),fun K f d w=>z6 hS fun w' hw'=>p8 hc (o:=10) rfl bO0 w' (hw w' hw'),fun K f d w=>z6 hS fun w' hw'=>p8 hc (o:=11) rfl au4 w' (hw w' hw'),fun K f d w=>z6 hS fun w' hw'=>p8 hc (o:=12) rfl au4 w' (hw w' hw')⟩⟩
theorem J7.st{h k:Hp}{a:Addr}{v:Value}{x:St}(hv:SV h v x)(ha:J7 k a v):∃v_labels u_x v_args v_thn v_els,R h v_labels x.labels∧SV h u_x x.x∧J7 k (a.add 5) u_x∧R h v_args x.args∧R h v_thn x.thn∧R h v_els x.els∧(∀w,B3 k (d7 w)→(Instr.loadAt 3 (.pointer (some a))).run prog w = .ok (.int .i64 x.id) w∧(Instr.loadAt 3 (.pointer (some (a.add 1)))).run prog w = .ok (.int .i64 x.kind) w∧(Instr.loadAt 22 (.pointer (some (a.add 2)))).run prog w = .ok (v_labels) w∧(Instr.loadAt 9 (.pointer (some (a.add 3)))).run prog w = .ok (o7 x.name) w∧(Instr.loadAt 9 (.pointer (some (a.add 4)))).run prog w = .ok (o7 x.proc) w∧(Instr.loadAt 4 (.pointer (some (a.add 9)))).run prog w = .ok (.bool x.has) w∧(Instr.loadAt 42 (.pointer (some (a.add 10)))).run prog w = .ok (v_args) w∧(Instr.loadAt 43 (.pointer (some (a.add 11)))).run prog w = .ok (v_thn) w∧(Instr.loadAt 43 (.pointer (some (a.add 12)))).run prog w = .ok (v_els) w)∧(∀(S:World→Prop) (w0:World),S w0→(∀w,S w→B3 k (d7 w))→(∀K f d w,B5 prog S (Instr.loadAt 3 (.pointer (some a))) K f d w=K (A5 f d (.int .i64 x.id)) w)∧(∀K f d w,B5 prog S (Instr.loadAt 3 (.pointer (some (a.add 1)))) K f d w=K (A5 f d (.int .i64 x.kind)) w)∧(∀K f d w,B5 prog S (Instr.loadAt 22 (.pointer (some (a.add 2)))) K f d w=K (A5 f d (v_labels)) w)∧(∀K f d w,B5 prog S (Instr.loadAt 9 (.pointer (some (a.add 3)))) K f d w=K (A5 f d (o7 x.name)) w)∧(∀K f d w,B5 prog S (Instr.loadAt 9 (.pointer (some (a.add 4)))) K f d w=K (A5 f d (o7 x.proc)) w)∧(∀K f d w,B5 prog S (Instr.loadAt 4 (.pointer (some (a.add 9)))) K f d w=K (A5 f d (.bool x.has)) w)∧(∀K f d w,B5 prog S (Instr.loadAt 42 (.pointer (some (a.add 10)))) K f d w=K (A5 f d (v_args)) w)∧(∀K f d w,B5 prog S (Instr.loadAt 43 (.pointer (some (a.add 11)))) K f d w=K (A5 f d (v_thn)) w)∧(∀K f d w,B5 prog S (Instr.loadAt 43 (.pointer (some (a.add 12)))) K f d w=K (A5 f d (v_els)) w)):=by
 obtain⟨cs,rfl,he⟩:=hv;obtain⟨cs2,e2,hc⟩:=ha;obtain rfl:=ac3 e2;obtain⟨v_labels,c_x,v_args,v_thn,v_els,rfl,h_labels,h_x,h_args,h_thn,h_els⟩:=ca8 he;obtain⟨a_x0,a_x1,a_x2,a_x3,rfl⟩:=aZ3 (z7.len h_x);exact⟨_,_,_,_,_,h_labels,⟨_,rfl,h_x⟩,aN4 hc (fun j u hj=>by
  match j,hj with
  | 0,hj=>exact hj
  | 1,hj=>exact hj
  | 2,hj=>exact hj
  | 3,hj=>exact hj
  | m+4,hj=>simp at hj),h_args,h_thn,h_els,fun w hw=>⟨D8 hc rfl F8 w hw,p8 hc (o:=1) rfl F8 w hw,p8 hc (o:=2) rfl M3 w hw,p8 hc (o:=3) rfl S1 w hw,p8 hc (o:=4) rfl S1 w hw,p8 hc (o:=9) rfl ap7 w hw,p8 hc (o:=10) rfl bO0 w hw,p8 hc (o:=11) rfl au4 w hw,p8 hc (o:=12) rfl au4 w hw⟩,fun S w0 hS hw=>⟨fun K f d w=>z6 hS fun w' hw'=>D8 hc rfl F8 w' (hw w' hw'),fun K f d w=>z6 hS fun w' hw'=>p8 hc (o:=1) rfl F8 w' (hw w' hw'),fun K f d w=>z6 hS fun w' hw'=>p8 hc (o:=2) rfl M3 w' (hw w' hw'),fun K f d w=>z6 hS fun w' hw'=>p8 hc (o:=3) rfl S1 w' (hw w' hw'),fun K f d w=>z6 hS fun w' hw'=>p8 hc (o:=4) rfl S1 w' (hw w' hw'),fun K f d w=>z6 hS fun w' hw'=>p8 hc (o:=9) rfl ap7 w' (hw w' hw'),fun K f d w=>z6 hS fun w' hw'=>p8 hc (o:=10) rfl bO0 w' (hw w' hw'),fun K f d w=>z6 hS fun w' hw'=>p8 hc (o:=11) rfl au4 w' (hw w' hw'),fun K f d w=>z6 hS fun w' hw'=>p8 hc (o:=12) rfl au4 w' (hw w' hw')⟩⟩
theorem J7.st_v{h k:Hp}{a:Addr}{v:Value}{x:St}(hv:SV h v x)(ha:J7 k a v):(∀w,B3 k (d7 w)→(Instr.loadAt 45 (.pointer (some a))).run prog w = .ok v w)∧(∀(S:World→Prop) (w0:World),S w0→(∀w,S w→B3 k (d7 w))→∀K f d w,B5 prog S (Instr.loadAt 45 (.pointer (some a))) K f d w=K (A5 f d v) w):=ha.whole hv bb2 bb7 aR7 ah8
theorem bZ8{h:Hp}{v:Value}{x:St}{w:World}(N:Nat→Prop)(hv:SV h v x)(hN:∀b,N b→b<w.heap.size):∃a w',(Instr.box 45 v).run prog w = .ok (.pointer (some a)) w'∧o6 w w'∧J7 (B4 w' N) a v:=ch0 hv hN
theorem cV6{h:Hp}{v:Value}{x:St}{w:World}(N:Nat→Prop)(hv:SV h v x)(hN:∀b,N b→b<w.heap.size):∃a wz w',(Instr.alloc 45 true (.tuple #[])).run prog w = .ok (.pointer (some a)) wz∧(Instr.storeAt 45 (.pointer (some a)) v).run prog wz = .ok () w'∧o6 w w'∧J7 (B4 w' N) a v:=bX9 hv hN cI3 rfl ah8
theorem At.st_v{h:Hp}{a:Addr}{x:St}(ha:At h a x):∃sv,SV h sv x∧(∀w,B3 h (d7 w)→(Instr.loadAt 45 (.pointer (some a))).run prog w = .ok sv w)∧(∀(S:World→Prop) (w0:World),S w0→(∀w,S w→B3 h (d7 w))→∀K f d w,B5 prog S (Instr.loadAt 45 (.pointer (some a))) K f d w=K (A5 f d sv) w):=ha.sv2 bb2 bb7 aR7 ah8
theorem aj3{h:Hp}{v:Value}{x:St}{w:World}(hv:SV h v x)(hw:B3 h (d7 w)):∃a w',(Instr.box 45 v).run prog w = .ok (.pointer (some a)) w'∧o6 w w'∧At (d7 w') a x:=by6 hv hw
theorem aS1{h:Hp}{v:Value}{x:St}{w:World}(hv:SV h v x)(hw:B3 h (d7 w)):∃a wz w',(Instr.alloc 45 true (.tuple #[])).run prog w = .ok (.pointer (some a)) wz∧(Instr.storeAt 45 (.pointer (some a)) v).run prog wz = .ok () w'∧o6 w w'∧At (d7 w') a x:=bn8 hv hw cI3 rfl ah8
theorem ca7{h:Hp}{cs:List Value}{x:Pr}:z7.enc h cs x→∃v_params v_vars v_body v_fin,cs=([o7 x.name]:List Value)++([v_params]:List Value)++([v_vars]:List Value)++([v_body]:List Value)++([v_fin]:List Value)∧R h v_params x.params∧R h v_vars x.vars∧R h v_body x.body∧R h v_fin x.fin:=by
 rintro⟨v1,v2,v3,v4,rfl,h1,h2,h3,h4⟩;exact⟨v1,v2,v3,v4,rfl,h1,h2,h3,h4⟩
theorem At.pr{h:Hp}{a:Addr}{x:Pr}(ha:At h a x):∃v_params v_vars v_body v_fin,R h v_params x.params∧R h v_vars x.vars∧R h v_body x.body∧R h v_fin x.fin∧(∀w,B3 h (d7 w)→(Instr.loadAt 9 (.pointer (some a))).run prog w = .ok (o7 x.name) w∧(Instr.loadAt 49 (.pointer (some (a.add 1)))).run prog w = .ok (v_params) w∧(Instr.loadAt 22 (.pointer (some (a.add 2)))).run prog w = .ok (v_vars) w∧(Instr.loadAt 43 (.pointer (some (a.add 3)))).run prog w = .ok (v_body) w∧(Instr.loadAt 22 (.pointer (some (a.add 4)))).run prog w = .ok (v_fin) w)∧(∀(S:World→Prop) (w0:World),S w0→(∀w,S w→B3 h (d7 w))→(∀K f d w,B5 prog S (Instr.loadAt 9 (.pointer (some a))) K f d w=K (A5 f d (o7 x.name)) w)∧(∀K f d w,B5 prog S (Instr.loadAt 49 (.pointer (some (a.add 1)))) K f d w=K (A5 f d (v_params)) w)∧(∀K f d w,B5 prog S (Instr.loadAt 22 (.pointer (some (a.add 2)))) K f d w=K (A5 f d (v_vars)) w)∧(∀K f d w,B5 prog S (Instr.loadAt 43 (.pointer (some (a.add 3)))) K f d w=K (A5 f d (v_body)) w)∧(∀K f d w,B5 prog S (Instr.loadAt 22 (.pointer (some (a.add 4)))) K f d w=K (A5 f d (v_fin)) w)):=by
 obtain⟨cs,he,hc⟩:=ha;obtain⟨v_params,v_vars,v_body,v_fin,rfl,h_params,h_vars,h_body,h_fin⟩:=ca7 he;exact⟨_,_,_,_,h_params,h_vars,h_body,h_fin,fun w hw=>⟨D8 hc rfl S1 w hw,p8 hc (o:=1) rfl bO1 w hw,p8 hc (o:=2) rfl M3 w hw,p8 hc (o:=3) rfl au4 w hw,p8 hc (o:=4) rfl M3 w hw⟩,fun S w0 hS hw=>⟨fun K f d w=>z6 hS fun w' hw'=>D8 hc rfl S1 w' (hw w' hw'),fun K f d w=>z6 hS fun w' hw'=>p8 hc (o:=1) rfl bO1 w' (hw w' hw'),fun K f d w=>z6 hS fun w' hw'=>p8 hc (o:=2) rfl M3 w' (hw w' hw'),fun K f d w=>z6 hS fun w' hw'=>p8 hc (o:=3) rfl au4 w' (hw w' hw'),fun K f d w=>z6 hS fun w' hw'=>p8 hc (o:=4) rfl M3 w' (hw w' hw')⟩⟩
theorem J7.pr{h k:Hp}{a:Addr}{v:Value}{x:Pr}(hv:SV h v x)(ha:J7 k a v):∃v_params v_vars v_body v_fin,R h v_params x.params∧R h v_vars x.vars∧R h v_body x.body∧R h v_fin x.fin∧(∀w,B3 k (d7 w)→(Instr.loadAt 9 (.pointer (some a))).run prog w = .ok (o7 x.name) w∧(Instr.loadAt 49 (.pointer (some (a.add 1)))).run prog w = .ok (v_params) w∧(Instr.loadAt 22 (.pointer (some (a.add 2)))).run prog w = .ok (v_vars) w∧(Instr.loadAt 43 (.pointer (some (a.add 3)))).run prog w = .ok (v_body) w∧(Instr.loadAt 22 (.pointer (some (a.add 4)))).run prog w = .ok (v_fin) w)∧(∀(S:World→Prop) (w0:World),S w0→(∀w,S w→B3 k (d7 w))→(∀K f d w,B5 prog S (Instr.loadAt 9 (.pointer (some a))) K f d w=K (A5 f d (o7 x.name)) w)∧(∀K f d w,B5 prog S (Instr.loadAt 49 (.pointer (some (a.add 1)))) K f d w=K (A5 f d (v_params)) w)∧(∀K f d w,B5 prog S (Instr.loadAt 22 (.pointer (some (a.add 2)))) K f d w=K (A5 f d (v_vars)) w)∧(∀K f d w,B5 prog S (Instr.loadAt 43 (.pointer (some (a.add 3)))) K f d w=K (A5 f d (v_body)) w)∧(∀K f d w,B5 prog S (Instr.loadAt 22 (.pointer (some (a.add 4)))) K f d w=K (A5 f d (v_fin)) w)):=by
 obtain⟨cs,rfl,he⟩:=hv;obtain⟨cs2,e2,hc⟩:=ha;obtain rfl:=ac3 e2;obtain⟨v_params,v_vars,v_body,v_fin,rfl,h_params,h_vars,h_body,h_fin⟩:=ca7 he;exact⟨_,_,_,_,h_params,h_vars,h_body,h_fin,fun w hw=>⟨D8 hc rfl S1 w hw,p8 hc (o:=1) rfl bO1 w hw,p8 hc (o:=2) rfl M3 w hw,p8 hc (o:=3) rfl au4 w hw,p8 hc (o:=4) rfl M3 w hw⟩,fun S w0 hS hw=>⟨fun K f d w=>z6 hS fun w' hw'=>D8 hc rfl S1 w' (hw w' hw'),fun K f d w=>z6 hS fun w' hw'=>p8 hc (o:=1) rfl bO1 w' (hw w' hw'),fun K f d w=>z6 hS fun w' hw'=>p8 hc (o:=2) rfl M3 w' (hw w' hw'),fun K f d w=>z6 hS fun w' hw'=>p8 hc (o:=3) rfl au4 w' (hw w' hw'),fun K f d w=>z6 hS fun w' hw'=>p8 hc (o:=4) rfl M3 w' (hw w' hw')⟩⟩
theorem J7.pr_v{h k:Hp}{a:Addr}{v:Value}{x:Pr}(hv:SV h v x)(ha:J7 k a v):(∀w,B3 k (d7 w)→(Instr.loadAt 51 (.pointer (some a))).run prog w = .ok v w)∧(∀(S:World→Prop) (w0:World),S w0→(∀w,S w→B3 k (d7 w))→∀K f d w,B5 prog S (Instr.loadAt 51 (.pointer (some a))) K f d w=K (A5 f d v) w):=ha.whole hv ao8 ap2 ao9 O8
theorem cL4{h:Hp}{v:Value}{x:Pr}{w:World}(N:Nat→Prop)(hv:SV h v x)(hN:∀b,N b→b<w.heap.size):∃a w',(Instr.box 51 v).run prog w = .ok (.pointer (some a)) w'∧o6 w w'∧J7 (B4 w' N) a v:=ch0 hv hN
theorem aS2{h:Hp}{v:Value}{x:Pr}{w:World}(N:Nat→Prop)(hv:SV h v x)(hN:∀b,N b→b<w.heap.size):∃a wz w',(Instr.alloc 51 true (.tuple #[])).run prog w = .ok (.pointer (some a)) wz∧(Instr.storeAt 51 (.pointer (some a)) v).run prog wz = .ok () w'∧o6 w w'∧J7 (B4 w' N) a v:=bX9 hv hN cI4 rfl O8
theorem bc9{h:Hp}{v:Value}{x:Pr}{w:World}(hv:SV h v x)(hw:B3 h (d7 w)):∃a w',(Instr.box 51 v).run prog w = .ok (.pointer (some a)) w'∧o6 w w'∧At (d7 w') a x:=by6 hv hw
theorem aH7{h:Hp}{v:Value}{x:Pr}{w:World}(hv:SV h v x)(hw:B3 h (d7 w)):∃a wz w',(Instr.alloc 51 true (.tuple #[])).run prog w = .ok (.pointer (some a)) wz∧(Instr.storeAt 51 (.pointer (some a)) v).run prog wz = .ok () w'∧o6 w w'∧At (d7 w') a x:=bn8 hv hw cI4 rfl O8
theorem bz5{h:Hp}{cs:List Value}{x:Pg}:z7.enc h cs x→∃v_globals v_procs,cs=([v_globals]:List Value)++([v_procs]:List Value)∧R h v_globals x.globals∧R h v_procs x.procs:=by
 rintro⟨v1,v2,rfl,h1,h2⟩;exact⟨v1,v2,rfl,h1,h2⟩
theorem At.pg{h:Hp}{a:Addr}{x:Pg}(ha:At h a x):∃v_globals v_procs,R h v_globals x.globals∧R h v_procs x.procs∧(∀w,B3 h (d7 w)→(Instr.loadAt 22 (.pointer (some a))).run prog w = .ok (v_globals) w∧(Instr.loadAt 23 (.pointer (some (a.add 1)))).run prog w = .ok (v_procs) w)∧(∀(S:World→Prop) (w0:World),S w0→(∀w,S w→B3 h (d7 w))→(∀K f d w,B5 prog S (Instr.loadAt 22 (.pointer (some a))) K f d w=K (A5 f d (v_globals)) w)∧(∀K f d w,B5 prog S (Instr.loadAt 23 (.pointer (some (a.add 1)))) K f d w=K (A5 f d (v_procs)) w)):=by
 obtain⟨cs,he,hc⟩:=ha;obtain⟨v_globals,v_procs,rfl,h_globals,h_procs⟩:=bz5 he;exact⟨_,_,h_globals,h_procs,fun w hw=>⟨D8 hc rfl M3 w hw,p8 hc (o:=1) rfl bw3 w hw⟩,fun S w0 hS hw=>⟨fun K f d w=>z6 hS fun w' hw'=>D8 hc rfl M3 w' (hw w' hw'),fun K f d w=>z6 hS fun w' hw'=>p8 hc (o:=1) rfl bw3 w' (hw w' hw')⟩⟩
theorem J7.pg{h k:Hp}{a:Addr}{v:Value}{x:Pg}(hv:SV h v x)(ha:J7 k a v):∃v_globals v_procs,R h v_globals x.globals∧R h v_procs x.procs∧(∀w,B3 k (d7 w)→(Instr.loadAt 22 (.pointer (some a))).run prog w = .ok (v_globals) w∧(Instr.loadAt 23 (.pointer (some (a.add 1)))).run prog w = .ok (v_procs) w)∧(∀(S:World→Prop) (w0:World),S w0→(∀w,S w→B3 k (d7 w))→(∀K f d w,B5 prog S (Instr.loadAt 22 (.pointer (some a))) K f d w=K (A5 f d (v_globals)) w)∧(∀K f d w,B5 prog S (Instr.loadAt 23 (.pointer (some (a.add 1)))) K f d w=K (A5 f d (v_procs)) w)):=by
 obtain⟨cs,rfl,he⟩:=hv;obtain⟨cs2,e2,hc⟩:=ha;obtain rfl:=ac3 e2;obtain⟨v_globals,v_procs,rfl,h_globals,h_procs⟩:=bz5 he;exact⟨_,_,h_globals,h_procs,fun w hw=>⟨D8 hc rfl M3 w hw,p8 hc (o:=1) rfl bw3 w hw⟩,fun S w0 hS hw=>⟨fun K f d w=>z6 hS fun w' hw'=>D8 hc rfl M3 w' (hw w' hw'),fun K f d w=>z6 hS fun w' hw'=>p8 hc (o:=1) rfl bw3 w' (hw w' hw')⟩⟩
theorem J7.pg_v{h k:Hp}{a:Addr}{v:Value}{x:Pg}(hv:SV h v x)(ha:J7 k a v):(∀w,B3 k (d7 w)→(Instr.loadAt 25 (.pointer (some a))).run prog w = .ok v w)∧(∀(S:World→Prop) (w0:World),S w0→(∀w,S w→B3 k (d7 w))→∀K f d w,B5 prog S (Instr.loadAt 25 (.pointer (some a))) K f d w=K (A5 f d v) w):=ha.whole hv ce1 ce6 ce3 bw6
theorem ac5{h:Hp}{v:Value}{x:Pg}{w:World}(N:Nat→Prop)(hv:SV h v x)(hN:∀b,N b→b<w.heap.size):∃a w',(Instr.box 25 v).run prog w = .ok (.pointer (some a)) w'∧o6 w w'∧J7 (B4 w' N) a v:=ch0 hv hN
theorem At.pg_v{h:Hp}{a:Addr}{x:Pg}(ha:At h a x):∃sv,SV h sv x∧(∀w,B3 h (d7 w)→(Instr.loadAt 25 (.pointer (some a))).run prog w = .ok sv w)∧(∀(S:World→Prop) (w0:World),S w0→(∀w,S w→B3 h (d7 w))→∀K f d w,B5 prog S (Instr.loadAt 25 (.pointer (some a))) K f d w=K (A5 f d sv) w):=ha.sv2 ce1 ce6 ce3 bw6
theorem V0{h:Hp}{v:Value}{x:Pg}{w:World}(hv:SV h v x)(hw:B3 h (d7 w)):∃a w',(Instr.box 25 v).run prog w = .ok (.pointer (some a)) w'∧o6 w w'∧At (d7 w') a x:=by6 hv hw
theorem cV2{h:Hp}{v:Value}{x:Pg}{w:World}(hv:SV h v x)(hw:B3 h (d7 w)):∃a wz w',(Instr.alloc 25 true (.tuple #[])).run prog w = .ok (.pointer (some a)) wz∧(Instr.storeAt 25 (.pointer (some a)) v).run prog wz = .ok () w'∧o6 w w'∧At (d7 w') a x:=bn8 hv hw da5 rfl bw6
theorem aF7{h:Hp}{cs:List Value}{x:It}:z7.enc h cs x→∃c_s,cs=c_s++([.int .i64 x.proc]:List Value)++([.int .i64 x.up]:List Value)++([.int .i64 x.next]:List Value)++([.int .i64 x.loop]:List Value)∧z7.enc h c_s x.s:=by
 rintro⟨c,rfl,h1⟩;exact⟨c,by simp,h1⟩
theorem At.it{h:Hp}{a:Addr}{x:It}(ha:At h a x):At h a x.s∧(∀w,B3 h (d7 w)→(Instr.loadAt 3 (.pointer (some (a.add 13)))).run prog w = .ok (.int .i64 x.proc) w∧(Instr.loadAt 3 (.pointer (some (a.add 14)))).run prog w = .ok (.int .i64 x.up) w∧(Instr.loadAt 3 (.pointer (some (a.add 15)))).run prog w = .ok (.int .i64 x.next) w∧(Instr.loadAt 3 (.pointer (some (a.add 16)))).run prog w = .ok (.int .i64 x.loop) w)∧(∀(S:World→Prop) (w0:World),S w0→(∀w,S w→B3 h (d7 w))→(∀K f d w,B5 prog S (Instr.loadAt 3 (.pointer (some (a.add 13)))) K f d w=K (A5 f d (.int .i64 x.proc)) w)∧(∀K f d w,B5 prog S (Instr.loadAt 3 (.pointer (some (a.add 14)))) K f d w=K (A5 f d (.int .i64 x.up)) w)∧(∀K f d w,B5 prog S (Instr.loadAt 3 (.pointer (some (a.add 15)))) K f d w=K (A5 f d (.int .i64 x.next)) w)∧(∀K f d w,B5 prog S (Instr.loadAt 3 (.pointer (some (a.add 16)))) K f d w=K (A5 f d (.int .i64 x.loop)) w)):=by
 obtain⟨cs,he,hc⟩:=ha;obtain⟨c_s,rfl,h_s⟩:=aF7 he;obtain⟨a_s0,a_s1,a_s2,a_s3,a_s4,a_s5,a_s6,a_s7,a_s8,a_s9,a_s10,a_s11,a_s12,rfl⟩:=bi7 (z7.len h_s);exact⟨be8 hc h_s (fun j u hj=>by
  match j,hj with
  | 0,hj=>exact hj
  | 1,hj=>exact hj
  | 2,hj=>exact hj
  | 3,hj=>exact hj
  | 4,hj=>exact hj
  | 5,hj=>exact hj
  | 6,hj=>exact hj
  | 7,hj=>exact hj
  | 8,hj=>exact hj
  | 9,hj=>exact hj
  | 10,hj=>exact hj
  | 11,hj=>exact hj
  | 12,hj=>exact hj
  | m+13,hj=>simp at hj),fun w hw=>⟨p8 hc (o:=13) rfl F8 w hw,p8 hc (o:=14) rfl F8 w hw,p8 hc (o:=15) rfl F8 w hw,p8 hc (o:=16) rfl F8 w hw⟩,fun S w0 hS hw=>⟨fun K f d w=>z6 hS fun w' hw'=>p8 hc (o:=13) rfl F8 w' (hw w' hw'),fun K f d w=>z6 hS fun w' hw'=>p8 hc (o:=14) rfl F8 w' (hw w' hw'),fun K f d w=>z6 hS fun w' hw'=>p8 hc (o:=15) rfl F8 w' (hw w' hw'),fun K f d w=>z6 hS fun w' hw'=>p8 hc (o:=16) rfl F8 w' (hw w' hw')⟩⟩
theorem J7.it{h k:Hp}{a:Addr}{v:Value}{x:It}(hv:SV h v x)(ha:J7 k a v):∃u_s,SV h u_s x.s∧J7 k a u_s∧(∀w,B3 k (d7 w)→(Instr.loadAt 3 (.pointer (some (a.add 13)))).run prog w = .ok (.int .i64 x.proc) w∧(Instr.loadAt 3 (.pointer (some (a.add 14)))).run prog w = .ok (.int .i64 x.up) w∧(Instr.loadAt 3 (.pointer (some (a.add 15)))).run prog w = .ok (.int .i64 x.next) w∧(Instr.loadAt 3 (.pointer (some (a.add 16)))).run prog w = .ok (.int .i64 x.loop) w)∧(∀(S:World→Prop) (w0:World),S w0→(∀w,S w→B3 k (d7 w))→(∀K f d w,B5 prog S (Instr.loadAt 3 (.pointer (some (a.add 13)))) K f d w=K (A5 f d (.int .i64 x.proc)) w)∧(∀K f d w,B5 prog S (Instr.loadAt 3 (.pointer (some (a.add 14)))) K f d w=K (A5 f d (.int .i64 x.up)) w)∧(∀K f d w,B5 prog S (Instr.loadAt 3 (.pointer (some (a.add 15)))) K f d w=K (A5 f d (.int .i64 x.next)) w)∧(∀K f d w,B5 prog S (Instr.loadAt 3 (.pointer (some (a.add 16)))) K f d w=K (A5 f d (.int .i64 x.loop)) w)):=by
 obtain⟨cs,rfl,he⟩:=hv;obtain⟨cs2,e2,hc⟩:=ha;obtain rfl:=ac3 e2;obtain⟨c_s,rfl,h_s⟩:=aF7 he;obtain⟨a_s0,a_s1,a_s2,a_s3,a_s4,a_s5,a_s6,a_s7,a_s8,a_s9,a_s10,a_s11,a_s12,rfl⟩:=bi7 (z7.len h_s);exact⟨_,⟨_,rfl,h_s⟩,br1 hc (fun j u hj=>by
  match j,hj with
  | 0,hj=>exact hj
  | 1,hj=>exact hj
  | 2,hj=>exact hj
  | 3,hj=>exact hj
  | 4,hj=>exact hj
  | 5,hj=>exact hj
  | 6,hj=>exact hj
  | 7,hj=>exact hj
  | 8,hj=>exact hj
  | 9,hj=>exact hj
  | 10,hj=>exact hj
  | 11,hj=>exact hj
  | 12,hj=>exact hj
  | m+13,hj=>simp at hj),fun w hw=>⟨p8 hc (o:=13) rfl F8 w hw,p8 hc (o:=14) rfl F8 w hw,p8 hc (o:=15) rfl F8 w hw,p8 hc (o:=16) rfl F8 w hw⟩,fun S w0 hS hw=>⟨fun K f d w=>z6 hS fun w' hw'=>p8 hc (o:=13) rfl F8 w' (hw w' hw'),fun K f d w=>z6 hS fun w' hw'=>p8 hc (o:=14) rfl F8 w' (hw w' hw'),fun K f d w=>z6 hS fun w' hw'=>p8 hc (o:=15) rfl F8 w' (hw w' hw'),fun K f d w=>z6 hS fun w' hw'=>p8 hc (o:=16) rfl F8 w' (hw w' hw')⟩⟩
theorem J7.it_v{h k:Hp}{a:Addr}{v:Value}{x:It}(hv:SV h v x)(ha:J7 k a v):(∀w,B3 k (d7 w)→(Instr.loadAt 121 (.pointer (some a))).run prog w = .ok v w)∧(∀(S:World→Prop) (w0:World),S w0→(∀w,S w→B3 k (d7 w))→∀K f d w,B5 prog S (Instr.loadAt 121 (.pointer (some a))) K f d w=K (A5 f d v) w):=ha.whole hv Y7 Y9 Y8 I9
theorem cL3{h:Hp}{v:Value}{x:It}{w:World}(N:Nat→Prop)(hv:SV h v x)(hN:∀b,N b→b<w.heap.size):∃a w',(Instr.box 121 v).run prog w = .ok (.pointer (some a)) w'∧o6 w w'∧J7 (B4 w' N) a v:=ch0 hv hN
theorem aH8{h:Hp}{v:Value}{x:It}{w:World}(N:Nat→Prop)(hv:SV h v x)(hN:∀b,N b→b<w.heap.size):∃a wz w',(Instr.alloc 121 true (.tuple #[])).run prog w = .ok (.pointer (some a)) wz∧(Instr.storeAt 121 (.pointer (some a)) v).run prog wz = .ok () w'∧o6 w w'∧J7 (B4 w' N) a v:=bX9 hv hN bX8 rfl I9
theorem bZ5{h:Hp}{v:Value}{x:It}{w:World}(hv:SV h v x)(hw:B3 h (d7 w)):∃a w',(Instr.box 121 v).run prog w = .ok (.pointer (some a)) w'∧o6 w w'∧At (d7 w') a x:=by6 hv hw
theorem ay2{h:Hp}{v:Value}{x:It}{w:World}(hv:SV h v x)(hw:B3 h (d7 w)):∃a wz w',(Instr.alloc 121 true (.tuple #[])).run prog w = .ok (.pointer (some a)) wz∧(Instr.storeAt 121 (.pointer (some a)) v).run prog wz = .ok () w'∧o6 w w'∧At (d7 w') a x:=bn8 hv hw bX8 rfl I9
theorem cM9{h:Hp}{cs:List Value}{x:Sh}:z7.enc h cs x→∃c_p v_l v_lo v_hi,cs=c_p++([v_l]:List Value)++([v_lo]:List Value)++([v_hi]:List Value)∧z7.enc h c_p x.p∧R h v_l x.l∧R h v_lo x.lo∧R h v_hi x.hi:=by
 rintro⟨c,v1,v2,v3,rfl,h1,h2,h3,h4⟩;exact⟨c,v1,v2,v3,by simp,h1,h2,h3,h4⟩
theorem At.sh{h:Hp}{a:Addr}{x:Sh}(ha:At h a x):∃v_l v_lo v_hi,R h v_l x.l∧R h v_lo x.lo∧R h v_hi x.hi∧At h a x.p∧(∀w,B3 h (d7 w)→(Instr.loadAt 111 (.pointer (some (a.add 2)))).run prog w = .ok (v_l) w∧(Instr.loadAt 112 (.pointer (some (a.add 3)))).run prog w = .ok (v_lo) w∧(Instr.loadAt 112 (.pointer (some (a.add 4)))).run prog w = .ok (v_hi) w)∧(∀(S:World→Prop) (w0:World),S w0→(∀w,S w→B3 h (d7 w))→(∀K f d w,B5 prog S (Instr.loadAt 111 (.pointer (some (a.add 2)))) K f d w=K (A5 f d (v_l)) w)∧(∀K f d w,B5 prog S (Instr.loadAt 112 (.pointer (some (a.add 3)))) K f d w=K (A5 f d (v_lo)) w)∧(∀K f d w,B5 prog S (Instr.loadAt 112 (.pointer (some (a.add 4)))) K f d w=K (A5 f d (v_hi)) w)):=by
 obtain⟨cs,he,hc⟩:=ha;obtain⟨c_p,v_l,v_lo,v_hi,rfl,h_p,h_l,h_lo,h_hi⟩:=cM9 he;obtain⟨a_p0,a_p1,rfl⟩:=dG3 (z7.len h_p);exact⟨_,_,_,h_l,h_lo,h_hi,be8 hc h_p (fun j u hj=>by
  match j,hj with
  | 0,hj=>exact hj
  | 1,hj=>exact hj
  | m+2,hj=>simp at hj),fun w hw=>⟨p8 hc (o:=2) rfl aM4 w hw,p8 hc (o:=3) rfl P5 w hw,p8 hc (o:=4) rfl P5 w hw⟩,fun S w0 hS hw=>⟨fun K f d w=>z6 hS fun w' hw'=>p8 hc (o:=2) rfl aM4 w' (hw w' hw'),fun K f d w=>z6 hS fun w' hw'=>p8 hc (o:=3) rfl P5 w' (hw w' hw'),fun K f d w=>z6 hS fun w' hw'=>p8 hc (o:=4) rfl P5 w' (hw w' hw')⟩⟩
section
variable {P:Program} {w:World} {h:Hp} {t T sz by_:Nat} {v:Value}
theorem an9{α:Type}[z7 α]{e:TypeId}(hs:F3 P t T sz by_=true)(hsz:z7.sz α=sz){xs ys:List α}(ho:A8 h w T v xs){u:Value}(hu:R h u ys)
  (hl:xs.length+ys.length≤1000000000000) (hb:(xs.length+ys.length)*by_≤140737488355328) (hw:B3 h (d7 w)) :
  ∃v' w',(Builtin.append_ #[t,t] e #[v,u]).run P w = .ok v' w'∧A8 h w' T v' (xs++ys)∧o9 (A3 v) w w'∧E8 w v v':=by
 obtain⟨h1,⟨z,hz,hzs⟩,h3,h4,h5,h6⟩:=Q5 hs;obtain⟨i,hi,hiz⟩:=t8 hz;have hby:i.bytes=by_:=by rw[←h4,as3 hi]
 have hsi:i.size=sz:=by rw[←h3,C8 hi]
 obtain⟨a,n,c,he,hn,hnc,es,hes,hce⟩:=hu;simp at he;subst he;have ht:=L0 h1;by_cases hy:ys=[]
 ·subst hy;refine⟨v,w,?_,by simpa using ho,o9.refl _,fun b hb=>.inl hb⟩;have hn0:n=0:=by simpa using hn
  subst hn0;rcases ho with⟨rfl,rfl⟩|⟨b,c',cur,rfl,k1,k2,k3,k4,k5,k6⟩
  ·cases a<;>simp[Builtin.append_,run_underlying ht,sizeOf,typeInfo,hi,Builtin.lenOf,Builtin.firstCells,loadCells,loadCellsFrom]
  ·cases a<;>simp[Builtin.append_,run_underlying ht,sizeOf,typeInfo,hi,Builtin.lenOf,Builtin.firstCells,loadCells,loadCellsFrom,k3,storeCells]
 ·have hne:es≠[]:=by
   intro e;have:=J9 hes;rw[e]at this;have hp:0<ys.length:=List.length_pos_iff.2 hy;have:=z7.pos (α:=α);have:=Nat.mul_pos hp this;simp at *;omega
  obtain⟨x0,hx0⟩:∃x0,es[0]?=some x0:=by
   cases es with
   | nil=>exact absurd rfl hne
   | cons x _=>exact⟨x,rfl⟩
  obtain⟨ad,rfl,_⟩:=hce 0 x0 hx0;exact aL5 (e:=e) ht hi hiz (by rw[hsi,hsz]) (by rw[hzs,hsi]) ho (ad:=ad) hn hes (fun j u hj=>by
   obtain⟨ad',e',hc⟩:=hce j u hj;obtain rfl:=ex1 e';exact G2 hw hc) hy (by simp only[maxLen];omega) (by rw[hby];exact hb) hw
theorem dG4{α:Type}[z7 α](hs:F3 P t T sz by_=true)(hw:B3 h (d7 w)):
  ∃v w',(Instr.buildSlice t 0 #[]).run P w = .ok v w'∧A8 h w' T v ([]:List α)∧o6 w w'∧(∀b,A3 v b→w.heap.size≤b):=by
 obtain⟨h1,⟨z,hz,hzs⟩,h3,h4,h5,h6⟩:=Q5 hs;obtain⟨i,hi,hiz⟩:=t8 hz;refine⟨.slice (some ⟨w.heap.size,0,none⟩) 0 0,w.alloc (.cells #[] T),?_,.inr ⟨w.heap.size,0,#[],rfl,av8 hw (ex0 _),ez9 w _,by simp,by simp,by simp,by simp[N2]⟩,o6.alloc _ _,fun b hb=>by simp[A3,Value.ownBlock]at hb;omega⟩;unfold Instr.buildSlice;simp only[ey2,F7,L0 h1,ex2,N7 (show(P.info? T).isSome=true by rw[hi];rfl),Sem.run_ite,Nat.zero_mul,ez6];rw[if_neg (by decide),if_pos trivial];have e0:∀(g:Nat→Value),(Array.range 0).map g=#[]:=fun g=>by simp
 simp only[e0,Instr.fill];rfl
end
section
variable {P:Program} {h k:Hp} {w:World} {t T sz by_:Nat} {v u:Value}
theorem ah4{α:Type}[J0 α]{e:TypeId}(hs:F3 P t T 1 by_=true){xs ys:List α}(ho:A8 h w T v xs)(hu:R k u ys)(hk:B3 k (d7 w))(h63:xs.length+ys.length≤1000000000000)(hb:(xs.length+ys.length)*by_≤140737488355328)(hw:B3 h (d7 w)):
  ∃v' w',(Builtin.append_ #[t,t] e #[v,u]).run P w = .ok v' w'∧A8 h w' T v' (xs++ys)∧o9 (A3 v) w w'∧E8 w v v':=by
 obtain⟨h1,⟨z,hz,hzs⟩,h3,h4,h5,h6⟩:=Q5 hs;obtain⟨i,hi,hiz⟩:=t8 hz;have hby:i.bytes=by_:=by rw[←h4,as3 hi]
 have hsi:i.size=1:=by rw[←h3,C8 hi]
 by_cases hy:ys=[]
 ·subst hy;obtain⟨a,n,c,he,hn,hnc,es,hes,hce⟩:=hu;have hu':R h u ([]:List α):=⟨a,n,c,he,hn,hnc,[],rfl,fun j u hj=>by simp at hj⟩;exact an9 hs rfl ho hu' h63 hb hw
 ·obtain⟨a,n,c,he,hn,hnc,es,hes,hce⟩:=hu;simp at he;subst he;have hne:es≠[]:=by
   intro e;have:=J9 hes;rw[e]at this;have hp:0<ys.length:=List.length_pos_iff.2 hy;have h7:(z7.sz α)=1:=rfl;rw[h7]at this;simp at this;omega
  obtain⟨x0,hx0⟩:∃x0,es[0]?=some x0:=by
   cases es with
   | nil=>exact absurd rfl hne
   | cons x _=>exact⟨x,rfl⟩
  obtain⟨ad,rfl,_⟩:=hce 0 x0 hx0;exact aL5 (e:=e) (L0 h1) hi hiz (by rw[hsi];rfl) (by rw[hzs,hsi]) ho (ad:=ad) hn (aT5 hes) (fun j u hj=>by
   obtain⟨ad',e',hc⟩:=hce j u hj;obtain rfl:=ex1 e';exact G2 hk hc) hy (by simp only[maxLen];omega) (by rw[hby];exact hb) hw
end
section
variable {P:Program} {K:Fr→World→Prop} {f:Fr} {w:World} {d:Option Nat} {ty:TypeId} {pos:String} {aft:Array Edge} {S:World→Prop}
def bf0(P:Program)(g:Value)(args:List Value)(w:World)(K:Fr→World→Prop)(f:Fr)(d:Option Nat):Prop:=match g with
 | .func (.func k) first cap=>ar6 P k (first.toList++args++cap.toList) w K f d
 | _=>False
theorem dE3{k:Nat}{first cap:Array Value}{args:List Value}:bf0 P (.func (.func k) first cap) args w K f d=ar6 P k (first.toList++args++cap.toList) w K f d:=propext eC4
theorem dH3{j:Nat}{asz:Array Operand}{ts:Array TypeId}:A9 P none ⟨d,.call {callee:=.value (.tmp j),args:=asz,argTypes:=ts},ty,pos,aft,none⟩ K f w=bf0 P (f j) (asz.toList.map (ev f)) w K f d:=by
 simp only[A9,aq4,Y1,bc2,ev,aJ1,bf0]
 all_goals (generalize f j=g;cases g<;>try rfl)
theorem dH0{j:Nat}{asz:Array Operand}{ts:Array TypeId}:A9 P (some S) ⟨d,.call {callee:=.value (.tmp j),args:=asz,argTypes:=ts},ty,pos,aft,none⟩ K f w=bf0 P (f j) (asz.toList.map (ev f)) w (G0 S K) f d:=by
 simp only[A9,aq4,Y1,bc2,ev,aJ1,bf0]
 all_goals (generalize f j=g;cases g<;>try rfl)
end
theorem dE6{P:Program}{b d:Code}{Q:Exit→Fr→World→Prop}{f:Fr}{w:World}(keep:List Nat)(I:Fr→World→Prop)(hkp:keep.all (fun i=>!(wrC b).contains i)=true)
  (h1:CW P b (ab8 I Q) f w) (h2:∀f' w',(∀i∈keep,f' i=f i)→I f' w'→CW P d Q f' w'):CW P (.seq b d) Q f w:=by
 rw[be0];refine co5 b (ab8 I Q) _ f w (fun e f' w' hf h=>?_) h1;have hk':∀i∈keep,f' i=f i:=fun i hi=>hf i fun hm=>by
  have:=eE6.1 hkp i hi;simp[hm]at this
 cases e
 case normal=>exact h2 f' w' hk' h
 all_goals exact h
def aw2(c:UInt8):Bool:=decide (97≤c.toNat)&&decide (c.toNat≤122)
def bz3(c:UInt8):Bool:=decide (48≤c.toNat)&&decide (c.toNat≤57)
def Z6(c:UInt8):Bool:=aw2 c||bz3 c
def bY2:List A4:=[ofA #[103,108,111,98,97,108],ofA #[112,114,111,99],ofA #[118,97,114],ofA #[114,101,102],ofA #[105,102],ofA #[101,108,115,101],ofA #[119,104,105,108,101],ofA #[98,114,101,97,107],ofA #[99,111,110,116,105,110,117,101],ofA #[114,101,116,117,114,110],ofA #[103,111,116,111],ofA #[114,101,97,100],ofA #[112,114,105,110,116]]
def bO7(s:A4):Bool:=bY2.contains s
def O6(s:A4):Bool:=match s.b with
 | []=>false
 | c::l=>decide (l.length<8)&&aw2 c&&l.all Z6 && !bO7 s
def aa2(l:List A4):Bool:=l.all O6
def as8(op:Int):Int:=if op=1∨op=2 then 0 else if op=3∨op=4 then 1 else if 5≤op∧op≤17 then 2 else -1
def X3:Nat→Ex→Bool
 | 0,_=>false
 | n+1,x=>if(x.kids.length:Int)≠as8 x.op then false
   else if x.op=1 then decide (0≤x.n)&&decide (x.name=e0)
   else if x.op=2 then decide (x.n=0)&&O6 x.name
   else if x.n≠0∨x.name≠e0 then false
   else x.kids.all (X3 n)
def cz6(x:Ex):Bool:=decide (x.op=0)&&decide (x.n=0)&&decide (x.name=e0)&&decide (x.kids.length=0)
def V6(s:A4)(b:Bool):Bool:=(b&&O6 s)||(!b&&decide (s=e0))
def af8(x:Ex)(b:Bool):Bool:=(b&&X3 20 x)||(!b&&cz6 x)
def aG0(l:List Ar):Bool:=l.all fun a=>V6 a.name a.ref&&af8 a.x (!a.ref)
structure Fl where
 name:Bool
 proc:Bool
 x:Bool
 has:Bool
 thn:Bool
 els:Bool
def R4(s:St):Option Fl:=
 if s.kind=1 then some ⟨true,false,true,s.has,false,false⟩
 else if s.kind=2∨s.kind=10 then some ⟨true,false,false,s.has,false,false⟩
 else if s.kind=3 then some ⟨false,false,true,s.has,false,false⟩
 else if s.kind=4 then some ⟨decide (s.name≠e0),true,false,s.has,false,false⟩
 else if s.kind=5 then some ⟨false,false,true,s.has,true,true⟩
 else if s.kind=6 then some ⟨false,false,true,s.has,true,false⟩
 else if s.kind=9 then some ⟨false,false,s.has,false,false,false⟩
 else if s.kind=7∨s.kind=8 then some ⟨false,false,false,s.has,false,false⟩
 else none
def M8(s:St):Bool:=match R4 s with
 | none=>false
 | some k=>!(k.has||(!k.thn&&decide (0<s.thn.length))||(!k.els&&decide (0<s.els.length))||(!decide (s.kind=4)&&decide (0<s.args.length))) &&
   V6 s.name k.name&&V6 s.proc k.proc&&af8 s.x k.x&&aG0 s.args
def G6:Nat→List St→Int→Option Int
 | 0,l,n=>if l.length=0 then some n else none
 | d+1,l,n=>l.foldlM (fun n s=>if n+1>200∨s.id≠n+1∨aa2 s.labels=false∨M8 s=false then none else(G6 d s.thn (n+1)).bind fun m=>G6 d s.els m) n
def T6(f:Pr)(n:Int):Option Int:=
 if f.params.length>8∨f.vars.length>16∨O6 f.name=false∨aa2 f.vars=false∨aa2 f.fin=false∨(f.params.all fun a=>O6 a.name)=false then none else G6 12 f.body n
def M4(p:Pg):Bool:=decide (p.globals.length≤16)&&decide (p.procs.length≤16)&&aa2 p.globals&&(p.procs.foldlM (fun n f=>T6 f n) 0).isSome
mutual
def ag1:Ex→List A4→List A4
 | .mk op _ name kids,out=>aj8 kids (if op=2∧out.contains name=false then out++[name]else out)
def aj8:List Ex→List A4→List A4
 | [],out=>out
 | x::xs,out=>aj8 xs (ag1 x out)
end
def aa3(x:Ex):List A4:=if X3 20 x then ag1 x []else[]
mutual
def T8:St→Nat
 | .mk _ _ _ _ _ _ _ _ thn els=>1+A6 thn+A6 els
def A6:List St→Nat
 | []=>0
 | t::l=>T8 t+A6 l
end
theorem au1(t:St):T8 t=1+A6 t.thn+A6 t.els:=by
 cases t;simp only[T8,St.thn,St.els]
theorem bv9(t:St):0<T8 t:=by rw[au1];omega
theorem bR0:∀{l:List St} {t:St},t∈l→T8 t≤A6 l
 | s::l,t,h=>by
  rw[A6];rcases ex6.1 h with rfl|h
  ·omega
  ·have:=bR0 h;omega
theorem aK7:∀(l m:List St),A6 (l++m)=A6 l+A6 m
 | [],m=>by simp[A6]
 | s::l,m=>by rw[eG6,A6,A6,aK7 l m];omega
theorem S8:∀(l:List St),l.length≤A6 l
 | []=>by simp
 | s::l=>by have:=S8 l;have:=bv9 s;rw[A6,ey0];omega
def wtT(s:A4):Nat:=1+s.b.length
def au5:List A4→Nat
 | []=>0
 | s::l=>wtT s+au5 l
mutual
def S3:Ex→Nat
 | .mk _ _ name kids=>wtT name+ap4 kids
def ap4:List Ex→Nat
 | []=>0
 | x::l=>S3 x+ap4 l
end
def ai4(a:Ar):Nat:=S3 a.x+wtT a.name
def Z2:List Ar→Nat
 | []=>0
 | a::l=>ai4 a+Z2 l
mutual
def P4:St→Nat
 | .mk _ _ labels name proc x _ args thn els=>S3 x+au5 labels+wtT name+wtT proc+Z2 args+G7 thn+G7 els
def G7:List St→Nat
 | []=>0
 | x::l=>P4 x+G7 l
end
def bo3:List Pa→Nat
 | []=>0
 | a::l=>wtT a.name+bo3 l
def U8(f:Pr):Nat:=wtT f.name+au5 f.vars+au5 f.fin+bo3 f.params+G7 f.body
def az8:List Pr→Nat
 | []=>0
 | f::l=>U8 f+az8 l
def D0(p:Pg):Nat:=au5 p.globals+az8 p.procs
theorem U1:∀(l:List A4),l.length≤au5 l
 | []=>by simp[au5]
 | s::l=>by have:=U1 l;simp only[au5,wtT,ey0];omega
theorem aE8(x:Ex):1≤S3 x:=by cases x;simp only[S3,wtT];omega
theorem bx4:∀(l:List Ex),l.length≤ap4 l
 | []=>by simp[ap4]
 | s::l=>by have:=bx4 l;have:=aE8 s;simp only[ap4,ey0];omega
theorem aW7:∀{l:List Ex} {s:Ex},s∈l→S3 s≤ap4 l
 | t::l,s,h=>by
  simp only[ap4];rcases ex6.1 h with rfl|h
  ·omega
  ·have:=aW7 h;omega
theorem bE2(x:Ex):S3 x=wtT x.name+ap4 x.kids:=by cases x;simp only[S3,Ex.name,Ex.kids]
theorem am0:∀(l:List Ar),l.length≤Z2 l
 | []=>by simp[Z2]
 | s::l=>by have:=am0 l;have:=aE8 s.x;simp only[Z2,ai4,ey0];omega
theorem aH9:∀{l:List Ar} {s:Ar},s∈l→ai4 s≤Z2 l
 | t::l,s,h=>by
  simp only[Z2];rcases ex6.1 h with rfl|h
  ·omega
  ·have:=aH9 h;omega
theorem Q8(s:St):P4 s=S3 s.x+au5 s.labels+wtT s.name+wtT s.proc+Z2 s.args+G7 s.thn+G7 s.els:=by
 cases s;simp only[P4,St.x,St.labels,St.name,St.proc,St.args,St.thn,St.els]
theorem bO8(s:St):3≤P4 s:=by rw[Q8];have:=aE8 s.x;simp only[wtT];omega
theorem bx9:∀(l:List St),3*l.length≤G7 l
 | []=>by simp[G7]
 | s::l=>by have:=bx9 l;have:=bO8 s;simp only[G7,ey0];omega
theorem ag0:∀{l:List St} {s:St},s∈l→P4 s≤G7 l
 | t::l,s,h=>by
  simp only[G7];rcases ex6.1 h with rfl|h
  ·omega
  ·have:=ag0 h;omega
theorem af9:∀(l:List Pa),l.length≤bo3 l
 | []=>by simp[bo3]
 | s::l=>by have:=af9 l;simp only[bo3,wtT,ey0];omega
theorem ab9:∀(l:List Pr),l.length≤az8 l
 | []=>by simp[az8]
 | s::l=>by have:=ab9 l;simp only[az8,U8,wtT,ey0];omega
theorem am1:∀{l:List Pr} {s:Pr},s∈l→U8 s≤az8 l
 | t::l,s,h=>by
  simp only[az8];rcases ex6.1 h with rfl|h
  ·omega
  ·have:=am1 h;omega
mutual
theorem bx8:∀(s:St),3*T8 s≤P4 s
 | .mk _ _ labels name proc x _ args thn els=>by
  have h1:=ap5 thn;have h2:=ap5 els;have h3:=aE8 x;simp only[T8,P4,wtT];omega
theorem ap5:∀(l:List St),3*A6 l≤G7 l
 | []=>by simp[A6,G7]
 | s::l=>by
  have h1:=bx8 s;have h2:=ap5 l;simp only[A6,G7];omega
end
def eG1:=@Bool.eq_false_iff
def eH4:=@Bool.or_true
def eH3:=@Bool.true_or
def ev6:=@List.forall_mem_cons
def ew4:=@List.getElem_mem
def ew6:=@Nat.zero_le
def eA2:=@decide_eq_decide
theorem zJ{a b:Prop}(x:a)(y:b):a∧b:=⟨x,y⟩
def n3:=zJ (zJ (zJ (zJ (zJ (zJ @be0 @dZ6) (zJ @dY9 (zJ @dC1 @dZ2))) (zJ (zJ @dZ3 @dZ0) (zJ @dZ1 (zJ @ed2 @ec8)))) (zJ (zJ (zJ @dK0 @ec9) (zJ @ed0 (zJ @dD3 @dA8))) (zJ (zJ @dD4 @dD5) (zJ @eb5 (zJ @eb4 @dZ9))))) (zJ (zJ (zJ (zJ @ed4 @ep8) (zJ @dB9 (zJ @ec4 @dC0))) (zJ (zJ @ec5 @el3) (zJ @et5 (zJ @cP1 @dI1)))) (zJ (zJ (zJ @cP2 @dI2) (zJ @dI3 (zJ @df4 @cY4))) (zJ (zJ @cY3 @dI0) (zJ @el5 (zJ @el4 @df3)))))) (zJ (zJ (zJ (zJ (zJ @el7 @el6) (zJ @ec2 (zJ @cK1 @dH2))) (zJ (zJ @ek9 @cO9) (zJ @dB8 (zJ @de9 @ek4)))) (zJ (zJ (zJ @el0 @dB7) (zJ @ec1 (zJ @dH4 @ec0))) (zJ (zJ @ev.eq_1 @ev.eq_2) (zJ @ev.eq_3 (zJ @ev.eq_4 @A5.eq_1))))) (zJ (zJ (zJ (zJ @A5.eq_2 @ep7) (zJ @el1 (zJ @el9 @em0))) (zJ (zJ @List.map_cons.{0,0} @List.map_nil.{0,0}) (zJ @List.map_toArray.{0,0} (zJ @bP7.eq_1 @bP7.eq_2)))) (zJ (zJ (zJ @dc1 @eb1) (zJ @eb2 (zJ @cu8.eq_1 @List.getElem?_toArray.{0}))) (zJ (zJ @List.getElem?_cons_zero.{0} (zJ @List.getElem?_cons_succ.{0} @Option.bind_some.{0,0})) (zJ @Option.some.injEq.{0} (zJ @eB8 @Bool.true_eq_false))))))
def n9:=zJ (zJ (zJ (zJ (zJ @dH3 (zJ @dH0 @dE3)) (zJ @Option.map_some.{0,0} (zJ @Option.map_none.{0,0} @Int.toNat_zero))) (zJ (zJ @Option.isNone_none.{0} (zJ @Option.isNone_some.{0} @K0)) (zJ @bA1.eq_1 (zJ @bA1.eq_2 @cL8.eq_1)))) (zJ (zJ (zJ @aX3.eq_1 (zJ @aX3.eq_2 @cz0.eq_1)) (zJ @cy9.eq_1 (zJ @TY @Option.isSome_some.{0}))) (zJ (zJ @eC1 (zJ @Bool.and_true @eF2)) (zJ @ex8 (zJ @ek1 @Int.cast_ofNat_Int))))) (zJ (zJ (zJ (zJ @decide_true (zJ @add_lit @ez0)) (zJ @Nat.zero_mul (zJ @Nat.one_mul @Bool.not_true))) (zJ (zJ @Bool.not_false (zJ @ek2 @dG2)) (zJ @ea6 (zJ @ea5 @ea4)))) (zJ (zJ (zJ @ea3 (zJ @ea2 @ea9)) (zJ @ea0 (zJ @eb0 @dD2))) (zJ (zJ @dD1 (zJ @ea1 @ea8)) (zJ (zJ @bZ3 @cL1) (zJ @ea7 @ep6)))))
theorem dd6:ag2 prog 208=true:=by kernel_rfl
theorem eh4:ag2 prog 209=true:=by kernel_rfl
theorem eh5:ag2 prog 210=true:=by kernel_rfl
theorem ei8:ag2 prog 248=true:=by kernel_rfl
theorem bi6(c:UInt8)(w:World):Calls prog 208 #[.int .u8 c.toNat] w fun e w'=>∃u,e = .returned u∧(u = .bool (aw2 c)∧w'=w):=by
 refine d9 (args:=[.int .u8 c.toNat]) hm func208 rfl (by kernel_rfl) (by show 1≤_;decide +kernel) ?_;unfold aw2;have h1:decide ((97:Int)≤(c.toNat:Int))=decide (97≤c.toNat):=eA2.2 (by omega);have h2:decide ((c.toNat:Int)≤(122:Int))=decide (c.toNat≤122):=eA2.2 (by omega);cases hb:decide (97≤c.toNat)
 ·simp only[n3,n9,simprocAttr,h1,hb];refine n8 results208 ?_;simp only[p7,simprocAttr];exact⟨by trivial,by trivial⟩
 ·simp only[n3,n9,simprocAttr,h1,h2,hb];refine n8 results208 ?_;simp only[p7,simprocAttr];exact⟨by simp,by trivial⟩
theorem ci5(c:UInt8)(w:World):Calls prog 248 #[.int .u8 c.toNat] w fun e w'=>∃u,e = .returned u∧(u = .bool (bz3 c)∧w'=w):=by
 refine d9 (args:=[.int .u8 c.toNat]) hm func248 rfl (by kernel_rfl) (by show 1≤_;decide +kernel) ?_;unfold bz3;have h1:decide ((48:Int)≤(c.toNat:Int))=decide (48≤c.toNat):=eA2.2 (by omega);have h2:decide ((c.toNat:Int)≤(57:Int))=decide (c.toNat≤57):=eA2.2 (by omega);cases hb:decide (48≤c.toNat)
 ·simp only[n3,n9,simprocAttr,h1,hb];refine n8 results248 ?_;simp only[p7,simprocAttr];exact⟨by trivial,by trivial⟩
 ·simp only[n3,n9,simprocAttr,h1,h2,hb];refine n8 results248 ?_;simp only[p7,simprocAttr];exact⟨by simp,by trivial⟩
theorem cp7(s:A4)(w:World):Calls prog 210 #[o7 s] w fun e w'=>∃u,e = .returned u∧(u = .bool (bO7 s)∧w'=w):=by
 refine d9 (args:=[o7 s]) hm func210 rfl (by kernel_rfl) (by show 1≤_;decide +kernel) ?_;have hw:bO7 s=bY2.any fun x=>decide (s=x):=by
  unfold bO7;rw[←List.any_beq]
  congr 1
 simp only[bY2,List.any_cons,List.any_nil]at hw;simp only[n3,n9,simprocAttr];refine i5 (fun h1=>?_) (fun h1=>?_)
 ·simp only[n3,simprocAttr,h1];refine n8 results210 ?_;simp only[p7,simprocAttr];exact⟨by rw[hw];simp only[h1,eH3],by trivial⟩
 simp only[n3,n9,simprocAttr];refine i5 (fun h2=>?_) (fun h2=>?_)
 ·simp only[n3,simprocAttr,h2];refine n8 results210 ?_;simp only[p7,simprocAttr];exact⟨by rw[hw];simp only[h2,eH3,eH4],by trivial⟩
 simp only[n3,n9,simprocAttr];refine i5 (fun h3=>?_) (fun h3=>?_)
 ·simp only[n3,simprocAttr,h3];refine n8 results210 ?_;simp only[p7,simprocAttr];exact⟨by rw[hw];simp only[h3,eH3,eH4],by trivial⟩
 simp only[n3,n9,simprocAttr];refine i5 (fun h4=>?_) (fun h4=>?_)
 ·simp only[n3,simprocAttr,h4];refine n8 results210 ?_;simp only[p7,simprocAttr];exact⟨by rw[hw];simp only[h4,eH3,eH4],by trivial⟩
 simp only[n3,n9,simprocAttr];refine i5 (fun h5=>?_) (fun h5=>?_)
 ·simp only[n3,simprocAttr,h5];refine n8 results210 ?_;simp only[p7,simprocAttr];exact⟨by rw[hw];simp only[h5,eH3,eH4],by trivial⟩
 simp only[n3,n9,simprocAttr];refine i5 (fun h6=>?_) (fun h6=>?_)
 ·simp only[n3,simprocAttr,h6];refine n8 results210 ?_;simp only[p7,simprocAttr];exact⟨by rw[hw];simp only[h6,eH3,eH4],by trivial⟩
 simp only[n3,n9,simprocAttr];refine i5 (fun h7=>?_) (fun h7=>?_)
 ·simp only[n3,simprocAttr,h7];refine n8 results210 ?_;simp only[p7,simprocAttr];exact⟨by rw[hw];simp only[h7,eH3,eH4],by trivial⟩
 simp only[n3,n9,simprocAttr];refine i5 (fun h8=>?_) (fun h8=>?_)
 ·simp only[n3,simprocAttr,h8];refine n8 results210 ?_;simp only[p7,simprocAttr];exact⟨by rw[hw];simp only[h8,eH3,eH4],by trivial⟩
 simp only[n3,n9,simprocAttr];refine i5 (fun h9=>?_) (fun h9=>?_)
 ·simp only[n3,simprocAttr,h9];refine n8 results210 ?_;simp only[p7,simprocAttr];exact⟨by rw[hw];simp only[h9,eH3,eH4],by trivial⟩
 simp only[n3,n9,simprocAttr];refine i5 (fun h10=>?_) (fun h10=>?_)
 ·simp only[n3,simprocAttr,h10];refine n8 results210 ?_;simp only[p7,simprocAttr];exact⟨by rw[hw];simp only[h10,eH3,eH4],by trivial⟩
 simp only[n3,n9,simprocAttr];refine i5 (fun h11=>?_) (fun h11=>?_)
 ·simp only[n3,simprocAttr,h11];refine n8 results210 ?_;simp only[p7,simprocAttr];exact⟨by rw[hw];simp only[h11,eH3,eH4],by trivial⟩
 simp only[n3,n9,simprocAttr];refine i5 (fun h12=>?_) (fun h12=>?_)
 ·simp only[n3,simprocAttr,h12];refine n8 results210 ?_;simp only[p7,simprocAttr];exact⟨by rw[hw];simp only[h12,eH3,eH4],by trivial⟩
 simp only[n3,n9,simprocAttr];refine i5 (fun h13=>?_) (fun h13=>?_)
 ·simp only[n3,simprocAttr];refine n8 results210 ?_;simp only[p7,simprocAttr];exact⟨by rw[hw];simp only[h13,eH3,eH4],by trivial⟩
 ·simp only[n3,simprocAttr];refine n8 results210 ?_;simp only[p7,simprocAttr];exact⟨by rw[hw];simp only[h1,h2,h3,h4,h5,h6,h7,h8,h9,h10,h11,h12,h13,Bool.or_false],by trivial⟩
theorem cL9{s:A4}{k:Nat}(hk:k<s.b.length):∃c,chr s k=some c∧s.b.take (k+1)=s.b.take k++[c]∧c∈s.b:=
 ⟨_,ev4 hk,ew3 hk,ew4 hk⟩
theorem cQ0(s:A4)(w:World)(hl:s.b.length≤1000000):Calls prog 209 #[o7 s,.int .i64 0] w fun e w'=>∃u,e = .returned u∧(∃k:Nat,u = .int .i64 k∧decide (k=s.b.length)=s.b.all Z6∧w'=w):=by
 refine d9 (args:=[o7 s,.int .i64 0]) hm func209 rfl (by kernel_rfl) (by show 2≤_;decide +kernel) ?_;simp only[n3,n9,simprocAttr];refine n7 [0] (σ:=Nat) (fun k f w'=>f 1 = .int .i64 k∧k≤s.b.length∧(s.b.take k).all Z6=true∧w'=w) (fun k=>s.b.length-k) 0 (by decide +kernel) ?_ ?_
 ·simp only[p7,simprocAttr];exact⟨by trivial,ew6 _,by simp,by trivial⟩
 ·rintro k f w' hk ⟨h1,hkl,hall,rfl⟩;simp only[ev6,p7,simprocAttr]at hk;obtain⟨g0,_⟩:=hk;by_cases hlt:k<s.b.length
  ·have hd:decide ((k:Int)<(s.b.length:Nat))=true:=by simpa using hlt
   obtain⟨c,hc,htk,hmem⟩:=cL9 hlt;have hix:=cX6 (P:=prog) (t:=9) (k:=.i64) dx4 dj2 hc;simp only[n3,n9,simprocAttr,g0,h1,hd,hix];refine y5 dd6 (bi6 c _) ?_;rintro u w1 ⟨rfl,rfl⟩;cases hlet:aw2 c
   ·simp only[n3,simprocAttr,g0,h1,hix];refine y5 ei8 (ci5 c _) ?_;rintro u w2 ⟨rfl,rfl⟩;cases hdig:bz3 c
    ·simp only[n3,simprocAttr,h1];refine n8 results209 ?_;simp only[p7,simprocAttr];refine⟨k,by trivial,?_,by trivial⟩;have h2:s.b.all Z6=false:=by
      rw[eG1];intro h3;have:=eE6.1 h3 c hmem;simp[Z6,hlet,hdig]at this
     rw[h2];simp;omega
    ·simp only[n3,n9,simprocAttr,h1];refine⟨k+1,by omega,by rw[B1 k (by omega)],by omega,?_,by trivial⟩;rw[htk,List.all_append,hall];simp[Z6,hdig]
   ·simp only[n3,n9,simprocAttr,h1];refine⟨k+1,by omega,by rw[B1 k (by omega)],by omega,?_,by trivial⟩;rw[htk,List.all_append,hall];simp[Z6,hlet]
  ·have hd:decide ((k:Int)<(s.b.length:Nat))=false:=by simpa using hlt
   have hke:k=s.b.length:=by omega
   simp only[n3,n9,simprocAttr,g0,h1,hd];refine n8 results209 ?_;simp only[p7,simprocAttr];refine⟨k,by trivial,?_,by trivial⟩;subst hke;rw[ew7]at hall;rw[hall];simp
theorem aA5(s:A4)(w:World):Calls prog 142 #[o7 s] w fun e w'=>∃u,e = .returned u∧(u = .bool (O6 s)∧w'=w):=by
 refine d9 (args:=[o7 s]) hm func142 rfl (by kernel_rfl) (by show 1≤_;decide +kernel) ?_;cases hs:s.b with
 | nil=>
  have hl:s.b.length=0:=by rw[hs];rfl
  have h1:decide (((s.b.length:Nat):Int)<1)=true:=by rw[hl];rfl
  simp only[n3,n9,simprocAttr,h1];refine n8 results142 ?_;simp only[p7,simprocAttr];exact⟨by rw[O6,hs],by trivial⟩
 | cons c l=>
  have hl:s.b.length=l.length+1:=by rw[hs];rfl
  have hnf:O6 s=(decide (l.length<8)&&aw2 c&&l.all Z6 && !bO7 s):=by rw[O6,hs]
  have hall:s.b.all Z6=(Z6 c&&l.all Z6):=by rw[hs];rfl
  have h1:decide (((s.b.length:Nat):Int)<1)=false:=by rw[hl];simp;omega
  have hc:chr s 0=some c:=by unfold chr;rw[hs];rfl
  have hix:V5 prog 9 (o7 s) (.int .i64 0)=some (.int .u8 (c.toNat:Int)):=cX6 (k:=.i64) (i:=0) dx4 dj2 hc;cases h2:decide ((8:Int)<((s.b.length:Nat):Int))
  ·have hl8:l.length<8:=by simp at h2;omega
   simp only[n3,n9,simprocAttr,h1,h2,hix];refine y5 dd6 (bi6 c _) ?_;rintro u w1 ⟨rfl,rfl⟩;cases hlet:aw2 c
   ·simp only[n3,n9,simprocAttr];refine n8 results142 ?_;simp only[p7,simprocAttr];exact⟨by rw[hnf,hlet];simp,by trivial⟩
   ·simp only[n3,n9,simprocAttr];refine y5 eh4 (cQ0 s _ (by omega)) ?_;rintro u w2 ⟨k,rfl,hk,rfl⟩;have hk2:decide ((k:Int)=((s.b.length:Nat):Int))=l.all Z6:=by
     rw[hall,show Z6 c=true by simp[Z6,hlet],eC1]at hk;rw[←hk];exact eA2.2 (by omega)
    cases ha:l.all Z6
    ·rw[ha]at hk2;simp only[n3,n9,simprocAttr,hk2];refine n8 results142 ?_;simp only[p7,simprocAttr];exact⟨by rw[hnf,ha];simp,by trivial⟩
    ·rw[ha]at hk2;simp only[n3,n9,simprocAttr,hk2];refine y5 eh5 (cp7 s _) ?_;rintro u w3 ⟨rfl,rfl⟩;simp only[n3,n9,simprocAttr];refine n8 results142 ?_;simp only[p7,simprocAttr];exact⟨by rw[hnf,ha,hlet];simp[hl8],by trivial⟩
  ·simp only[n3,n9,simprocAttr,h1,h2];refine n8 results142 ?_;simp only[p7,simprocAttr];exact⟨by rw[hnf,show decide (l.length<8)=false by simp at h2 ⊢;omega];rfl,by trivial⟩
def eG2:=@List.sum_cons
def D6:=zJ (zJ (zJ (zJ @dZ8 @ed3) (zJ @eb9 @dB6)) (zJ (zJ @de8 @ek3) (zJ @cJ9 @dG9))) (zJ (zJ (zJ @ek8 @cO7) (zJ @dB5 @eb8)) (zJ (zJ @dH1 @eb7) (zJ @List.drop_succ_cons.{0} @List.drop_zero.{0})))
theorem cw4:ag2 prog 182=true:=by kernel_rfl
theorem cX4:ag2 prog 54=true:=by kernel_rfl
theorem aB3(l:List St){k:Nat}(hk:k<l.length):A6 (l.take (k+1))=A6 (l.take k)+T8 l[k]:=by
 rw[ew3 hk,aK7];simp[A6]
theorem an0(l:List St)(k:Nat):A6 (l.take k)≤A6 l:=by
 have:=aK7 (l.take k) (l.drop k);rw[eA6]at this;omega
theorem bl4:∀(m:Nat) (t:St) (v:Value) (w:World),T8 t≤m→SV (d7 w) v t→P4 t≤1000000→Calls prog 182 #[v] w fun e w'=>∃u,e = .returned u∧(u = .int .i64 (T8 t:Nat)∧o6 w w')
 | 0,t,v,w,hsm,_,_=>absurd (bv9 t) (by omega)
 | m+1,t,v,w,hsm,hv,hwt=>by
  refine d9 (args:=[v]) hm func182 rfl (by kernel_rfl) (by show 1≤_;decide +kernel) ?_;obtain⟨a,w1,hbx,hx,ha⟩:=aj3 hv (i4 _);obtain⟨vl,va,vt,ve,hl,hra,ht,he,hatx,ld,sd⟩:=ha.st;have l1:=ld w1 (i4 _);have hS1:=ht.isS;have hn1:=ht.vlen;have hS2:=he.isS;have hn2:=he.vlen;have hsz:=bx8 t;have heq:=au1 t;have hwe:=Q8 t;have hc1:=S8 t.thn;have hc2:=S8 t.els;simp only[n3,n9,simprocAttr,hbx,l1,hS1,hn1];refine n7 [1,9,10] (σ:=Nat) (fun k f w'=>f 11 = .int .i64 k∧k≤t.thn.length∧f 3 = .int .i64 ((1+A6 (t.thn.take k):Nat):Int)∧o6 w1 w') (fun k=>t.thn.length-k) 0 (by decide +kernel) ?_ ?_
  ·simp only[p7,simprocAttr];exact⟨by trivial,ew6 _,by simp[A6],o9.refl _⟩
  ·rintro k f w2 hk ⟨h11,hkl,h3,hx2⟩;simp only[ev6,p7,simprocAttr]at hk;obtain⟨e1,e9,e10,_⟩:=hk;simp only[n3,n9,simprocAttr,h11,e10];refine i5 (fun hc=>?_) (fun hc=>?_)
   ·have hlt:k<t.thn.length:=by simpa using hc
    have hin:=ht.inS hlt;obtain⟨sv,hsv,hld⟩:=G1 (P:=prog) (t:=45) ht (b7 hx2) (ev4 hlt) bb2 bb7 aR7 ah8;rw[ah8]at hld;have htk:=aB3 t.thn hlt;have hle1:=an0 t.thn (k+1);have hwm:=ag0 (ew4 hlt);generalize t.thn[k]=s at hsv htk hwm;obtain⟨b,wz,w3,hal,hst,hx3,hat⟩:=aS1 (hsv.mono (b7 hx2)) (i4 _);obtain⟨ss,hss,lss,_⟩:=hat.st_v;have l3:=lss w3 (i4 _);simp only[n3,n9,y0,simprocAttr,h11,e9,hin,hld,hal,hst,l3,h3];refine B8 cw4 (bl4 m s ss w3 (by omega) hss (by omega)) (fun w4 hx4=>?_);simp only[n3,n9,simprocAttr,h11];exact⟨k+1,by omega,by rw[B1 k (by omega)],by omega,by rw[L4 _ (by omega)];congr 1;omega,hx2.trans (hx3.trans hx4)⟩
   ·have hge:k=t.thn.length:=by simp at hc;omega
    subst hge;rw[ew7]at h3;have l2:=ld w2 (b7 hx2);simp only[n3,n9,simprocAttr,e1,l2,hS2,hn2];refine n7 [1,21,22] (σ:=Nat) (fun k f w'=>f 23 = .int .i64 k∧k≤t.els.length∧f 3 = .int .i64 ((1+A6 t.thn+A6 (t.els.take k):Nat):Int)∧o6 w1 w') (fun k=>t.els.length-k) 0 (by decide +kernel) ?_ ?_
    ·simp only[p7,simprocAttr];exact⟨by trivial,ew6 _,by simp[A6,h3],hx2⟩
    ·rintro k f w2 hk ⟨h23,hkl,h3,hx2⟩;simp only[ev6,p7,simprocAttr]at hk;obtain⟨e1,e21,e22,_⟩:=hk;simp only[n3,n9,simprocAttr,h23,e22];refine i5 (fun hc=>?_) (fun hc=>?_)
     ·have hlt:k<t.els.length:=by simpa using hc
      have hin:=he.inS hlt;obtain⟨sv,hsv,hld⟩:=G1 (P:=prog) (t:=45) he (b7 hx2) (ev4 hlt) bb2 bb7 aR7 ah8;rw[ah8]at hld;have htk:=aB3 t.els hlt;have hle1:=an0 t.els (k+1);have hwm:=ag0 (ew4 hlt);generalize t.els[k]=s at hsv htk hwm;obtain⟨b,wz,w3,hal,hst,hx3,hat⟩:=aS1 (hsv.mono (b7 hx2)) (i4 _);obtain⟨ss,hss,lss,_⟩:=hat.st_v;have l3:=lss w3 (i4 _);simp only[n3,n9,y0,simprocAttr,h23,e21,hin,hld,hal,hst,l3,h3];refine B8 cw4 (bl4 m s ss w3 (by omega) hss (by omega)) (fun w4 hx4=>?_);simp only[n3,n9,simprocAttr,h23];exact⟨k+1,by omega,by rw[B1 k (by omega)],by omega,by rw[L4 _ (by omega)];congr 1;omega,hx2.trans (hx3.trans hx4)⟩
     ·have hge:k=t.els.length:=by simp at hc;omega
      subst hge;rw[ew7]at h3;simp only[n3,simprocAttr,h3];refine n8 results182 ?_;simp only[p7,simprocAttr];exact⟨by rw[heq],hx.trans hx2⟩
theorem ci3:∀(m:Nat) (l:List St) (v:Value) (w:World),A6 l≤m→R (d7 w) v l→G7 l≤1000000→Calls prog 54 #[v] w fun e w'=>∃u,e = .returned u∧(u = .int .i64 (A6 l:Nat)∧o6 w w'):=by
 intro m
 induction m with
 | zero=>
  intro l v w hsm hv hwt;have hl0:l.length=0:=by have:=S8 l;omega
  refine d9 (args:=[v]) hm func54 rfl (by kernel_rfl) (by show 1≤_;decide +kernel) ?_;have hS:=hv.isS;have hn:=hv.vlen;simp only[n3,n9,simprocAttr,hS,hn];refine n7 [7,8] (σ:=Nat) (fun k f w'=>f 9 = .int .i64 0∧f 3 = .int .i64 ((l.length:Nat):Int)∧w'=w) (fun k=>0) 0 (by decide +kernel) ?_ ?_
  ·simp only[p7,simprocAttr];exact⟨by trivial,by trivial,by trivial⟩
  ·rintro k f w2 hk ⟨h9,h3,rfl⟩;simp only[ev6,p7,simprocAttr]at hk;obtain⟨e7,e8,_⟩:=hk;have d0:decide ((0:Int)<((l.length:Nat):Int))=false:=by rw[hl0];decide
   simp only[n3,n9,simprocAttr,h9,e8,d0,h3];refine n8 results54 ?_;simp only[p7,simprocAttr];exact⟨by rw[List.eq_nil_of_length_eq_zero hl0];rfl,o9.refl _⟩
 | succ m ih=>
  intro l v w hsm hv hwt;refine d9 (args:=[v]) hm func54 rfl (by kernel_rfl) (by show 1≤_;decide +kernel) ?_;have hS:=hv.isS;have hn:=hv.vlen;have hwsz:=ap5 l;have hcl:=S8 l;simp only[n3,n9,simprocAttr,hS,hn];refine n7 [0,7,8] (σ:=Nat) (fun k f w'=>f 9 = .int .i64 k∧k≤l.length∧f 3 = .int .i64 ((l.length+A6 (l.take k)-k:Nat):Int)∧o6 w w') (fun k=>l.length-k) 0 (by decide +kernel) ?_ ?_
  ·simp only[p7,simprocAttr];exact⟨by trivial,ew6 _,by simp[A6],o9.refl _⟩
  ·rintro k f w2 hk ⟨h9,hkl,h3,hx2⟩;simp only[ev6,p7,simprocAttr]at hk;obtain⟨e0,e7,e8,_⟩:=hk;have hlk:=S8 (l.take k);rw[ew9,eC3 hkl]at hlk;simp only[n3,n9,simprocAttr,h9,e8];refine i5 (fun hc=>?_) (fun hc=>?_)
   ·have hlt:k<l.length:=by simpa using hc
    have hin:=hv.inS hlt;have hat:=(hv.at_ (ev4 hlt));have htk:=aB3 l hlt;have hle1:=an0 l (k+1);have hwm:=ag0 (ew4 hlt);generalize l[k]=t at hat htk hwm;have heq:=au1 t;have hwe:=Q8 t;obtain⟨vl,va,vt,ve,hl',hra,ht,he,hatx,ld,sd⟩:=hat.st;have hxd:=hx2.trans (o6.drew w2);have s2:=sd (fun w'=>o6 w2.drew w') w2.drew (o9.refl _) (fun w' h=>b7 (hxd.trans h));have hz:z7.sz St=13:=rfl;rw[hz]at s2;simp only[n3,simprocAttr,h9];refine C5 (fun w'=>o6 w2.drew w') 16 (B0 [0,1,2,3,4,5,7,8,9,10,11,6,12,13,14,15]) (by decide +kernel) (o9.refl _) ?_;simp only[D6,B0,n3,n9,y0,simprocAttr,e0,h3,hin,s2];refine B8 cX4 (ih t.thn vt _ (by omega) (z7.mono (b7 hxd) ht) (by omega)) (fun w3 hx3=>?_);simp only[D6,n3,simprocAttr,G0];refine⟨hx3,?_⟩;refine B8 cX4 (ih t.els ve _ (by omega) (z7.mono (b7 (hxd.trans hx3)) he) (by omega)) (fun w4 hx4=>?_);have hw1:IntKind.i64.wrap (((A6 t.thn:Nat):Int)+((A6 t.els:Nat):Int))=((A6 t.thn+A6 t.els:Nat):Int):=by rw[L4 _ (by omega)];omega
    have hw2:IntKind.i64.wrap (((l.length+A6 (l.take k)-k:Nat):Int)+((A6 t.thn+A6 t.els:Nat):Int))=((l.length+A6 (l.take (k+1))-(k+1):Nat):Int):=by rw[L4 _ (by omega)];omega
    simp only[D6,n3,n9,simprocAttr,G0,hw1,hw2,h9];refine⟨hx3.trans hx4,?_⟩;exact⟨k+1,by omega,by rw[B1 k (by omega)],by omega,by trivial,hxd.trans (hx3.trans hx4)⟩
   ·have hge:k=l.length:=by simp at hc;omega
    subst hge;rw[ew7]at h3;simp only[n3,simprocAttr,h3];refine n8 results54 ?_;simp only[p7,simprocAttr];exact⟨by congr 1;congr 1;omega,hx2⟩
def bF7(p:Pg):Nat:=(p.procs.map fun f=>A6 f.body).sum
theorem bd2:∀(l:List Pr),3*(l.map fun f=>A6 f.body).sum≤az8 l
 | []=>by simp[az8]
 | f::l=>by
  have h1:=bd2 l;have h2:=ap5 f.body;simp only[eA3,eG2,az8,U8];omega
theorem cf5(v:Value)(p:Pg)(w:World)(hv:SV (d7 w) v p)(hwt:D0 p≤1000000):Calls prog 36 #[v] w fun e w'=>∃u,e = .returned u∧(u = .int .i64 (bF7 p:Nat)∧o6 w w'):=by
 refine d9 (args:=[v]) hm func36 rfl (by kernel_rfl) (by show 1≤_;decide +kernel) ?_;obtain⟨a,w1,hbx,hx,ha⟩:=V0 hv (i4 _);obtain⟨vg,vp,hg,hp,ld,sd⟩:=ha.pg;have l1:=ld w1 (i4 _);have hS:=hp.isS;have hn:=hp.vlen;have hpl:=ab9 p.procs;have hcp:=bd2 p.procs;unfold D0 at hwt;simp only[n3,n9,simprocAttr,hbx,l1,hS,hn];refine n7 [1,7,8] (σ:=Nat) (fun k f w'=>f 9 = .int .i64 k∧k≤p.procs.length∧f 3 = .int .i64 ((((p.procs.take k).map fun f=>A6 f.body).sum:Nat):Int)∧o6 w1 w') (fun k=>p.procs.length-k) 0 (by decide +kernel) ?_ ?_
 ·simp only[p7,simprocAttr];exact⟨by trivial,ew6 _,by simp,o9.refl _⟩
 ·rintro k f w2 hk ⟨h9,hkl,h3,hx2⟩;simp only[ev6,p7,simprocAttr]at hk;obtain⟨e1,e7,e8,_⟩:=hk;simp only[n3,n9,simprocAttr,h9,e8];refine i5 (fun hc=>?_) (fun hc=>?_)
  ·have hlt:k<p.procs.length:=by simpa using hc
   have hin:=hp.inS hlt;obtain⟨sv,hsv,hld⟩:=G1 (P:=prog) (t:=51) hp (b7 hx2) (ev4 hlt) ao8 ap2 ao9 O8;rw[O8]at hld;have htk:((p.procs.take (k+1)).map fun f=>A6 f.body).sum=((p.procs.take k).map fun f=>A6 f.body).sum+A6 p.procs[k].body:=by
    rw[ew3 hlt,ey8,List.sum_append];simp
   have hle1:((p.procs.take (k+1)).map fun f=>A6 f.body).sum≤(p.procs.map fun f=>A6 f.body).sum:=by
    conv=>rhs;rw[←eA6 (k+1) p.procs,ey8,List.sum_append]
    omega
   have hwm:=am1 (ew4 hlt);generalize p.procs[k]=q at hsv htk hwm;obtain⟨b,wz,w3,hal,hst,hx3,hat⟩:=aH7 (hsv.mono (b7 hx2)) (i4 _);obtain⟨_,_,vb,_,_,_,hrb,_,ldq,_⟩:=hat.pr;have l3:=ldq w3 (i4 _);simp only[n3,n9,y0,simprocAttr,h9,e7,hin,hld,hal,hst,l3,h3];refine B8 cX4 (ci3 _ q.body vb w3 (ex0 _) hrb (by unfold U8 at hwm;omega)) (fun w4 hx4=>?_);simp only[n3,n9,simprocAttr,h9];exact⟨k+1,by omega,by rw[B1 k (by omega)],by omega,by rw[L4 _ (by omega)];congr 1;omega,hx2.trans (hx3.trans hx4)⟩
  ·have hge:k=p.procs.length:=by simp at hc;omega
   subst hge;rw[ew7]at h3;simp only[n3,simprocAttr,h3];refine n8 results36 ?_;simp only[p7,simprocAttr];exact⟨by trivial,hx.trans hx2⟩
def bJ3(x:A4):List A4→List A4
 | []=>[x]
 | y::l=>if ltS y x then y::bJ3 x l else x::y::l
def S5:List A4→List A4
 | []=>[]
 | x::l=>bJ3 x (S5 l)
def I8{α:Type}[DecidableEq α]:List α→List α
 | []=>[]
 | [x]=>[x]
 | x::y::l=>if x=y then I8 (y::l)else x::I8 (y::l)
def C7(l:List A4):List A4:=I8 (S5 l)
mutual
def R6:St→Nat→Int→Int→Int→Int→List It
 | .mk id kind labels name proc x has args thn els,k,pr,up,nx,lp=>
  let me:Int:=k+1
  let nx':=if kind=6 then me else nx
  let lp':=if kind=6 then me else lp
  let a:=C0 thn (k+1) pr me nx' lp'
  ⟨.mk id kind labels name proc x has args thn els,pr,up,nx,lp⟩::(a++C0 els (k+1+a.length) pr me nx' lp')
def C0:List St→Nat→Int→Int→Int→Int→List It
 | [],_,_,_,_,_=>[]
 | t::l,k,pr,up,nx,lp=>
  let a:=R6 t k pr up (if l.length=0 then nx else k+1+T8 t) lp
  a++C0 l (k+a.length) pr up nx lp
end
def E9(s:Sh)(i:Nat)(f:Pr):Sh:=
 let a:=C0 f.body s.l.length i 0 (-1) 0
 ⟨s.p,s.l++a,s.lo++[(s.l.length:Int)+1],s.hi++[(s.l.length:Int)+a.length+1]⟩
def G4(s:Sh):Nat→List Pr→Sh
 | _,[]=>s
 | i,f::l=>G4 (E9 s i f) (i+1) l
def b9(p:Pg):Sh:=G4 ⟨p,[],[],[]⟩ 0 p.procs
def V2(l:List Int)(i:Int):Int:=l.getD i.toNat 0
def Sh.of(s:Sh)(i:Int):List It:=(s.l.take (V2 s.hi i-1).toNat).drop (V2 s.lo i-1).toNat
def W1{α:Type}(p:α→Bool):Nat→List α→Int
 | _,[]=>-1
 | i,x::l=>if p x then i else W1 p (i+1) l
def T5(procs:List Pr)(n:A4):Int:=W1 (fun f=>decide (f.name=n)) 0 procs
def Sh.pr(s:Sh)(n:A4):Int:=T5 s.p.procs n
def cm1:St:=.mk 0 0 [] e0 e0 (.mk 0 0 e0 []) false [] [] []
def ek6:It:=⟨cm1,0,0,0,0⟩
def bp9:Pr:=⟨e0,[],[],[],[]⟩
def Sh.it(s:Sh)(id:Int):It:=s.l.getD (id-1).toNat ek6
def Sh.fn(s:Sh)(i:Int):Pr:=s.p.procs.getD i.toNat bp9
def Sh.first(s:Sh)(i:Int):Int:=if V2 s.lo i<V2 s.hi i then V2 s.lo i else -1
def Sh.at(s:Sh)(i:Int)(lb:A4):Option Int:=match(s.of i).find? fun it=>it.s.labels.contains lb with
 | some it=>some it.s.id
 | none=>if(s.fn i).fin.contains lb then some (-1)else none
def I6(a:Ar):List A4:=(if a.ref then[a.name]else[])++aa3 a.x
def I4(t:St):List A4:=(if t.kind≠10∧t.name≠e0 then[t.name]else[])++aa3 t.x++t.args.flatMap I6
def ay8(p:Pg)(f:Pr)(n:A4):Int:=match f.params.find? fun a=>decide (a.name=n)with
 | some a=>if a.ref then 3 else 2
 | none=>if f.vars.contains n then 4 else if p.globals.contains n then 1 else 0
def bc4(f:Pr):List A4:=f.params.map (·.name)++f.vars
def Y6(l:List A4):Bool:=!decide l.Nodup
def R3:A4:=ofA #[109,97,105,110]
def ad2(p:Pg)(f:Pr)(procs:List A4)(t:St):Bool:=(I4 t).all (fun n=>!decide (ay8 p f n=0))&&(!decide (t.kind=4)||(!decide (t.proc=R3)&&procs.contains t.proc))
def W8(p:Pg)(procs:List A4)(f:Pr)(l:List It):Option (Int×Int):=
 if Y6 (bc4 f)||(bc4 f).any (fun n=>p.globals.contains n)then some (5,0)
 else match l.find? fun it=>!ad2 p f procs it.s with
  | some it=>some (5,it.s.id)
  | none=>none
def L7(p:Pg)(s:Sh)(procs:List A4):Nat→List Pr→Option (Int×Int)
 | _,[]=>none
 | i,f::l=>match W8 p procs f (s.of i)with
   | some e=>some e
   | none=>L7 p s procs (i+1) l
def L6(p:Pg):Int×Int:=
 if M4 p=false then(1,0)
 else let procs:=p.procs.map (·.name);let first:=T5 p.procs R3
  if Y6 p.globals||Y6 procs||decide (first<0)||decide (0<(p.procs.getD first.toNat bp9).params.length)then(5,0)
  else(L7 p (b9 p) procs 0 p.procs).getD (0,0)
def bk8(l:List Pa)(a:List Ar):Bool:=decide (l.length=a.length)&&(l.zip a).all fun x=>x.1.ref==x.2.ref
def ad0(p:Pg)(s:St):Bool:=decide (s.kind=4)&&(match p.procs.find? fun f=>decide (f.name=s.proc)with
 | some f=>bk8 f.params s.args
 | none=>false)
def X6(p:Pg):Int×Int:=if(L6 p).1≠0 then(1,0)else match(b9 p).l.find? fun it=>decide (it.s.kind=4) && !ad0 p it.s with
 | some it=>(6,it.s.id)
 | none=>(0,0)
def an3:List A4→List A4→Option (List A4)
 | seen,[]=>some seen
 | seen,n::l=>if seen.contains n then none else an3 (seen++[n]) l
def an5(s:Sh)(it:It):Bool:=if it.s.kind=7∨it.s.kind=8 then !decide (it.loop=0)else if it.s.kind=10 then(s.at it.proc it.s.name).isSome else true
def aq2(s:Sh):List A4→List It→List A4 ⊕ Int
 | seen,[]=>.inl seen
 | seen,it::l=>match an3 seen it.s.labels with
   | none=>.inr it.s.id
   | some seen'=>if an5 s it then aq2 s seen' l else .inr it.s.id
def an4(s:Sh)(f:Pr)(l:List It):Option (Int×Int):=match aq2 s [] l with
 | .inr id=>some (7,id)
 | .inl seen=>match an3 seen f.fin with
   | none=>some (7,0)
   | some _=>none
def P9(s:Sh):Nat→List Pr→Option (Int×Int)
 | _,[]=>none
 | i,f::l=>match an4 s f (s.of i)with
   | some e=>some e
   | none=>P9 s (i+1) l
def ay7(p:Pg):Int×Int:=if(L6 p).1≠0 then(1,0)else(P9 (b9 p) 0 p.procs).getD (0,0)
def ac6(s:Sh)(n:A4):List A4:=C7 (((s.of (s.pr n)).filter fun it=>decide (it.s.kind=4)).map (·.s.proc))
def Z5(out:List A4):List A4→List A4
 | []=>out
 | n::l=>Z5 (if out.contains n then out else out++[n]) l
def S7(g:A4→List A4):Nat→Nat→List A4→List A4
 | 0,_,out=>out
 | m+1,i,out=>match out[i]? with
   | none=>out
   | some n=>S7 g m (i+1) (Z5 out (g n))
def ar9(s:Sh)(n:A4):List A4:=S5 (S7 (ac6 s) (s.p.procs.length+1) 0 [n])
def aC9(p:Pg)(n:A4):Bool:=decide ((L6 p).1=0)&&p.procs.any fun f=>decide (f.name=n)
def N6(p:Pg)(n:A4):List A4:=if aC9 p n then
  let s:=b9 p
  C7 ((ar9 s n).flatMap fun m=>(s.of (s.pr m)).flatMap fun it=>(I4 it.s).filter fun v=>p.globals.contains v)
 else[]
def ad8(name:A4)(touched:List A4):List A4→List Ar→Bool
 | _,[]=>true
 | seen,a::l=>if a.ref then(if seen.contains a.name||decide (a.name=name)||touched.contains a.name then false else ad8 name touched (seen++[a.name]) l)else ad8 name touched seen l
def ad7(s:St)(touched:List A4):Bool:=ad8 s.name touched [] s.args
def aA8(p:Pg):Int×Int:=if(X6 p).1≠0 then(1,0)else match(b9 p).l.find? fun it=>decide (it.s.kind=4) && !ad7 it.s (N6 p it.s.proc)with
 | some it=>(8,it.s.id)
 | none=>(0,0)
def aB1(p:Pg):Int×Int:=
 if M4 p=false then(1,0)
 else if(L6 p).1≠0 then L6 p
 else if(X6 p).1≠0 then X6 p
 else if(ay7 p).1≠0 then ay7 p
 else aA8 p
def T2(p:Pg):Bool:=decide ((aB1 p).1=0)
theorem an2{α:Type}(p:α→Bool):∀(l:List α) (i k:Nat) (hk:k<l.length),(∀j (hj:j<k),p (l[j]'(by omega))=false)→p l[k]=true→W1 p i l=(i+k:Nat)
 | [],i,k,hk,_,_=>by simp at hk
 | x::l,i,0,hk,h1,h2=>by
  have h2':p x=true:=h2;rw[W1,if_pos h2'];rfl
 | x::l,i,k+1,hk,h1,h2=>by
  have h0:p x=false:=h1 0 (by omega);rw[W1,if_neg (by rw[h0];simp),an2 p l (i+1) k (by simpa using hk) (fun j hj=>h1 (j+1) (by omega)) h2]
  congr 1;omega
theorem as7{α:Type}(p:α→Bool):∀(l:List α) (i:Nat),(∀x∈l,p x=false)→W1 p i l = -1
 | [],i,_=>rfl
 | x::l,i,h=>by
  rw[W1,if_neg (by rw[h x (by simp)];simp)];exact as7 p l (i+1) fun y hy=>h y (eA7 _ hy)
theorem as6{α:Type}(p:α→Bool):∀(l:List α) (i:Nat),decide (0≤W1 p i l)=l.any p
 | [],i=>rfl
 | x::l,i=>by
  rw[W1,List.any_cons];cases hp:p x
  ·rw[if_neg (by simp),as6 p l];rfl
  ·rw[if_pos rfl];simp
theorem aC6{α:Type}(p:α→Bool):∀(l:List α) (i:Nat),0≤W1 p i l→∃k,W1 p i l=(i+k:Nat)∧∃x,l[k]?=some x∧p x=true
 | [],i,h=>by simp[W1]at h
 | x::l,i,h=>by
  rw[W1]at h ⊢;cases hp:p x
  ·rw[hp,if_neg (by simp)]at h;rw[if_neg (by simp)];obtain⟨k,h1,y,h2,h3⟩:=aC6 p l (i+1) h;exact⟨k+1,by rw[h1];congr 1;omega,y,by simpa using h2,h3⟩
  ·rw[if_pos rfl];exact⟨0,by simp,x,rfl,hp⟩
theorem dJ3:F3 prog 111 121 17 240=true:=by kernel_rfl
theorem cZ2:F3 prog 112 3 1 8=true:=by kernel_rfl
structure ShS (h:Hp) (w:World) (gb:Nat) (vg vp vL vLo vHi:Value) (L:List It) (lo hi:List Int):Prop where
 free:h gb=none
 cell:w.heap[gb]?=some (.cells #[vg,vp,vL,vLo,vHi] 114 (0,0))
 oL:A8 h w 121 vL L
 oLo:A8 h w 3 vLo lo
 oHi:A8 h w 3 vHi hi
 d1:∀b,A3 vL b→b≠gb∧¬A3 vLo b∧¬A3 vHi b
 d2:∀b,A3 vLo b→b≠gb∧¬A3 vHi b
 d3:∀b,A3 vHi b→b≠gb
section
variable {h:Hp} {w:World} {gb:Nat} {vg vp vL vLo vHi:Value} {L:List It} {lo hi:List Int}
theorem ShS.lt(s:ShS h w gb vg vp vL vLo vHi L lo hi):gb<w.heap.size:=(ew1.1 s.cell).1
theorem ShS.mod{M:Nat→Prop}{w':World}(s:ShS h w gb vg vp vL vLo vHi L lo hi)(hm:o9 M w w')(h0:¬M gb)(h1:∀b,A3 vL b→¬M b)(h2:∀b,A3 vLo b→¬M b)(h3:∀b,A3 vHi b→¬M b):ShS h w' gb vg vp vL vLo vHi L lo hi:=
 ⟨s.free,(hm.block gb s.lt h0).trans s.cell,s.oL.mod hm h1,s.oLo.mod hm h2,s.oHi.mod hm h3,s.d1,s.d2,s.d3⟩
theorem ShS.ext{w':World}(s:ShS h w gb vg vp vL vLo vHi L lo hi)(hx:o6 w w'):ShS h w' gb vg vp vL vLo vHi L lo hi:=
 s.mod hx id (fun _ _=>id) (fun _ _=>id) (fun _ _=>id)
theorem ShS.setL{w1 w2:World}{vL':Value}{L':List It}(s:ShS h w gb vg vp vL vLo vHi L lo hi)(h1:o9 (A3 vL) w w1)(ho:A8 h w1 121 vL' L')(hv:E8 w vL vL')
  (h2:o9 (fun b=>b=gb) w1 w2) (hc:w2.heap[gb]?=some (.cells #[vg,vp,vL',vLo,vHi] 114 (0,0))):ShS h w2 gb vg vp vL' vLo vHi L' lo hi:=by
 have hne:∀b,A3 vL' b→b≠gb∧¬A3 vLo b∧¬A3 vHi b:=fun b hb=>by
  rcases hv b hb with k|k
  ·exact s.d1 b k
  ·exact⟨fun e=>by have:=s.lt;omega,fun e=>by have:=s.oLo.lt e;omega,fun e=>by have:=s.oHi.lt e;omega⟩
 refine⟨s.free,hc,ho.mod h2 fun b hb=>(hne b hb).1,(s.oLo.mod h1 fun b hb hb2=>(s.d1 b hb2).2.1 hb).mod h2 fun b hb=>(s.d2 b hb).1,(s.oHi.mod h1 fun b hb hb2=>(s.d1 b hb2).2.2 hb).mod h2 fun b hb=>s.d3 b hb,hne,s.d2,s.d3⟩
theorem ShS.setLo{w1 w2:World}{v':Value}{lo':List Int}(s:ShS h w gb vg vp vL vLo vHi L lo hi)(h1:o9 (A3 vLo) w w1)(ho:A8 h w1 3 v' lo')(hv:E8 w vLo v')
  (h2:o9 (fun b=>b=gb) w1 w2) (hc:w2.heap[gb]?=some (.cells #[vg,vp,vL,v',vHi] 114 (0,0))):ShS h w2 gb vg vp vL v' vHi L lo' hi:=by
 have hne:∀b,A3 v' b→b≠gb∧¬A3 vL b∧¬A3 vHi b:=fun b hb=>by
  rcases hv b hb with k|k
  ·exact⟨(s.d2 b k).1,fun e=>(s.d1 b e).2.1 k,(s.d2 b k).2⟩
  ·exact⟨fun e=>by have:=s.lt;omega,fun e=>by have:=s.oL.lt e;omega,fun e=>by have:=s.oHi.lt e;omega⟩
 refine⟨s.free,hc,(s.oL.mod h1 fun b hb hb2=>(s.d1 b hb).2.1 hb2).mod h2 fun b hb=>(s.d1 b hb).1,ho.mod h2 fun b hb=>(hne b hb).1,(s.oHi.mod h1 fun b hb hb2=>(s.d2 b hb2).2 hb).mod h2 fun b hb=>s.d3 b hb,fun b hb=>⟨(s.d1 b hb).1,fun e=>(hne b e).2.1 hb,(s.d1 b hb).2.2⟩,fun b hb=>⟨(hne b hb).1,(hne b hb).2.2⟩,s.d3⟩
theorem ShS.setHi{w1 w2:World}{v':Value}{hi':List Int}(s:ShS h w gb vg vp vL vLo vHi L lo hi)(h1:o9 (A3 vHi) w w1)(ho:A8 h w1 3 v' hi')(hv:E8 w vHi v')
  (h2:o9 (fun b=>b=gb) w1 w2) (hc:w2.heap[gb]?=some (.cells #[vg,vp,vL,vLo,v'] 114 (0,0))):ShS h w2 gb vg vp vL vLo v' L lo hi':=by
 have hne:∀b,A3 v' b→b≠gb∧¬A3 vL b∧¬A3 vLo b:=fun b hb=>by
  rcases hv b hb with k|k
  ·exact⟨s.d3 b k,fun e=>(s.d1 b e).2.2 k,fun e=>(s.d2 b e).2 k⟩
  ·exact⟨fun e=>by have:=s.lt;omega,fun e=>by have:=s.oL.lt e;omega,fun e=>by have:=s.oLo.lt e;omega⟩
 refine⟨s.free,hc,(s.oL.mod h1 fun b hb hb2=>(s.d1 b hb).2.2 hb2).mod h2 fun b hb=>(s.d1 b hb).1,(s.oLo.mod h1 fun b hb hb2=>(s.d2 b hb).2 hb2).mod h2 fun b hb=>(s.d2 b hb).1,ho.mod h2 fun b hb=>(hne b hb).1,fun b hb=>⟨(s.d1 b hb).1,(s.d1 b hb).2.1,fun e=>(hne b e).2.1 hb⟩,fun b hb=>⟨(s.d2 b hb).1,fun e=>(hne b e).2.2 hb⟩,fun b hb=>(hne b hb).1⟩
end
def U9(h:Hp)(w:World)(tb:Nat)(x:It):Prop:=∃cs:List Value,w.heap[tb]?=some (.cells (List.toArray cs) 121 (0,0))∧z7.enc h cs x
section
variable {h:Hp} {w:World} {tb:Nat} {x:It}
theorem U9.mod{M:Nat→Prop}{w':World}(ht:U9 h w tb x)(hm:o9 M w w')(h0:¬M tb):U9 h w' tb x:=by
 obtain⟨cs,h1,h2⟩:=ht;exact⟨cs,(hm.block tb (ew1.1 h1).1 h0).trans h1,h2⟩
theorem U9.lt(ht:U9 h w tb x):tb<w.heap.size:=by
 obtain⟨cs,h1,h2⟩:=ht;exact(ew1.1 h1).1
theorem U9.new{v:Value}(hv:SV h v x):∃tb wz w',(Instr.alloc 121 true (.tuple #[])).run prog w = .ok (.pointer (some ⟨tb,0,none⟩)) wz∧(Instr.storeAt 121 (.pointer (some ⟨tb,0,none⟩)) v).run prog wz = .ok () w'∧o6 w w'∧w.heap.size≤tb∧U9 h w' tb x:=by
 obtain⟨cs,rfl,he⟩:=hv;obtain⟨h1,h2⟩:=aU2 (P:=prog) (w:=w) (T:=121) bX8 rfl (cs:=List.toArray cs) (by rw[I9];simpa using(show cs.length=17 from z7.len he)) (by simpa using z7.one he);exact⟨w.heap.size,_,_,h1,h2,o6.alloc _ _,ex0 _,cs,ez9 w _,he⟩
theorem U9.ld(ht:U9 h w tb x):∃v,SV h v x∧(∀w',w'.heap[tb]?=w.heap[tb]?→(Instr.loadAt 121 (.pointer (some ⟨tb,0,none⟩))).run prog w' = .ok v w'∧(Instr.loadAt 3 (.pointer (some ⟨tb,15,none⟩))).run prog w' = .ok (.int .i64 x.next) w'):=by
 obtain⟨cs,h1,h2⟩:=ht;refine⟨.agg (List.toArray cs),⟨cs,rfl,h2⟩,fun w' hw=>⟨?_,?_⟩⟩
 ·exact ac4 (hw.trans h1) Y7 Y9 Y8 (by rw[I9];simpa using(show cs.length=17 from z7.len h2).symm)
 ·obtain⟨c,rfl,hc⟩:=aF7 h2;obtain⟨a1,a2,a3,a4,a5,a6,a7,a8,a9,a10,a11,a12,a13,rfl⟩:=bi7 (z7.len hc);exact F0 (hw.trans h1) rfl F8
theorem U9.setS{v:Value}{s:St}(ht:U9 h w tb x)(hs:SV h v s):∃w',(Instr.storeAt 45 (.pointer (some ⟨tb,0,none⟩)) v).run prog w = .ok () w'∧U9 h w' tb ⟨s,x.proc,x.up,x.next,x.loop⟩∧o9 (fun b=>b=tb) w w':=by
 obtain⟨cs,h1,h2⟩:=ht;obtain⟨ds,rfl,h3⟩:=hs;obtain⟨c,rfl,hc⟩:=aF7 h2;have hl:c.length=13:=z7.len hc;have hl2:ds.length=13:=z7.len h3;obtain⟨w',k1,k2,k3⟩:=bZ4 (P:=prog) (t:=45) (o:=0) (cs:=ds) h1 (by simp[hl,hl2]) (z7.one h3) aR7 (by rw[ah8,hl2]);refine⟨w',k1,⟨_,k2,?_⟩,k3⟩;refine⟨ds,?_,h3⟩;simp only[eH0,eG5,ez0,hl2]
 congr 1
 simp only[ey3];rw[←hl,List.drop_left];simp
theorem U9.setN(n:Int)(ht:U9 h w tb x):∃w',(Instr.storeAt 3 (.pointer (some ⟨tb,15,none⟩)) (.int .i64 n)).run prog w = .ok () w'∧U9 h w' tb ⟨x.s,x.proc,x.up,n,x.loop⟩∧o9 (fun b=>b=tb) w w':=by
 obtain⟨cs,h1,h2⟩:=ht;obtain⟨c,rfl,hc⟩:=aF7 h2;obtain⟨a1,a2,a3,a4,a5,a6,a7,a8,a9,a10,a11,a12,a13,rfl⟩:=bi7 (z7.len hc);obtain⟨w',k1,k2,k3⟩:=ai0 (P:=prog) (t:=3) (i:=15) (x:=.int .i64 n) h1 (by simp) rfl rfl (t8 ay1).choose_spec.1 (by rw[←C8 (t8 ay1).choose_spec.1];exact aR8);exact⟨w',k1,⟨_,k2,_,rfl,hc⟩,k3⟩
theorem U9.setLp(n:Int)(ht:U9 h w tb x):∃w',(Instr.storeAt 3 (.pointer (some ⟨tb,16,none⟩)) (.int .i64 n)).run prog w = .ok () w'∧U9 h w' tb ⟨x.s,x.proc,x.up,x.next,n⟩∧o9 (fun b=>b=tb) w w':=by
 obtain⟨cs,h1,h2⟩:=ht;obtain⟨c,rfl,hc⟩:=aF7 h2;obtain⟨a1,a2,a3,a4,a5,a6,a7,a8,a9,a10,a11,a12,a13,rfl⟩:=bi7 (z7.len hc);obtain⟨w',k1,k2,k3⟩:=ai0 (P:=prog) (t:=3) (i:=16) (x:=.int .i64 n) h1 (by simp) rfl rfl (t8 ay1).choose_spec.1 (by rw[←C8 (t8 ay1).choose_spec.1];exact aR8);exact⟨w',k1,⟨_,k2,_,rfl,hc⟩,k3⟩
end
theorem bG3(h:Hp):z7.enc h [.int .i64 0,.int .i64 0,.slice none 0 0,o7 e0,o7 e0,.int .i64 0,.int .i64 0,o7 e0,.slice none 0 0,.bool false,.slice none 0 0,.slice none 0 0,.slice none 0 0] cm1:=by
 refine bz7.2 ⟨.slice none 0 0,[.int .i64 0,.int .i64 0,o7 e0,.slice none 0 0],.slice none 0 0,.slice none 0 0,.slice none 0 0,rfl,aU5 h,bz6.2 ⟨.slice none 0 0,rfl,aU5 h⟩,aU5 h,aU5 h,aU5 h⟩
theorem ch2(h:Hp)(a b c d:Int):∃v,C1 prog 121 [(1,.int .i64 a),(2,.int .i64 b),(3,.int .i64 c),(4,.int .i64 d)]=some v∧SV h v (⟨cm1,a,b,c,d⟩:It):=by
 refine⟨_,by simp[C1,bX2,J6,Instr.fill,Value.cells];rfl,_,rfl,_,rfl,bG3 h⟩
theorem ch1(h:Hp)(a c:Int):∃v,C1 prog 121 [(1,.int .i64 a),(3,.int .i64 c)]=some v∧SV h v (⟨cm1,a,0,c,0⟩:It):=by
 refine⟨_,by simp[C1,bX2,J6,Instr.fill,Value.cells];rfl,_,rfl,_,rfl,bG3 h⟩
end Go.Proofs.YtcbnbgpphippoaaGreat
