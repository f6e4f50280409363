/- pdgCalls.proved: for every input the law returns true. No condition. Part 1 of 7. -/
import Derived.Calls
import Derived.IntWalk
import Derived.KernelRfl
import Derived.Laws.AppendOwn
import Derived.Laws.CopyRow
import Derived.Laws.Entries
import Derived.Laws.Sem
import Derived.Laws.Strings
import Derived.Orders
import Derived.OrdersHeld
import Derived.StillTail
import Derived.Test.YtcbnbgpphippoaaGreatProg
set_option maxRecDepth 1000000
set_option maxHeartbeats 8000000
set_option linter.unusedVariables false
set_option linter.unusedSimpArgs false
set_option linter.unnecessarySimpa false
set_option linter.defProp false
namespace Go.Proofs.YtcbnbgpphippoaaGreat
open Go Tryz
def dr3:=@Array.getElem?_eq_some_iff
def dt0:=@Bool.and_eq_true
def dx4:=@Bool.false_eq_true
def dD2:=@Bool.or_eq_true
def dx6:=@List.all_eq_true
def dA8:=@List.getElem?_drop
def dt2:=@List.length_cons
def dB8:=@List.mem_of_mem_drop
def dA5:=@Nat.add_assoc
def ds5:=@Nat.le_refl
def dv3:=@Nat.lt_or_ge
def du7:=@decide_eq_true_eq
def dy5:=@if_false
def dx1:=@if_true
abbrev Fr:=Nat→Value
def aa6(a:Act):Fr:=fun i=>a.tmps.getD i undef
def p6(f:Fr)(d:Nat)(v:Value):Fr:=fun i=>if i=d then v else f i
theorem do2{f:Fr}{d:Nat}{v:Value}{i:Nat}:p6 f d v i=if i=d then v else f i:=rfl
def C4(f:Fr):Option Nat→Value→Fr
 | some d,v=>p6 f d v
 | none,_=>f
def okd(n:Nat):Option Nat→Bool
 | some d=>decide (d<n)
 | none=>true
def ev(f:Fr):Operand→Value
 | .tmp t=>f t
 | .const v=>v
 | .global g=>.pointer (some ⟨g,0,none⟩)
 | .func g=>.func (.func g) #[] #[]
theorem bz6(a:Act):a.eval=ev (aa6 a):=by
 funext x;cases x<;>rfl
theorem aR0(a:Act)(d:Option Nat)(v:Value):(a.put d v).tmps.size=a.tmps.size:=by
 cases d<;>simp[Act.put]
theorem ay2(a:Act)(d:Option Nat)(v:Value):(a.put d v).defers=a.defers:=by
 cases d<;>simp[Act.put]
theorem aO9(a:Act)(d:Option Nat)(v:Value)(h:okd a.tmps.size d=true):aa6 (a.put d v)=C4 (aa6 a) d v:=by
 cases d with
 | none=>rfl
 | some d=>
  have hd:d<a.tmps.size:=by simpa[okd]using h
  funext i
  simp only[aa6,Act.put,C4,p6,Array.getD_eq_getD_getElem?,Array.getElem?_setIfInBounds];by_cases hi:i=d
  ·subst hi;simp[hd]
  ·have:¬d=i:=fun e=>hi e.symm;simp[hi,this]
def aJ4(ops:Array Oper)(f:Fr)(j:Nat):Option Bool:=
 match(ops[j]?).bind (·.dst)with
 | some d=>match f d with
   | .bool b=>some b
   | _=>none
 | none=>none
theorem am4(ops:Array Oper)(a:Act):yielded ops a.tmps=aJ4 ops (aa6 a):=by
 funext j
 unfold yielded aJ4;cases h:(ops[j]?).bind (·.dst)with
 | none=>simp
 | some d=>
  simp only[Option.bind_some,aa6,Array.getD_eq_getD_getElem?];cases h2:a.tmps[d]? with
  | none=>simp[undef]
  | some v=>cases v<;>rfl
def N7(P:Program)(o:Oper)(K:Fr→World→Prop)(f:Fr)(w:World):Prop:=
 match(execOp (ev f) o).run P w with
 | .ok (.value v) w'=>K (C4 f o.dst v) w'
 | .ok .skip w'=>K (C4 f o.dst undef) w'
 | .ok (.enter g args) w'=>Calls P g args w' fun e w''=>∃v,e = .returned v∧K (C4 f o.dst v) w''
 | _=>False
theorem ag6{P:Program}{o:Oper}{K K':Fr→World→Prop}{f:Fr}{w:World}(h:∀f w,K f w→K' f w)(hs:N7 P o K f w):N7 P o K' f w:=by
 unfold N7 at *;generalize(execOp (ev f) o).run P w=r at *;cases r with
 | halt x w'=>exact hs
 | ok n w'=>
  cases n
  case value v=>exact h _ _ hs
  case skip=>exact h _ _ hs
  case enter g args=>exact Calls.mono hs fun e w'' ⟨v,he,hk⟩=>⟨v,he,h _ _ hk⟩
  all_goals exact hs
def bn2(P:Program)(S:World→Prop)(o:Oper)(f:Fr)(v:Value):Prop:=
 ∀w,S w→(execOp (ev f) o).run P w = .ok (.value v) w
def lft(n:Nat)(Q:Exit→Fr→World→Prop):Exit→Act→World→Prop:=fun e a w=>
 a.tmps.size=n∧a.defers=[]∧Q e (aa6 a) w
theorem bd4{P:Program}{o:Oper}{K:Fr→World→Prop}{a:Act}{w:World}{n:Nat}{Q:Exit→Act→World→Prop}
  {K':Act→World→Prop} (hn:a.tmps.size=n) (hd:a.defers=[]) (ho:okd n o.dst=true)
  (hK:∀a' w',a'.tmps.size=n→a'.defers=[]→K (aa6 a') w'→K' a' w') (hs:N7 P o K (aa6 a) w):o.wp P a w K' Q:=by
 unfold N7 at hs;unfold Oper.wp;rw[bz6];generalize(execOp (ev (aa6 a)) o).run P w=r at *;have key:∀v w',K (C4 (aa6 a) o.dst v) w'→K' (a.put o.dst v) w':=fun v w' h=>
  hK _ _ (by rw[aR0];exact hn) (by rw[ay2];exact hd) (by rw[aO9 _ _ _ (by rw[hn];exact ho)];exact h)
 cases r with
 | halt x w'=>exact hs.elim
 | ok n w'=>
  cases n
  case value v=>exact key _ _ hs
  case skip=>exact key _ _ hs
  case enter g args=>exact Calls.mono hs fun e w'' ⟨v,he,hk⟩=>by subst he;exact key _ _ hk
  all_goals exact hs.elim
def Run(P:Program)(ops:Array Oper):List Oper→(Fr→World→Prop)→Fr→World→Prop
 | [],K,f,w=>K f w
 | o::l,K,f,w=>if Region.wanted o (aJ4 ops f)then N7 P o (Run P ops l K) f w else Run P ops l K (C4 f o.dst undef) w
def ct7(n:Nat)(ops:Array Oper):Bool:=ops.all fun o=>okd n o.dst
theorem at3{P:Program}{ops:Array Oper}{n:Nat}{Q:Exit→Fr→World→Prop}:∀(l:List Oper) (a:Act) (w:World),(∀o∈l,okd n o.dst=true) →
  a.tmps.size=n→a.defers=[]→Run P ops l (Q .normal) (aa6 a) w→wpList P ops (lft n Q) l a w
 | [],a,w,_,hn,hd,h=>⟨hn,hd,h⟩
 | o::l,a,w,ho,hn,hd,h=>by
  unfold Run at h;unfold wpList;rw[am4];split
  ·rename_i hw;rw[if_pos hw]at h;exact .inl (bd4 hn hd (ho o (by simp)) (fun a' w' hn' hd' h'=>at3 l a' w' (fun o' h''=>ho o' (by simp[h''])) hn' hd' h') h)
  ·rename_i hw;rw[if_neg hw]at h;exact at3 l _ _ (fun o' h''=>ho o' (by simp[h''])) (by rw[aR0];exact hn) (by rw[ay2];exact hd)
    (by rw[aO9 _ _ _ (by rw[hn];exact ho o (by simp))];exact h)
def flt:Op→Bool
 | .move _ | .assign _ | .pick .. | .load .. | .nilCheck _ | .binOp .. | .unOp .. | .convert .. | .makeFunc .. | .slice .. | .fieldAddr .. | .field .. | .indexAddr .. | .index .. | .lookup .. | .extract ..=>true
 | .call {callee:=.builtin b,..}=>match b with
   | .len | .cap | .min | .max=>true
   | _=>false
 | _=>false
inductive aC1 where
 | nil
 | op (i:Nat) (r:aC1)
 | fork (rs:List Nat) (k:Nat→aC1)
def ar5(P:Program)(ops:Array Oper)(S:World→Prop):aC1→(Fr→World→Prop)→Fr→World→Prop
 | .nil,K,f,w=>K f w
 | .op i l,K,f,w=>
  match ops[i]? with
  | none=>False
  | some o=>
   if Region.wanted o (aJ4 ops f)then
    if flt o.op then ∃v,bn2 P S o f v∧ar5 P ops S l K (C4 f o.dst v) w
    else N7 P o (fun f' w'=>S w'∧ar5 P ops S l K f' w') f w
   else ar5 P ops S l K (C4 f o.dst undef) w
 | .fork rs k,K,f,w=>∀i∈rs,
   match ops[i]? with
   | none=>False
   | some o=>
    if Region.wanted o (aJ4 ops f)then N7 P o (fun f' w'=>S w'∧ar5 P ops S (k i) K f' w') f w
    else ar5 P ops S (k i) K (C4 f o.dst undef) w
def aQ2(ops:Array Oper)(n:Nat):Nat→aC1→Array Bool→Bool
 | 0,.nil,listed=>Region.seqB .any ops (ops.size-n) n listed
 | m+1,.op i l,listed=>decide (i<n)&&(match ops[i]? with
   | none=>false
   | some o=>(if flt o.op then(Region.ready .any ops listed).contains i&&Region.free .any ops listed i else decide (Region.ready .any ops listed=[i]))) &&
  aQ2 ops n m l (listed.setIfInBounds i true)
 | m+1,.fork rs k,listed=>decide (Region.ready .any ops listed=rs) && !rs.isEmpty&&rs.all fun i=>decide (i<n)&&aQ2 ops n m (k i) (listed.setIfInBounds i true)
 | _,_,_=>false
def bK2(ops:Array Oper)(n:Nat)(ord:aC1):Bool:=
 Region.noSelect ops&&(decide (n=ops.size)||(decide (n<ops.size)&&Region.sinkB .any ops n&&Region.chainB .any ops n)) &&
 aQ2 ops n n ord (Array.replicate ops.size false)
section
variable {P:Program} {ops:Array Oper} {Q:Exit→Act→World→Prop} {S:World→Prop}
def aN3(P:Program)(ops:Array Oper)(Q:Exit→Act→World→Prop)(S:World→Prop)(n:Nat):Nat→Array Bool→Act→World→Prop
 | 0,listed,a,w=>Region.ready .any ops listed=[]∧Q .normal a w
 | fuel+1,listed,a,w=>
  (Region.ready .any ops listed=[]→Q .normal a w) ∧
  ∀i∈Region.ready .any ops listed,wpOp P ops Q i (fun a' w'=>(i<n→S w')∧aN3 P ops Q S n fuel (listed.setIfInBounds i true) a' w') a w
theorem bo4{n:Nat}:∀(fuel:Nat) (listed:Array Bool) (a:Act) (w:World),aN3 P ops Q S n fuel listed a w→wpAny P .any ops Q fuel listed a w
 | 0,_,_,_,h=>h
 | fuel+1,_,_,_,h=>⟨h.1,fun i hi=>wpOp_mono (fun a' w' h'=>bo4 fuel _ a' w' h'.2) (h.2 i hi)⟩
theorem bD2{n i:Nat}{oi:Oper}{v:Value}(hi:ops[i]?=some oi)(hsel:∀(j:Nat) (o:Oper) cs b,ops[j]?=some o→o.op ≠ .select cs b)
  (hQ:∀c a w,Q (.panic c) (a.put oi.dst v) w→Q (.panic c) a w) (hin:i<n)
  (htw:∀listed,HeadInv .any ops n listed→listed.getD i true=false→∀t,n≤t→t∉Region.ready .any ops listed) :
  ∀(fuel:Nat) (listed:Array Bool) (a:Act) (w:World),HeadInv .any ops n listed →
   (∀j oj,ops[j]?=some oj→j≠i→listed.getD j true=false→(∀e∈oj.after,Region.binds .any e=true→e.on≠i)→oi.apart ops oj=true) →
   i∈Region.ready .any ops listed→YieldsIf P ops S oi v a→S w →
   aN3 P ops Q S n fuel (listed.setIfInBounds i true) (a.put oi.dst v) w→aN3 P ops Q S n (fuel+1) listed a w:=by
 intro fuel
 induction fuel with
 | zero=>
  intro listed a w _ _ hr hy hS H;refine⟨fun h=>(by rw[h]at hr;cases hr),fun j hj=>?_⟩;by_cases hji:j=i
  ·subst hji;exact hy.wpOp hi hS ⟨fun _=>hS,H⟩
  ·have:=ready_mono hj hji;rw[H.1]at this;cases this
 | succ fuel ih=>
  intro listed a w inv hfree hr hy hS H;refine⟨fun h=>(by rw[h]at hr;cases hr),fun j hj=>?_⟩;by_cases hji:j=i
  ·subst hji;exact hy.wpOp hi hS ⟨fun _=>hS,H⟩
  ·have h1:=H.2 j (ready_mono hj hji);obtain⟨hjun,oj,hoj,hall⟩:=mem_ready.1 hj;have hiun:=(mem_ready.1 hr).1;have hjn:j<n:=by
    rcases dv3 j n with h|h
    ·exact h
    ·exact absurd hj (htw listed inv hiun j h)
   have hnot:∀e∈oj.after,Region.binds .any e=true→e.on≠i:=fun e he hb heq=>by
    have h1:=hall e he hb;rw[heq,getD_both hiun]at h1;cases h1
   have h2:=wpOp_putIf hoj (hfree j oj hoj hji hjun hnot) (fun cs b=>hsel i oi cs b hi) (fun cs b=>hsel j oj cs b hoj) hQ hy h1;have hfree':∀k ok,ops[k]?=some ok→k≠i→(listed.setIfInBounds j true).getD k true=false →
     (∀e∈ok.after,Region.binds .any e=true→e.on≠i)→oi.apart ops ok=true:=fun k ok hk hki hun hno=>by
    refine hfree k ok hk hki ?_ hno;by_cases hjk:j=k
    ·subst hjk;exact hjun
    ·rw[getD_set_ne true hjk]at hun;exact hun
   refine wpOp_mono (fun a' w' h3=>⟨h3.2.1,ih (listed.setIfInBounds j true) a' w' (inv.set hj hjn) hfree' (ready_mono hr (Ne.symm hji)) h3.1 (h3.2.1 hjn) ?_⟩) h2;rw[Array.setIfInBounds_comm _ _ hji];exact h3.2.2
theorem at4{o:Oper}{i n:Nat}{K:Fr→World→Prop}{a:Act}{w:World}{K':Act→World→Prop}(hi:ops[i]?=some o)
  (hn:a.tmps.size=n) (hd:a.defers=[]) (ho:okd n o.dst=true) (hK:∀a' w',a'.tmps.size=n→a'.defers=[]→K (aa6 a') w'→K' a' w')
  (h:if Region.wanted o (aJ4 ops (aa6 a))then N7 P o K (aa6 a) w else K (C4 (aa6 a) o.dst undef) w):wpOp P ops Q i K' a w:=by
 unfold wpOp;simp only[hi];rw[am4];split
 ·rename_i hw;rw[if_pos hw]at h;exact .inl (bd4 hn hd ho hK h)
 ·rename_i hw;rw[if_neg hw]at h;exact hK _ _ (by rw[aR0];exact hn) (by rw[ay2];exact hd) (by rw[aO9 _ _ _ (by rw[hn];exact ho)];exact h)
theorem aK9{n N:Nat}{Q:Exit→Fr→World→Prop}:∀(l:List Oper) (k:Nat) (listed:Array Bool) (a:Act) (w:World),(∀j,l[j]?=ops[k+j]?)→n≤k →
  (∀o∈l,okd N o.dst=true)→a.tmps.size=N→a.defers=[] →
  Region.seqB .any ops l.length k listed=true→Run P ops l (Q .normal) (aa6 a) w→aN3 P ops (lft N Q) S n l.length listed a w
 | [],_,_,_,_,_,_,_,hn,hd,hB,h=>⟨by simpa[Region.seqB]using hB,hn,hd,h⟩
 | o::l,k,listed,a,w,hl,hk,ho,hn,hd,hB,h=>by
  have h0:ops[k]?=some o:=by simpa using(hl 0).symm
  simp only[dt2,Region.seqB,dt0,du7]at hB;refine⟨fun h1=>(by rw[hB.1]at h1;cases h1),fun i hi=>?_⟩;rw[hB.1]at hi;have hik:i=k:=by simpa using hi
  subst hik;refine at4 h0 hn hd (ho o (by simp)) (K:=Run P ops l (Q .normal)) (fun a' w' hn' hd' h'=>⟨fun h=>by omega,?_⟩) (by unfold Run at h;exact h);exact aK9 l (i+1) _ a' w' (fun j=>by have:=hl (j+1);simpa[dA5,Nat.add_comm 1 j]using this) (by omega) (fun o' h''=>ho o' (by simp[h''])) hn' hd' hB.2 h'
theorem bo3{n N:Nat}{Q:Exit→Fr→World→Prop}(hQ:∀c f w,¬Q (.panic c) f w)(hs:Region.noSelect ops=true)
  (htw:∀i,i<n→∀listed,HeadInv .any ops n listed→listed.getD i true=false→∀t,n≤t→t∉Region.ready .any ops listed) (hdst:∀o∈ops.toList,okd N o.dst=true) :
  ∀(m:Nat) (l:aC1) (listed:Array Bool) (a:Act) (w:World),HeadInv .any ops n listed→a.tmps.size=N→a.defers=[]→S w→aQ2 ops n m l listed=true →
   ar5 P ops S l (Run P ops (ops.toList.drop n) (Q .normal)) (aa6 a) w→aN3 P ops (lft N Q) S n (m+(ops.size-n)) listed a w:=by
 have hmem:∀{i:Nat} {o:Oper},ops[i]?=some o→okd N o.dst=true:=by
  intro i o ho;have:=Array.mem_of_getElem? ho;exact hdst o (by simpa using this)
 intro m
 induction m with
 | zero=>
  intro l listed a w inv ha hd _ hB h;cases l
  case nil=>
   have:=aK9 (S:=S) (n:=n) (N:=N) (Q:=Q) (P:=P) (ops:=ops) (ops.toList.drop n) n listed a w (fun j=>by simp[dA8]) (ds5 _)
    (fun o ho=>hdst o (dB8 ho)) ha hd (by simpa[aQ2]using hB) h
   simpa using this
  all_goals (simp[aQ2]at hB)
 | succ m ih=>
  intro l listed a w inv ha hd hS hB h;have e1:m+1+(ops.size-n)=(m+(ops.size-n))+1:=by omega
  rw[e1];cases l
  case nil=>simp[aQ2]at hB
  case op i l=>
   simp only[aQ2,dt0,du7]at hB;obtain⟨⟨hin,hB1⟩,hB2⟩:=hB;simp only[ar5]at h;cases hoi:ops[i]? with
   | none=>simp[hoi]at h
   | some o=>
    simp only[hoi]at h hB1;have hod:=hmem hoi;by_cases hf:flt o.op=true
    ·simp only[hf,dx1,dt0]at h hB1;have hr:i∈Region.ready .any ops listed:=by simpa using hB1.1
     have step:∀v,YieldsIf P ops S o v a→ar5 P ops S l (Run P ops (ops.toList.drop n) (Q .normal)) (C4 (aa6 a) o.dst v) w →
       aN3 P ops (lft N Q) S n ((m+(ops.size-n))+1) listed a w:=fun v hy hK=>
      bD2 hoi (Region.noSelect_spec hs) (fun c a w hh=>absurd hh.2.2 (hQ _ _ _)) hin (htw i hin) _ listed a w inv (Region.free_spec hoi hB1.2) hr hy hS
       (ih l _ _ w (inv.set hr hin) (by rw[aR0];exact ha) (by rw[ay2];exact hd) hS hB2 (by rw[aO9 _ _ _ (by rw[ha];exact hod)];exact hK))
     by_cases hw:Region.wanted o (aJ4 ops (aa6 a))=true
     ·rw[if_pos hw]at h;obtain⟨v,hv,hK⟩:=h;refine step v (.inl ⟨by rw[am4];exact hw,fun w' hw'=>?_⟩) hK;rw[bz6];exact hv w' hw'
     ·rw[if_neg hw]at h;exact step undef (.inr ⟨by rw[am4];simpa using hw,rfl⟩) h
    ·simp only[hf,dx4,dy5,du7]at h hB1;have hr:i∈Region.ready .any ops listed:=by rw[hB1];simp
     refine⟨fun h1=>(by rw[hB1]at h1;cases h1),fun j hj=>?_⟩;rw[hB1]at hj;have hji:j=i:=by simpa using hj
     subst hji;refine at4 hoi ha hd hod (K:=fun f' w'=>S w'∧ar5 P ops S l (Run P ops (ops.toList.drop n) (Q .normal)) f' w') (fun a' w' ha' hd' h'=>⟨fun _=>h'.1,?_⟩) ?_
     ·exact ih l _ a' w' (inv.set hr hin) ha' hd' h'.1 hB2 h'.2
     ·split
      ·rename_i hw;rw[if_pos hw]at h;exact h
      ·rename_i hw;rw[if_neg hw]at h;exact⟨hS,h⟩
  case fork rs k=>
   simp only[aQ2,dt0,du7,dx6]at hB;obtain⟨⟨hrs,hne⟩,hall⟩:=hB;simp only[ar5]at h;refine⟨fun h1=>(by rw[hrs]at h1;subst h1;simp at hne),fun i hi=>?_⟩;have hi':i∈rs:=by rw[hrs]at hi;exact hi
   have h2:=h i hi';obtain⟨hin,hB2⟩:=hall i hi';cases hoi:ops[i]? with
   | none=>simp[hoi]at h2
   | some o=>
    simp only[hoi]at h2;refine at4 hoi ha hd (hmem hoi) (K:=fun f' w'=>S w'∧ar5 P ops S (k i) (Run P ops (ops.toList.drop n) (Q .normal)) f' w') (fun a' w' ha' hd' h'=>⟨fun _=>h'.1,?_⟩) ?_
    ·exact ih (k i) _ a' w' (inv.set hi hin) ha' hd' h'.1 hB2 h'.2
    ·split
     ·rename_i hw;rw[if_pos hw]at h2;exact h2
     ·rename_i hw;rw[if_neg hw]at h2;exact⟨hS,h2⟩
theorem bo5{id n N:Nat}{ord:aC1}{Q:Exit→Fr→World→Prop}{a:Act}{w:World}(hm:P.follows .mixedOrders=true)(hQ:∀c f w,¬Q (.panic c) f w)
  (hok:bK2 ops n ord=true) (hdst:ct7 N ops=true) (ha:a.tmps.size=N) (hd:a.defers=[]) (hS:S w.drew)
  (h:ar5 P ops S ord (Run P ops (ops.toList.drop n) (Q .normal)) (aa6 a) w.drew):(Code.region id ops true).wp P (lft N Q) a w:=by
 simp only[bK2,dt0]at hok;obtain⟨⟨hs,hsz⟩,hord⟩:=hok;have hn:n≤ops.size:=by
  simp only[dD2,du7,dt0]at hsz;omega
 have inv0:HeadInv .any ops n (Array.replicate ops.size false):=
  ⟨by simp,fun j oj _ hl=>(by rw[getD_replicate_false]at hl;cases hl),fun t _ ht=>getD_in (by simpa using ht) (getD_replicate_false _ _)⟩
 have htw:∀i,i<n→∀listed,HeadInv .any ops n listed→listed.getD i true=false→∀t,n≤t→t∉Region.ready .any ops listed:=by
  intro i hi listed inv hun t ht hr;simp only[dD2,du7,dt0]at hsz;rcases hsz with h1|⟨⟨h1,h2⟩,h3⟩
  ·obtain⟨_,ot,hot,_⟩:=mem_ready.1 hr;have:=(dr3.1 hot).1;omega
  ·exact tail_waits h2 h3 h1 inv _ i rfl hi hun t ht hr
 refine wp_region_any hm (bo4 (S:=S) (n:=n) _ _ _ _ ?_);have hd':∀o∈ops.toList,okd N o.dst=true:=by
  intro o ho;have:=Array.all_eq_true'.1 hdst o (by simpa using ho);exact this
 have:=bo3 (S:=S) hQ hs htw hd' n ord _ a w.drew inv0 ha hd hS hord h
 rwa [show n+(ops.size-n)=ops.size by omega]at this
end
def dy9:=@List.getElem?_eq_none
def dv6:=@List.map_cons
def dw6:=@Option.isSome_iff_exists
def dx7:=@Option.map_some
def ds8:=@Option.some.inj
def dC3:=@Option.some.injEq
def ds6:=@Result.andThen_ok
def dt3:=@Sem.run_bind
def du6:=@Sem.run_pure
def K7(P:Program)(t:TypeId):Option TypeId:=match P.underlying t with
 | some (.slice e)=>some e
 | _=>none
def bC4(P:Program)(t:TypeId):Bool:=match P.underlying t with
 | some .string=>true
 | _=>false
def bE3(P:Program)(t:TypeId):Option (Nat×TypeId):=match P.underlying t with
 | some (.array n e)=>some (n,e)
 | _=>none
def K1(P:Program)(t:TypeId):Nat:=((P.info? t).map (·.size)).getD 0
def G0(P:Program)(t:TypeId):Option Value:=(P.info? t).bind (·.zero)
def cs6(P:Program)(t:TypeId):Nat:=((P.info? t).map (·.bytes)).getD 0
def H6(P:Program)(t:TypeId):Bool:=match P.underlying t with
 | some (.struct _)=>true
 | some (.array _ _)=>true
 | none=>true
 | _=>false
def B9(P:Program)(s:TypeId)(i:Nat):Option (Nat×TypeId):=match P.underlying s with
 | some (.struct fs)=>match fs[i]? with
   | some fl=>if K1 P fl.type=0 then none else some (fl.offset,fl.type)
   | none=>none
 | _=>none
def eqT(P:Program)(t:TypeId):Nat:=match P.underlying t with
 | some .bool=>1
 | some (.pointer _)=>2
 | some (.slice _)=>3
 | some (.map _ _)=>4
 | some (.func _ _ _)=>5
 | some (.interface _)=>6
 | _=>0
def cI6(P:Program)(t:TypeId):Option IntKind:=match P.underlying t with
 | some (.int k)=>some k
 | _=>none
def N8(P:Program)(t:TypeId):Option (Array Value×List (Nat×Nat)):=match(P.info? t).bind (·.zero),P.underlying t with
 | some z,some (.struct fs)=>if fs.toList.all (fun fl=>(P.info? fl.type).isSome)then some (z.cells,fs.toList.map fun fl=>(fl.offset,K1 P fl.type))else none
 | some z,some (.array n e)=>if(P.info? e).isSome then some (z.cells,(List.range n).map fun i=>(i*K1 P e,K1 P e))else none
 | _,_=>none
def isS:Value→Bool
 | .slice _ _ _=>true
 | _=>false
def vlen:Value→Nat
 | .slice _ n _=>n
 | _=>0
def bJ2:Value→Bool
 | .slice none _ _=>true
 | _=>false
def vcap:Value→Nat
 | .slice _ _ c=>c
 | _=>0
def inS:Value→Nat→Bool
 | .slice (some _) n _,k=>decide (k<n)
 | _,_=>false
def H2:Value→Nat→Addr
 | .slice (some a) _ _,k=>a.add k
 | _,_=>default
def reS(v:Value)(l h sz:Nat):Value:=match v with
 | .slice a _ cap=>.slice (if cap=l then a else a.map (·.add (l*sz))) (h-l) (cap-l)
 | _=>undef
def E5(op:BinOp)(k:IntKind)(a b:Int):Option Value:=match op with
 | .add=>some (.int k (k.wrap (a+b)))
 | .sub=>some (.int k (k.wrap (a-b)))
 | .mul=>some (.int k (k.wrap (a*b)))
 | .quo=>if b=0 then none else some (.int k (k.wrap (a.tdiv b)))
 | .rem=>if b=0 then none else some (.int k (a.tmod b))
 | .eql=>some (.bool (a==b))
 | .neq=>some (.bool (a != b))
 | .lss=>some (.bool (a<b))
 | .leq=>some (.bool (a≤b))
 | .gtr=>some (.bool (a>b))
 | .geq=>some (.bool (a≥b))
 | .and=>some (.int k (k.wrap (BitVec.ofInt k.bits a &&& BitVec.ofInt k.bits b).toNat))
 | .or=>some (.int k (k.wrap (BitVec.ofInt k.bits a ||| BitVec.ofInt k.bits b).toNat))
 | .xor=>some (.int k (k.wrap (BitVec.ofInt k.bits a ^^^ BitVec.ofInt k.bits b).toNat))
 | .andNot=>some (.int k (k.wrap (BitVec.ofInt k.bits a &&& ~~~BitVec.ofInt k.bits b).toNat))
 | _=>none
def B6(P:Program)(op:BinOp)(t:TypeId):Value→Value→Option Value
 | .int k a,.int k' b=>match op with
   | .shl=>if b<0 then none else some (.int k (k.wrap (a*2 ^ (min b.toNat k.bits))))
   | .shr=>if b<0 then none else some (.int k (a.fdiv (2 ^ (min b.toNat k.bits))))
   | _=>if k=k' then E5 op k a b else none
 | .string a,.string b=>match op with
   | .eql=>some (.bool (a.toList==b.toList))
   | .neq=>some (.bool !(a.toList==b.toList))
   | .lss=>some (.bool (Op.bytesLess a.toList b.toList))
   | .leq=>some (.bool (Op.bytesLess a.toList b.toList||a.toList==b.toList))
   | .gtr=>some (.bool !(Op.bytesLess a.toList b.toList||a.toList==b.toList))
   | .geq=>some (.bool !(Op.bytesLess a.toList b.toList))
   | .add=>if((a.size+b.size:Nat):Int)>IntKind.i64.max then none else some (.string (a++b))
   | _=>none
 | .bool a,.bool b=>match op with
   | .eql=>if eqT P t=1 then some (.bool (a==b))else none
   | .neq=>if eqT P t=1 then some (.bool !(a==b))else none
   | _=>none
 | .pointer a,.pointer none=>match op with
   | .eql=>if eqT P t=2 then some (.bool a.isNone)else none
   | .neq=>if eqT P t=2 then some (.bool !a.isNone)else none
   | _=>none
 | a,.slice none 0 0=>match op with
   | .eql=>if isS a&&eqT P t==3 then some (.bool (bJ2 a))else none
   | .neq=>if isS a&&eqT P t==3 then some (.bool !(bJ2 a))else none
   | _=>none
 | _,_=>none
def unV(op:UnOp):Value→Option Value
 | .bool b=>match op with
   | .not=>some (.bool !b)
   | _=>none
 | .int k n=>match op with
   | .neg=>some (.int k (k.wrap (0-n)))
   | _=>none
 | _=>none
def bz7(P:Program)(s:TypeId)(i:Nat):Value→Option Value
 | .pointer (some a)=>match B9 P s i with
   | some (o,_)=>some (.pointer (some (a.add o)))
   | none=>none
 | _=>none
def bv4(P:Program)(t:TypeId)(cs:Array Value)(o:Nat):Option Value:=
 if H6 P t then(if(P.info? t).isSome&&(P.underlying t).isSome then some (.agg (cs.extract o (o+K1 P t)))else none)else cs[o]?
def aD0(P:Program)(s:TypeId)(i:Nat):Value→Option Value
 | .agg cs=>match B9 P s i with
   | some (o,t)=>bv4 P t cs o
   | none=>none
 | _=>none
def z6(P:Program)(t:TypeId)(x:Value):Value→Option Value
 | .int _ n=>match K7 P t with
   | some e=>if(P.info? e).isSome&&decide (0≤n)&&inS x n.toNat then some (.pointer (some (H2 x (n.toNat*K1 P e))))else none
   | none=>match bE3 P t,x with
     | some (len,e),.pointer (some a)=>if(P.info? e).isSome&&decide (0≤n)&&decide (n<len)then some (.pointer (some (a.add (n.toNat*K1 P e))))else none
     | _,_=>none
 | _=>none
def U6(P:Program)(t:TypeId)(x:Value):Value→Option Value
 | .int _ n=>match bE3 P t,x with
   | some (len,e),.agg cs=>if(P.info? e).isSome&&decide (0≤n)&&decide (n<len)then bv4 P e cs (n.toNat*K1 P e)else none
   | none,.string s=>if bC4 P t&&decide (0≤n)then(s[n.toNat]?).map fun b=>.int .u8 b.toNat else none
   | _,_=>none
 | _=>none
def I0(P:Program)(t:TypeId)(x:Value)(lo hi:Option Value):Option Value:=
 match(match lo with|none=>some 0|some (.int _ n)=>some n|_=>none:Option Int),
  (match hi with|none=>some ((if isS x then vlen x else match x with | .string s=>s.size|_=>0:Nat):Int)|some (.int _ n)=>some n|_=>none:Option Int)with
 | some l,some h=>match K7 P t with
   | some e=>if(P.info? e).isSome&&isS x&&decide (0≤l)&&decide (l≤h)&&decide (h≤vcap x)then some (reS x l.toNat h.toNat (K1 P e))else none
   | none=>match x with
     | .string s=>if bC4 P t&&decide (0≤l)&&decide (l≤h)&&decide (h≤s.size)then some (.string (s.extract l.toNat h.toNat))else none
     | _=>none
 | _,_=>none
def P9(P:Program)(t:TypeId)(x:Value):Option Value:=
 if(K7 P t).isSome then(if isS x then some (.int .i64 (vlen x))else none)
 else match x with
  | .string s=>if bC4 P t then some (.int .i64 s.size)else none
  | _=>match bE3 P t with
    | some (n,_)=>some (.int .i64 n)
    | none=>none
def cG6(P:Program)(t:TypeId)(x:Value):Option Value:=
 if(K7 P t).isSome&&isS x then some (.int .i64 (vcap x))else none
def aZ0(P:Program)(s d:TypeId):Value→Option Value
 | .int _ n=>match cI6 P d with
   | some k=>if(P.underlying s).isSome then some (.int k (k.wrap n))else none
   | none=>none
 | _=>none
def J5(pl:List (Nat×Nat))(cs:Array Value)(parts:List (Nat×Value)):Option (Array Value):=Instr.fill (fun i=>pl[i]?) cs parts
def B8(P:Program)(t:TypeId)(parts:List (Nat×Value)):Option Value:=
 match N8 P t with
 | some (z,pl)=>(J5 pl z parts).map .agg
 | none=>none
def cx3:Value→Value→Option Value
 | .int k x,.int _ y=>some (.int k (if y<x then y else x))
 | _,_=>none
def cx2:Value→Value→Option Value
 | .int k x,.int _ y=>some (.int k (if y>x then y else x))
 | _,_=>none
def as3(P:Program)(f:Fr):Op→Option Value
 | .move x=>some (ev f x)
 | .assign x=>some (ev f x)
 | .pick c a b=>match ev f c with
   | .bool t=>some (if t then ev f a else ev f b)
   | _=>none
 | .binOp op t x y _=>B6 P op t (ev f x) (ev f y)
 | .unOp op _ x=>unV op (ev f x)
 | .fieldAddr s x i=>bz7 P s i (ev f x)
 | .field s x i=>aD0 P s i (ev f x)
 | .indexAddr t x i=>z6 P t (ev f x) (ev f i)
 | .index t x i=>U6 P t (ev f x) (ev f i)
 | .slice t x lo hi none=>I0 P t (ev f x) (lo.map (ev f)) (hi.map (ev f))
 | .extract x i=>match ev f x with
   | .tuple vs=>vs[i]?
   | _=>none
 | .convert s d x=>aZ0 P s d (ev f x)
 | .nilCheck x=>match ev f x with
   | .pointer (some a)=>some (.pointer (some a))
   | _=>none
 | .makeFunc fn first cap=>some (.func fn (first.map (ev f)) (cap.map (ev f)))
 | .build t parts=>B8 P t (parts.toList.map fun p=>(p.1,ev f p.2))
 | .call c=>match c.callee with
   | .builtin .len=>match c.args.toList,c.argTypes.toList with
     | [x],[t]=>P9 P t (ev f x)
     | _,_=>none
   | .builtin .cap=>match c.args.toList,c.argTypes.toList with
     | [x],[t]=>cG6 P t (ev f x)
     | _,_=>none
   | .builtin .min=>match c.args.toList with
     | [x,y]=>cx3 (ev f x) (ev f y)
     | _=>none
   | .builtin .max=>match c.args.toList with
     | [x,y]=>cx2 (ev f x) (ev f y)
     | _=>none
   | _=>none
 | _=>none
section
variable {P:Program}
theorem F2(t:TypeId)(w:World):(underlying t).run P w=match P.underlying t with
  | some d=>.ok d w
  | none=>.halt (.stuck "no such type") w:=by
 simp only[underlying,program,dt3,Sem.run,ds6];cases P.underlying t<;>rfl
theorem N3(t:TypeId)(w:World):(typeInfo t).run P w=match P.info? t with
  | some d=>.ok d w
  | none=>.halt (.stuck "no such type") w:=by
 simp only[typeInfo,program,dt3,Sem.run,ds6];cases P.info? t<;>rfl
theorem N6{t:TypeId}(h:(P.info? t).isSome=true)(w:World):(sizeOf t).run P w = .ok (K1 P t) w:=by
 obtain⟨i,hi⟩:=dw6.1 h;simp[sizeOf,N3,hi,K1]
theorem X2(t:TypeId)(h:(P.underlying t).isSome=true)(w:World):(isAgg t).run P w = .ok (H6 P t) w:=by
 obtain⟨i,hi⟩:=dw6.1 h;unfold isAgg H6;rw[dt3,F2,hi];cases i<;>rfl
theorem aT0{t:TypeId}(h:H6 P t=false):(P.underlying t).isSome=true:=by
 unfold H6 at h;cases hu:P.underlying t with
 | none=>simp[hu]at h
 | some d=>rfl
theorem bl8{t:TypeId}{cs:Array Value}{o:Nat}{v:Value}(h:bv4 P t cs o=some v)(w:World):(part t cs o).run P w = .ok v w:=by
 unfold bv4 at h;unfold part;by_cases ha:H6 P t=true
 ·rw[if_pos ha]at h;by_cases hi:((P.info? t).isSome&&(P.underlying t).isSome)=true
  ·rw[if_pos hi]at h;simp only[dt0]at hi;obtain rfl:=ds8 h;simp only[dt3,X2 t hi.2,ds6,ha,Sem.run_ite,dx1,N6 hi.1,du6]
  ·rw[if_neg hi]at h;cases h
 ·have ha':H6 P t=false:=by simpa using ha
  rw[if_neg ha]at h;simp only[dt3,X2 t (aT0 ha'),ds6,ha',dx4,dy5,h,du6]
theorem aW4{op:BinOp}{t:TypeId}{x y:Operand}{a b:Value}(h1:a ≠ .nilIface)(h2:∀cs,a ≠ .agg cs)(w:World):
  (eqGuard op t x y a b).run P w = .ok () w:=by
 unfold eqGuard;cases op<;>first|rfl|(cases a<;>first|rfl|exact absurd rfl h1|exact absurd rfl (h2 _))
theorem bO6{op:BinOp}{t:TypeId}{x y:Operand}{a b v:Value}(h:B6 P op t a b=some v)(w:World):
  (do eqGuard op t x y a b;binOp op t a b:Sem Value).run P w = .ok v w:=by
 have hg:(eqGuard op t x y a b).run P w = .ok () w:=by
  apply aW4
  ·rintro rfl;unfold B6 at h;split at h<;>first
    | (simp_all;done)
    | (split at h<;>simp_all [isS])
  ·rintro cs rfl;unfold B6 at h;split at h<;>first
    | (simp_all;done)
    | (split at h<;>simp_all [isS])
 rw[dt3,hg,ds6];unfold B6 at h;split at h
 ·split at h
  ·split at h
   ·cases h
   ·rename_i hb;obtain rfl:=ds8 h;simp[binOp,Op.shift,hb]
  ·split at h
   ·cases h
   ·rename_i hb;obtain rfl:=ds8 h;simp[binOp,Op.shift,hb]
  ·rename_i h1 h2;split at h
   ·rename_i hk;subst hk;unfold E5 at h;cases op<;>simp only[dC3]at h <;>
     first
     | (subst h;simp[binOp,Op.intArith,Op.intCmp,Op.intBits])
     | (split at h<;>first|(rename_i hb;obtain rfl:=ds8 h;simp[binOp,Op.intDiv,hb];done)|(cases h;done))
     | (exact absurd rfl (by assumption))
     | cases h
   ·cases h
 ·split at h<;>first
   | (obtain rfl:=ds8 h;simp[binOp,Op.stringOp])
   | (split at h<;>first|(rename_i hb;obtain rfl:=ds8 h;simp only[binOp,Op.stringOp];rw[if_neg hb];rfl)|(cases h;done))
   | cases h
 ·have key:∀{p q:Bool},eqT P t=1→(Op.equal t (.bool p) (.bool q)).run P w = .ok (p==q) w:=by
   intro p q ht;unfold eqT at ht;unfold Op.equal Op.maxDepth Op.equalIn;rw[dt3,F2];cases hu:P.underlying t with
   | none=>simp[hu]at ht
   | some d=>cases d<;>simp[hu]at ht ⊢
  split at h<;>first
   | (split at h
      ·rename_i ht;obtain rfl:=ds8 h;simp[binOp,key ht]
      ·cases h)
   | cases h
 ·have key:∀{p:Option Addr},eqT P t=2→(Op.equal t (.pointer p) (.pointer none)).run P w = .ok p.isNone w:=by
   intro p ht;unfold eqT at ht;unfold Op.equal Op.maxDepth Op.equalIn;rw[dt3,F2];cases hu:P.underlying t with
   | none=>simp[hu]at ht
   | some d=>cases d<;>simp[hu]at ht ⊢<;> (cases p<;>rfl)
  split at h<;>first
   | (split at h
      ·rename_i ht;obtain rfl:=ds8 h;simp[binOp,key ht]
      ·cases h)
   | cases h
 ·have key:isS a=true→eqT P t=3→(Op.equal t a (.slice none 0 0)).run P w = .ok (bJ2 a) w:=by
   intro hs ht;cases a
   case slice p n c=>
    unfold eqT at ht;unfold Op.equal Op.maxDepth Op.equalIn;rw[dt3,F2];cases hu:P.underlying t with
    | none=>simp[hu]at ht
    | some d=>cases d<;>simp[hu]at ht ⊢<;> (cases p<;>rfl)
   all_goals (simp[isS]at hs)
  have hop:isS a=true→binOp .eql t a (.slice none 0 0)=(do pure (.bool (←Op.equal t a (.slice none 0 0))))∧binOp .neq t a (.slice none 0 0)=(do pure (.bool (!(←Op.equal t a (.slice none 0 0))))):=by
   intro hs;cases a
   case slice p n c=>exact⟨rfl,rfl⟩
   all_goals (simp[isS]at hs)
  split at h<;>first
   | (split at h
      ·rename_i ht;simp only[dt0,beq_iff_eq]at ht;obtain rfl:=ds8 h
       first|rw[(hop ht.1).1]|rw[(hop ht.1).2]
       simp[key ht.1 ht.2]
      ·cases h)
   | cases h
 ·cases h
theorem L7{t e:TypeId}(h:K7 P t=some e):P.underlying t=some (.slice e):=by
 unfold K7 at h;cases hu:P.underlying t with
 | none=>simp[hu]at h
 | some d=>cases d<;>simp[hu]at h;subst h;rfl
theorem aT6{t e:TypeId}{n:Nat}(h:bE3 P t=some (n,e)):P.underlying t=some (.array n e):=by
 unfold bE3 at h;cases hu:P.underlying t with
 | none=>simp[hu]at h
 | some d=>cases d<;>simp[hu]at h;obtain⟨rfl,rfl⟩:=h;rfl
theorem aI4{t:TypeId}(h:bC4 P t=true):P.underlying t=some .string:=by
 unfold bC4 at h;cases hu:P.underlying t with
 | none=>simp[hu]at h
 | some d=>cases d<;>simp[hu]at h;rfl
theorem bV4{t:TypeId}(h:¬K1 P t=0):(P.info? t).isSome=true:=by
 unfold K1 at h;cases hi:P.info? t with
 | none=>simp[hi]at h
 | some i=>rfl
theorem aZ7{s:TypeId}{i o t:Nat}(h:B9 P s i=some (o,t)):∃fs fl,P.underlying s=some (.struct fs)∧fs[i]?=some fl∧¬K1 P t=0∧fl.offset=o∧fl.type=t:=by
 unfold B9 at h;cases hu:P.underlying s with
 | none=>simp[hu]at h
 | some d=>
  cases d
  case struct fs=>
   simp only[hu]at h;cases hf:fs[i]? with
   | none=>simp[hf]at h
   | some fl=>
    simp only[hf]at h;split at h
    ·cases h
    ·rename_i hz;simp only[dC3,Prod.mk.injEq]at h;obtain⟨rfl,rfl⟩:=h;exact⟨fs,fl,rfl,hf,hz,rfl,rfl⟩
  all_goals simp[hu]at h
theorem bz8{s i:Nat}{x v:Value}(h:bz7 P s i x=some v)(w:World):(Instr.fieldAt s x i).run P w = .ok v w:=by
 unfold bz7 at h;split at h
 ·split at h
  ·rename_i a o t hf;obtain⟨fs,fl,h1,h2,h3,h4,h5⟩:=aZ7 hf;obtain rfl:=ds8 h;subst h4 h5;unfold Instr.fieldAt;rw[dt3,F2,h1];simp only[ds6,h2,dt3,Instr.sureAddr,du6,Go.fieldPlace,N6 (bV4 h3),Sem.run_ite];rw[if_neg h3];rfl
  ·cases h
 ·cases h
theorem bQ1{s i:Nat}{x v:Value}(h:aD0 P s i x=some v)(w:World):(Instr.field s x i).run P w = .ok v w:=by
 unfold aD0 at h;split at h
 ·split at h
  ·rename_i cs o t hf;obtain⟨fs,fl,h1,h2,h3,h4,h5⟩:=aZ7 hf;subst h4 h5;unfold Instr.field;rw[dt3,F2,h1];simp only[ds6,h2,dt3,asAgg,du6,bl8 h]
  ·cases h
 ·cases h
theorem cv9{x:Value}{k:Nat}(h:inS x k=true):∃a n c,x = .slice (some a) n c∧k<n:=by
 unfold inS at h;split at h
 ·exact⟨_,_,_,rfl,by simpa using h⟩
 ·cases h
theorem bS0{t:Nat}{x i v:Value}(h:z6 P t x i=some v)(w:World):(Instr.indexAt t x i).run P w = .ok v w:=by
 unfold z6 at h;split at h
 ·rename_i k n;split at h
  ·rename_i e he;split at h
   ·rename_i hc;simp only[dt0,du7]at hc;obtain⟨⟨hi,h0⟩,hin⟩:=hc;obtain⟨a,m,c,rfl,hlt⟩:=cv9 hin;obtain rfl:=ds8 h;unfold Instr.indexAt;simp only[asIntOf,dt3,du6,ds6,F2,L7 he];have:0≤n∧n<(m:Int):=by omega
    simp only[this,and_self,dx1,dt3,N6 hi,ds6,du6,H2]
   ·cases h
  ·split at h
   ·rename_i len e a he;split at h
    ·rename_i hc;simp only[dt0,du7]at hc;obtain⟨⟨hi,h0⟩,hlt⟩:=hc;obtain rfl:=ds8 h;unfold Instr.indexAt;simp only[asIntOf,dt3,du6,ds6,F2,aT6 he,Instr.sureAddr];have:0≤n∧n<(len:Int):=by omega
     simp only[this,and_self,dx1,dt3,N6 hi,ds6,du6]
    ·cases h
   ·cases h
 ·cases h
theorem bA4{t:Nat}{x i v:Value}(h:U6 P t x i=some v)(w:World):(Instr.index t x i).run P w = .ok v w:=by
 unfold U6 at h;split at h
 ·rename_i k n;split at h
  ·rename_i len e cs he;split at h
   ·rename_i hc;simp only[dt0,du7]at hc;obtain⟨⟨hi,h0⟩,hlt⟩:=hc;unfold Instr.index;simp only[asIntOf,dt3,du6,ds6,F2,aT6 he];have:0≤n∧n<(len:Int):=by omega
    simp only[this,and_self,dx1,dt3,N6 hi,ds6,bl8 h]
   ·cases h
  ·rename_i s he;split at h
   ·rename_i hc;simp only[dt0,du7]at hc;obtain⟨hs,h0⟩:=hc;unfold Instr.index;simp only[asIntOf,dt3,du6,ds6,F2,aI4 hs,h0,dx1];cases hb:s[n.toNat]? with
    | none=>simp[hb]at h
    | some b=>
     simp only[hb,dx7,dC3]at h;subst h;rfl
   ·cases h
  ·cases h
 ·cases h
theorem bS5{t:TypeId}{x v:Value}{ty:TypeId}(h:P9 P t x=some v)(w:World):(Builtin.len_ #[t] ty #[x]).run P w = .ok v w:=by
 unfold P9 at h;split at h
 ·rename_i he;obtain⟨e,he⟩:=dw6.1 he;split at h
  ·rename_i hs;obtain rfl:=ds8 h;cases x
   case slice a n c=>simp[Builtin.len_,F2,L7 he,vlen,goInt]
   all_goals simp[isS]at hs
  ·cases h
 ·split at h
  ·rename_i s;split at h
   ·rename_i hs;obtain rfl:=ds8 h;simp[Builtin.len_,F2,aI4 hs,goInt]
   ·cases h
  ·rename_i hns;split at h
   ·rename_i n e he;obtain rfl:=ds8 h;cases x<;>simp[Builtin.len_,F2,aT6 he,goInt]
   ·cases h
theorem bP2{t:TypeId}{x v:Value}{ty:TypeId}(h:cG6 P t x=some v)(w:World):(Builtin.cap_ #[t] ty #[x]).run P w = .ok v w:=by
 unfold cG6 at h;split at h
 ·rename_i hc;simp only[dt0]at hc;obtain⟨e,he⟩:=dw6.1 hc.1;obtain rfl:=ds8 h;cases x
  case slice a n c=>simp[Builtin.cap_,F2,L7 he,vcap,goInt]
  all_goals (simp[isS]at hc)
 ·cases h
theorem bF0{s d:TypeId}{x v:Value}(h:aZ0 P s d x=some v)(w:World):(convert s d x).run P w = .ok v w:=by
 unfold aZ0 at h;split at h
 ·split at h
  ·rename_i k hk;split at h
   ·rename_i hs;obtain rfl:=ds8 h;obtain⟨sd,hsd⟩:=dw6.1 hs;have hd:P.underlying d=some (.int k):=by
     unfold cI6 at hk;cases hu:P.underlying d with
     | none=>simp[hu]at hk
     | some dd=>cases dd<;>simp[hu]at hk;subst hk;rfl
    unfold convert;simp only[dt3,F2,hsd,hd,ds6,Conv.intToInt,du6]
   ·cases h
  ·cases h
 ·cases h
theorem by7{t:TypeId}{parts:List (Nat×Value)}{v:Value}(h:B8 P t parts=some v)(w:World):(Instr.build t parts.toArray).run P w = .ok v w:=by
 unfold B8 at h;cases hb:N8 P t with
 | none=>simp[hb]at h
 | some zp=>
  obtain⟨z,pl⟩:=zp;simp only[hb]at h;unfold N8 at hb;have hmap:∀(fs:List Field),(fs.all fun fl=>(P.info? fl.type).isSome)=true →
    (fs.mapM (m:=Sem) fun f=>do pure (f.offset,←sizeOf f.type)).run P w = .ok (fs.map fun fl=>(fl.offset,K1 P fl.type)) w:=by
   intro fs
   induction fs with
   | nil=>intro _;simp
   | cons f fs ih=>
    intro hall;simp only[List.all_cons,dt0]at hall;simp only[List.mapM_cons,dt3,N6 hall.1,ds6,du6,ih hall.2,dv6]
  unfold Instr.build zeroValue;cases hi:P.info? t with
  | none=>simp[hi]at hb
  | some i=>
   cases hz:i.zero with
   | none=>simp[hi,hz]at hb
   | some zv=>
    simp only[hi,Option.bind_some,hz]at hb;simp only[dt3,N3,hi,ds6,hz,du6,F2];cases hu:P.underlying t with
    | none=>simp[hu]at hb
    | some d=>
     cases d
     case struct fs=>
      simp only[hu]at hb;split at hb
      ·rename_i hall;simp only[dC3,Prod.mk.injEq]at hb;obtain⟨rfl,rfl⟩:=hb;simp only[ds6];rw[Array.mapM_eq_mapM_toList];simp only[dt3,Sem.run_map]
       erw [hmap _ hall]
       simp only[ds6];unfold J5 at h;simp only[List.getElem?_toArray];cases hf:Instr.fill (fun i=>(fs.toList.map fun fl=>(fl.offset,K1 P fl.type))[i]?) zv.cells parts with
       | none=>rw[hf]at h;cases h
       | some cells=>
        simp only[hf,dx7,dC3]at h;subst h;rfl
      ·cases hb
     case array n e=>
      simp only[hu]at hb;split at hb
      ·rename_i he;simp only[dC3,Prod.mk.injEq]at hb;obtain⟨rfl,rfl⟩:=hb;simp only[ds6,dt3,N6 he];unfold J5 at h;have B5:∀(ps:List (Nat×Value)) (cs cs':Array Value),Instr.fill (fun i=>((List.range n).map fun i=>(i*K1 P e,K1 P e))[i]?) cs ps=some cs' →
         Instr.fill (fun i=>some (i*K1 P e,K1 P e)) cs ps=some cs':=by
        intro ps
        induction ps with
        | nil=>intro cs cs' hh;exact hh
        | cons q ps ih=>
         intro cs cs' hh;obtain⟨qi,qv⟩:=q;unfold Instr.fill at hh ⊢;by_cases hq:qi<n
         ·have hq':((List.range n).map fun i=>(i*K1 P e,K1 P e))[qi]?=some (qi*K1 P e,K1 P e):=by simp[hq]
          rw[hq']at hh;simp only at hh ⊢;split at hh
          ·cases hh
          ·rename_i hc;rw[if_neg hc];exact ih _ _ hh
         ·rw[dy9 (by simpa using hq)]at hh;cases hh
       cases hf:Instr.fill (fun i=>((List.range n).map fun i=>(i*K1 P e,K1 P e))[i]?) zv.cells parts with
       | none=>rw[hf]at h;cases h
       | some cells=>
        simp only[hf,dx7,dC3]at h;subst h;simp only[B5 _ _ _ hf];rfl
      ·cases hb
     all_goals simp[hu]at hb
theorem bC3{t:TypeId}{x v:Value}{lo hi:Option Value}(h:I0 P t x lo hi=some v)(w:World):(Instr.sliceAt t x lo hi none).run P w = .ok v w:=by
 unfold I0 at h;split at h
 ·rename_i l hh hlo hhi;have hlo':(∃k,lo=some (.int k l))∨lo=none∧l=0:=by
   split at hlo
   ·exact .inr ⟨rfl,(ds8 hlo).symm⟩
   ·obtain rfl:=ds8 hlo;exact .inl ⟨_,rfl⟩
   ·cases hlo
  split at h
  ·rename_i e he;split at h
   ·rename_i hc;simp only[dt0,du7]at hc;obtain⟨⟨⟨⟨hi1,hs⟩,h0⟩,h1⟩,h2⟩:=hc;obtain rfl:=ds8 h;have hhi':(∃k,hi=some (.int k hh))∨hi=none∧hh=vlen x:=by
     split at hhi
     ·rw[hs,if_pos rfl]at hhi;exact .inr ⟨rfl,(ds8 hhi).symm⟩
     ·obtain rfl:=ds8 hhi;exact .inl ⟨_,rfl⟩
     ·cases hhi
    cases x
    case slice a n c=>
     simp only[vcap]at h2;simp only[vlen]at hhi';have hb:(Instr.sliceBounds true n c lo hi none).run P w = .ok (l.toNat,hh.toNat,c) w:=by
      rcases hlo' with⟨k,rfl⟩|⟨rfl,rfl⟩<;>rcases hhi' with⟨k',rfl⟩|⟨rfl,rfl⟩ <;>
       simp only[Instr.sliceBounds,Instr.sliceBound,asIntOf,dt3,du6,ds6]
      ·rw[if_pos (by omega)];simp only[du6,ds6];rw[if_pos (by omega)];rfl
      ·rw[if_pos (by omega)];rfl
      ·rw[if_pos (by omega)];rfl
      ·rfl
     unfold Instr.sliceAt;simp only[dt3,F2,L7 he,ds6];unfold Instr.slice;simp only[dt3,F2,L7 he,ds6,hb,N6 hi1,du6,reS]
    all_goals simp[isS]at hs
   ·cases h
  ·split at h
   ·rename_i s;split at h
    ·rename_i hc;simp only[dt0,du7]at hc;obtain⟨⟨⟨hs,h0⟩,h1⟩,h2⟩:=hc;obtain rfl:=ds8 h;have hhi':(∃k,hi=some (.int k hh))∨hi=none∧hh=s.size:=by
      split at hhi
      ·simp only[isS,dx4,dy5]at hhi;exact .inr ⟨rfl,(ds8 hhi).symm⟩
      ·obtain rfl:=ds8 hhi;exact .inl ⟨_,rfl⟩
      ·cases hhi
     have hb:(Instr.sliceBounds false s.size s.size lo hi none).run P w = .ok (l.toNat,hh.toNat,s.size) w:=by
      rcases hlo' with⟨k,rfl⟩|⟨rfl,rfl⟩<;>rcases hhi' with⟨k',rfl⟩|⟨rfl,rfl⟩ <;>
       simp only[Instr.sliceBounds,Instr.sliceBound,asIntOf,dt3,du6,ds6]
      ·rw[if_pos (by omega)];simp only[du6,ds6];rw[if_pos (by omega)];rfl
      ·rw[if_pos (by omega)];rfl
      ·rw[if_pos (by omega)];rfl
      ·rfl
     unfold Instr.sliceAt;simp only[dt3,F2,aI4 hs,ds6];unfold Instr.slice;simp only[dt3,F2,aI4 hs,ds6,hb,du6,Option.isSome_none,dx4,dy5]
    ·cases h
   ·cases h
 ·cases h
theorem aE9{f:Fr}{o:Oper}{v:Value}(h:as3 P f o.op=some v)(w:World):(execOp (ev f) o).run P w = .ok (.value v) w:=by
 have lift:∀{s:Sem Value},s.run P w = .ok v w→(do pure (.value (←s)):Sem Next).run P w = .ok (.value v) w:=fun hs=>by
  rw[dt3,hs];rfl
 obtain⟨d,op,ty,pos,aft,gd⟩:=o;unfold as3 at h;simp only at h;cases op<;>try simp only at h
 case move x=>obtain rfl:=ds8 h;rfl
 case assign x=>obtain rfl:=ds8 h;rfl
 case pick c a b=>
  split at h
  ·rename_i t ht;obtain rfl:=ds8 h;simp only[execOp,ht,asBool,dt3,du6,ds6]
  ·cases h
 case binOp op t x y t2=>exact lift (bO6 h w)
 case unOp op t x=>
  refine lift ?_;unfold unV at h;split at h
  ·rename_i b hb;split at h
   ·obtain rfl:=ds8 h;simp[hb,Op.unary]
   ·cases h
  ·rename_i k n hb;split at h
   ·obtain rfl:=ds8 h;simp[hb,Op.unary,Op.intArith]
   ·cases h
  ·cases h
 case fieldAddr s x i=>exact lift (bz8 h w)
 case field s x i=>exact lift (bQ1 h w)
 case indexAddr t x i=>exact lift (bS0 h w)
 case index t x i=>exact lift (bA4 h w)
 case slice t x lo hi mx=>
  cases mx
  case none=>exact lift (bC3 h w)
  case some m=>cases h
 case extract x i=>
  refine lift ?_;split at h
  ·rename_i vs hv;unfold Instr.extract;simp only[hv,h];rfl
  ·cases h
 case nilCheck x=>
  split at h
  ·rename_i a ha;obtain rfl:=ds8 h;simp only[execOp,ha,du6]
  ·cases h
 case convert s d' x=>exact lift (bF0 h w)
 case makeFunc fn first cap=>obtain rfl:=ds8 h;rfl
 case build t parts=>
  refine lift ?_;have:=by7 h w;have e:(parts.toList.map fun p=>(p.1,ev f p.2)).toArray=parts.map fun p=>(p.1,ev f p.2):=by
   apply Array.ext';simp
  rw[e]at this;exact this
 case call c=>
  obtain⟨cal,args,tys⟩:=c;simp only at h;cases cal
  case builtin b=>
   cases b<;>try simp only at h
   case len=>
    split at h
    ·rename_i x t hx ht;have hx':args=#[x]:=by apply Array.ext';simpa using hx
     have ht':tys=#[t]:=by apply Array.ext';simpa using ht
     subst hx' ht';have:=bS5 (ty:=ty) h w;simp only[execOp,resolve,invoke,builtin,dt3,du6,ds6];simp only[List.map_toArray,dv6,List.map_nil,this,ds6]
    ·cases h
   case cap=>
    split at h
    ·rename_i x t hx ht;have hx':args=#[x]:=by apply Array.ext';simpa using hx
     have ht':tys=#[t]:=by apply Array.ext';simpa using ht
     subst hx' ht';have:=bP2 (ty:=ty) h w;simp only[execOp,resolve,invoke,builtin,dt3,du6,ds6];simp only[List.map_toArray,dv6,List.map_nil,this,ds6]
    ·cases h
   case min=>
    split at h
    ·rename_i x y hx;have hx':args=#[x,y]:=by apply Array.ext';simpa using hx
     subst hx';unfold cx3 at h;split at h
     ·rename_i k a k' b hx hy;obtain rfl:=ds8 h;simp[execOp,resolve,invoke,builtin,Builtin.min_,Builtin.min2,hx,hy]
     ·cases h
    ·cases h
   case max=>
    split at h
    ·rename_i x y hx;have hx':args=#[x,y]:=by apply Array.ext';simpa using hx
     subst hx';unfold cx2 at h;split at h
     ·rename_i k a k' b hx hy;obtain rfl:=ds8 h;simp[execOp,resolve,invoke,builtin,Builtin.max_,Builtin.max2,hx,hy]
     ·cases h
    ·cases h
   all_goals cases h
  all_goals cases h
 all_goals cases h
end
def du4:=@Nat.zero_add
def bd5(f:Fr)(o:Oper):Option (Sem Value):=match o.op with
 | .load t a=>some (Instr.loadAt t (ev f a))
 | .buildSlice t n parts=>some (Instr.buildSlice t n (parts.map fun p=>(p.1,ev f p.2)))
 | .alloc e=>some (Instr.alloc e true (.tuple #[]))
 | .box e x=>some (Instr.box e (ev f x))
 | .makeSlice t l c=>some (Instr.makeSlice t (ev f l) (ev f c))
 | .binOp op t x y _=>some (do eqGuard op t x y (ev f x) (ev f y);binOp op t (ev f x) (ev f y))
 | .convert s d x=>some (convert s d (ev f x))
 | .makeMap t r=>some (Instr.makeMap t (r.map (ev f)))
 | .lookup t x i ok=>some (Instr.lookup t (ev f x) (ev f i) ok)
 | .makeInterface t x=>some (Instr.makeInterface t (ev f x))
 | .call c=>match c.callee with
   | .builtin .append=>some (Builtin.append_ c.argTypes o.type (c.args.map (ev f)))
   | .builtin .copy=>some (Builtin.copy_ c.argTypes o.type (c.args.map (ev f)))
   | .builtin .clear=>some (Builtin.clear_ c.argTypes o.type (c.args.map (ev f)))
   | .builtin .len=>some (Builtin.len_ c.argTypes o.type (c.args.map (ev f)))
   | .builtin .delete=>some (Builtin.delete_ c.argTypes o.type (c.args.map (ev f)))
   | _=>none
 | _=>none
def ad7(r:Result Value)(K:Fr→World→Prop)(f:Fr)(d:Option Nat):Prop:=match r with
 | .ok v w=>K (C4 f d v) w
 | _=>False
def aW0(r:Result Unit)(K:Fr→World→Prop)(f:Fr)(d:Option Nat):Prop:=match r with
 | .ok _ w=>K (C4 f d undef) w
 | _=>False
def I1(P:Program)(S:World→Prop)(s:Sem Value)(K:Fr→World→Prop)(f:Fr)(d:Option Nat)(w:World):Prop:=
 ∃v,(∀w',S w'→s.run P w' = .ok v w')∧K (C4 f d v) w
def F1(S:World→Prop)(K:Fr→World→Prop):Fr→World→Prop:=fun f w=>S w∧K f w
def bf7(P:Program)(S:Option (World→Prop))(fl:Bool)(s:Sem Value)(K:Fr→World→Prop)(f:Fr)(d:Option Nat)(w:World):Prop:=
 match S with
 | none=>ad7 (s.run P w) K f d
 | some S=>if fl then I1 P S s K f d w else ad7 (s.run P w) (F1 S K) f d
def aK2(S:Option (World→Prop))(K:Fr→World→Prop):Fr→World→Prop:=
 match S with
 | none=>K
 | some S=>F1 S K
def ah7(P:Program)(k:Nat):Bool:=match P.funcs[k]? with
 | some fn=>fn.name != "runtime.NumGoroutine" && fn.body.isSome
 | none=>false
def at5(P:Program)(k:Nat)(args:List Value)(w:World)(K:Fr→World→Prop)(f:Fr)(d:Option Nat):Prop:=
 (ah7 P k=true∧Calls P k args.toArray w fun e w'=>∃v,e = .returned v∧K (C4 f d v) w')∨∃v w',(callFunc k args.toArray).run P w = .ok (.value v) w'∧K (C4 f d v) w'
def Y9(P:Program)(S:Option (World→Prop))(o:Oper)(K:Fr→World→Prop)(f:Fr)(w:World):Prop:=
 match bd5 f o with
 | some s=>bf7 P S (flt o.op) s K f o.dst w
 | none=>match o.op with
   | .store t a x=>aW0 ((Instr.storeAt t (ev f a) (ev f x)).run P w) (aK2 S K) f o.dst
   | .mapUpdate t m k x=>aW0 ((Instr.mapUpdate t (ev f m) (ev f k) (ev f x)).run P w) (aK2 S K) f o.dst
   | .insert t m k x=>aW0 ((Instr.mapUpdate t (ev f m) (ev f k) (ev f x)).run P w) (aK2 S K) f o.dst
   | .call c=>match c.callee with
     | .value g=>match ev f g with
       | .func (.func k) first cap=>at5 P k (first.toList++c.args.toList.map (ev f)++cap.toList) w (aK2 S K) f o.dst
       | _=>False
     | _=>False
   | _=>match S with
     | none=>N7 P o K f w
     | some S=>if flt o.op then ∃v,bn2 P S o f v∧K (C4 f o.dst v) w else N7 P o (fun f' w'=>S w'∧K f' w') f w
def B1(P:Program)(S:Option (World→Prop))(o:Oper)(K:Fr→World→Prop)(f:Fr)(w:World):Prop:=
 match as3 P f o.op with
 | some v=>K (C4 f o.dst v) w
 | none=>Y9 P S o K f w
def Rn(P:Program)(ops:Array Oper):List Oper→(Fr→World→Prop)→Fr→World→Prop
 | [],K,f,w=>K f w
 | o::l,K,f,w=>match o.guard with
   | none=>B1 P none o (Rn P ops l K) f w
   | some (j,b)=>if aJ4 ops f j=some b then B1 P none o (Rn P ops l K) f w else Rn P ops l K (C4 f o.dst undef) w
def RnF(P:Program)(ops:Array Oper)(S:World→Prop):aC1→(Fr→World→Prop)→Fr→World→Prop
 | .nil,K,f,w=>K f w
 | .op i l,K,f,w=>
  match ops[i]? with
  | none=>False
  | some o=>match o.guard with
    | none=>B1 P (some S) o (RnF P ops S l K) f w
    | some (j,b)=>if aJ4 ops f j=some b then B1 P (some S) o (RnF P ops S l K) f w else RnF P ops S l K (C4 f o.dst undef) w
 | .fork rs k,K,f,w=>∀i∈rs,
   match ops[i]? with
   | none=>False
   | some o=>match o.guard with
     | none=>B1 P (some S) o (RnF P ops S (k i) K) f w∧flt o.op=false
     | some (j,b)=>if aJ4 ops f j=some b then B1 P (some S) o (RnF P ops S (k i) K) f w∧flt o.op=false else RnF P ops S (k i) K (C4 f o.dst undef) w
section
variable {P:Program}
theorem ch5{k:Nat}{args:List Value}{w:World}{K:Fr→World→Prop}{f:Fr}{d:Option Nat}(h:at5 P k args w K f d):
  match(callFunc k args.toArray).run P w with
  | .ok (.value v) w'=>K (C4 f d v) w'
  | .ok (.enter g asz) w'=>Calls P g asz w' fun e w''=>∃v,e = .returned v∧K (C4 f d v) w''
  | _=>False:=by
 rcases h with⟨hb,h⟩|⟨v,w',hr,h⟩
 ·unfold ah7 at hb;cases hf:P.funcs[k]? with
  | none=>simp[hf]at hb
  | some fn=>
   simp only[hf,dt0,bne_iff_ne,ne_eq]at hb;obtain⟨hn,hbd⟩:=hb;have hbn:fn.body.isNone=false:=by cases hx:fn.body<;>simp[hx]at hbd ⊢
   have hne:(fn.name == "runtime.NumGoroutine")=false:=by simpa using hn
   simp only[callFunc,program,dt3,Sem.run,ds6,hf,hne,hbn,dx4,dy5];exact h
 ·rw[hr];exact h
theorem br9{d:Option Nat}{g:Operand}{args:Array Operand}{tys:Array TypeId}{ty:TypeId}{pos:String}{aft:Array Edge}{gd:Option (Nat×Bool)}{K:Fr→World→Prop}{f:Fr}{w:World}
  (h:match ev f g with
    | .func (.func k) first cap=>at5 P k (first.toList++args.toList.map (ev f)++cap.toList) w K f d
    | _=>False):N7 P ⟨d,.call ⟨.value g,args,tys⟩,ty,pos,aft,gd⟩ K f w:=by
 cases hg:ev f g
 case func fn first cap=>
  cases fn
  case func k=>
   simp only[hg]at h;have h2:=ch5 h;unfold N7;have e:(execOp (ev f) ⟨d,.call ⟨.value g,args,tys⟩,ty,pos,aft,gd⟩).run P w=(callFunc k (first.toList++args.toList.map (ev f)++cap.toList).toArray).run P w:=by
    simp only[execOp,resolve,hg,Deferred.ofValue,invoke,dt3,du6,ds6]
    congr 2
    apply Array.ext';simp
   rw[e];generalize(callFunc k (first.toList++args.toList.map (ev f)++cap.toList).toArray).run P w=r at *;cases r with
   | halt x w'=>exact h2
   | ok n w'=>
    cases n
    case value v=>exact h2
    case enter g asz=>exact h2
    all_goals exact h2.elim
  all_goals (simp only[hg]at h)
 all_goals (simp only[hg]at h)
theorem an9{o:Oper}{s:Sem Unit}{K:Fr→World→Prop}{f:Fr}{w:World}(he:execOp (ev f) o=(do s;pure .skip:Sem Next))(h:aW0 (s.run P w) K f o.dst):N7 P o K f w:=by
 unfold N7;rw[he,dt3];unfold aW0 at h;cases hr:s.run P w with
 | ok u w'=>rw[hr]at h;exact h
 | halt x w'=>rw[hr]at h;exact h.elim
theorem ab3{o:Oper}{s:Sem Value}{K:Fr→World→Prop}{f:Fr}{w:World}(he:execOp (ev f) o=(do pure (.value (←s)):Sem Next))(h:ad7 (s.run P w) K f o.dst):N7 P o K f w:=by
 unfold N7;rw[he,dt3];unfold ad7 at h;cases hr:s.run P w with
 | ok u w'=>rw[hr]at h;exact h
 | halt x w'=>rw[hr]at h;exact h.elim
theorem aS3{o:Oper}{K:Fr→World→Prop}{f:Fr}{w:World}(h:B1 P none o K f w):N7 P o K f w:=by
 unfold B1 at h;cases hp:as3 P f o.op with
 | some v=>
  simp only[hp]at h;unfold N7;rw[aE9 hp];exact h
 | none=>
  simp only[hp]at h;obtain⟨d,op,ty,pos,aft,gd⟩:=o;unfold Y9 bd5 at h;cases op
  case call c=>
   obtain⟨cal,args,tys⟩:=c;cases cal
   case builtin b=>
    cases b
    case append=>exact ab3 rfl h
    case copy=>exact ab3 rfl h
    case clear=>exact ab3 rfl h
    case len=>exact ab3 rfl h
    case delete=>exact ab3 rfl h
    all_goals exact h.elim
   case value g=>exact br9 h
   case invoke r m=>exact h.elim
  case store t a x=>exact an9 rfl h
  case mapUpdate t m k x=>exact an9 rfl h
  case insert t m k x=>exact an9 rfl h
  all_goals first
   | exact ab3 rfl h
   | exact h
theorem aS2{S:World→Prop}{o:Oper}{K:Fr→World→Prop}{f:Fr}{w:World}(h:B1 P (some S) o K f w)(hS:S w):
  if flt o.op then ∃v,bn2 P S o f v∧K (C4 f o.dst v) w else N7 P o (fun f' w'=>S w'∧K f' w') f w:=by
 unfold B1 at h;cases hp:as3 P f o.op with
 | some v=>
  simp only[hp]at h;split
  ·exact⟨v,fun w' _=>aE9 hp w',h⟩
  ·unfold N7;rw[aE9 hp];exact⟨hS,h⟩
 | none=>
  simp only[hp]at h;obtain⟨d,op,ty,pos,aft,gd⟩:=o;have lift:∀{s:Sem Value},(execOp (ev f) ⟨d,op,ty,pos,aft,gd⟩)=(do pure (.value (←s)):Sem Next)→bf7 P (some S) (flt op) s K f d w →
    if flt op then ∃v,bn2 P S ⟨d,op,ty,pos,aft,gd⟩ f v∧K (C4 f d v) w else N7 P ⟨d,op,ty,pos,aft,gd⟩ (fun f' w'=>S w'∧K f' w') f w:=by
   intro s he hs;unfold bf7 at hs;cases hfl:flt op with
   | true=>
    simp only[hfl,dx1]at hs;obtain⟨v,hr,hk⟩:=hs;rw[if_pos rfl];refine⟨v,fun w' hw'=>?_,hk⟩;rw[he,dt3,hr w' hw'];rfl
   | false=>
    simp only[hfl,dx4,dy5]at hs;rw[if_neg (by simp)];exact ab3 he hs
  unfold Y9 bd5 at h;cases op
  case call c=>
   obtain⟨cal,args,tys⟩:=c;cases cal
   case builtin b=>
    cases b
    case append=>exact lift rfl h
    case copy=>exact lift rfl h
    case clear=>exact lift rfl h
    case len=>exact lift rfl h
    case delete=>exact lift rfl h
    all_goals exact h.elim
   case value g=>exact br9 (K:=F1 S K) h
   case invoke r m=>exact h.elim
  case store t a x=>exact an9 (K:=F1 S K) rfl h
  case mapUpdate t m k x=>exact an9 (K:=F1 S K) rfl h
  case insert t m k x=>exact an9 (K:=F1 S K) rfl h
  all_goals first
   | exact lift rfl h
   | exact h
theorem at8{ops:Array Oper}{K:Fr→World→Prop}:∀(l:List Oper) (f:Fr) (w:World),Rn P ops l K f w→Run P ops l K f w
 | [],f,w,h=>h
 | o::l,f,w,h=>by
  unfold Rn at h;unfold Run Region.wanted;cases hg:o.guard with
  | none=>
   simp only[hg]at h;simp only[dx1];exact ag6 (at8 l) (aS3 h)
  | some jb=>
   obtain⟨j,b⟩:=jb;simp only[hg]at h;simp only[beq_iff_eq];split
   ·rename_i hc;rw[if_pos hc]at h;exact ag6 (at8 l) (aS3 h)
   ·rename_i hc;rw[if_neg hc]at h;exact at8 l _ _ h
theorem am6{ops:Array Oper}{S:World→Prop}{K K':Fr→World→Prop}(hk:∀f w,K f w→K' f w):∀(l:aC1) (f:Fr) (w:World),ar5 P ops S l K f w→ar5 P ops S l K' f w
 | .nil,f,w,h=>hk _ _ h
 | .op i l,f,w,h=>by
  unfold ar5 at *;cases ho:ops[i]? with
  | none=>simp[ho]at h
  | some o=>
   simp only[ho]at h ⊢;split
   ·rename_i hw;rw[if_pos hw]at h;split
    ·rename_i hf;rw[if_pos hf]at h;obtain⟨v,h1,h2⟩:=h;exact⟨v,h1,am6 hk l _ _ h2⟩
    ·rename_i hf;rw[if_neg hf]at h;exact ag6 (fun f w hh=>⟨hh.1,am6 hk l _ _ hh.2⟩) h
   ·rename_i hw;rw[if_neg hw]at h;exact am6 hk l _ _ h
 | .fork rs k,f,w,h=>by
  unfold ar5 at *;intro i hi;have h:=h i hi;cases ho:ops[i]? with
  | none=>simp[ho]at h
  | some o=>
   simp only[ho]at h ⊢;split
   ·rename_i hw;rw[if_pos hw]at h;exact ag6 (fun f w hh=>⟨hh.1,am6 hk (k i) _ _ hh.2⟩) h
   ·rename_i hw;rw[if_neg hw]at h;exact am6 hk (k i) _ _ h
theorem ab6{ops:Array Oper}{S:World→Prop}{K:Fr→World→Prop}:∀(l:aC1) (f:Fr) (w:World),S w→RnF P ops S l K f w→ar5 P ops S l K f w
 | .nil,f,w,_,h=>h
 | .op i l,f,w,hS,h=>by
  unfold RnF at h;unfold ar5 Region.wanted;cases ho:ops[i]? with
  | none=>simp[ho]at h
  | some o=>
   simp only[ho]at h ⊢;have main:B1 P (some S) o (RnF P ops S l K) f w→(if flt o.op then ∃v,bn2 P S o f v∧ar5 P ops S l K (C4 f o.dst v) w else N7 P o (fun f' w'=>S w'∧ar5 P ops S l K f' w') f w):=by
    intro h1;have h2:=aS2 h1 hS;split
    ·rename_i hf;rw[if_pos hf]at h2;obtain⟨v,h3,h4⟩:=h2;exact⟨v,h3,ab6 l _ _ hS h4⟩
    ·rename_i hf;rw[if_neg hf]at h2;exact ag6 (fun f w hh=>⟨hh.1,ab6 l _ _ hh.1 hh.2⟩) h2
   cases hg:o.guard with
   | none=>
    simp only[hg]at h;simp only[dx1];exact main h
   | some jb=>
    obtain⟨j,b⟩:=jb;simp only[hg]at h;simp only[beq_iff_eq];split
    ·rename_i hc;rw[if_pos hc]at h;exact main h
    ·rename_i hc;rw[if_neg hc]at h;exact ab6 l _ _ hS h
 | .fork rs k,f,w,hS,h=>by
  unfold RnF at h;unfold ar5 Region.wanted;intro i hi;have h:=h i hi;cases ho:ops[i]? with
  | none=>simp[ho]at h
  | some o=>
   simp only[ho]at h ⊢;have main:B1 P (some S) o (RnF P ops S (k i) K) f w∧flt o.op=false→N7 P o (fun f' w'=>S w'∧ar5 P ops S (k i) K f' w') f w:=by
    rintro⟨h1,hf⟩;have h2:=aS2 h1 hS;rw[if_neg (by simp[hf])]at h2;exact ag6 (fun f w hh=>⟨hh.1,ab6 (k i) _ _ hh.1 hh.2⟩) h2
   cases hg:o.guard with
   | none=>
    simp only[hg]at h;simp only[dx1];exact main h
   | some jb=>
    obtain⟨j,b⟩:=jb;simp only[hg]at h;simp only[beq_iff_eq];split
    ·rename_i hc;rw[if_pos hc]at h;exact main h
    ·rename_i hc;rw[if_neg hc]at h;exact ab6 (k i) _ _ hS h
end
def W1(K:Fr→World→Prop)(Q:Exit→Fr→World→Prop):Exit→Fr→World→Prop
 | .normal,f,w=>K f w
 | e,f,w=>Q e f w
def T0(id:Nat)(Q:Exit→Fr→World→Prop):Exit→Fr→World→Prop
 | .exit id',f,w=>if id'=id then Q .normal f w else Q (.exit id') f w
 | e,f,w=>Q e f w
def aK0(v:Value)(A B:Fr→World→Prop)(f:Fr)(w:World):Prop:=
 match v with
 | .bool true=>A f w
 | .bool false=>B f w
 | _=>False
def bX3(B:(Exit→Fr→World→Prop)→Fr→World→Prop)(Q:Exit→Fr→World→Prop)(f:Fr)(w:World):Prop:=
 ∃(σ:Type) (I:σ→Fr→World→Prop) (m:σ→Nat) (s0:σ),I s0 f w ∧
  ∀s f' w',I s f' w'→B (W1 (fun f'' w''=>∃s',m s'<m s∧I s' f'' w'') Q) f' w'
def cp0(P:Program)(ops:Array Oper)(K:Fr→World→Prop)(f:Fr)(w:World):Prop:=
 ∃(S:World→Prop) (n:Nat) (ord:aC1),bK2 ops n ord=true∧S w.drew∧RnF P ops S ord (Rn P ops (ops.toList.drop n) K) f w.drew
def CW(P:Program):Code→(Exit→Fr→World→Prop)→Fr→World→Prop
 | .skip,Q,f,w=>Q .normal f w
 | .seq a b,Q,f,w=>CW P a (W1 (CW P b Q) Q) f w
 | .cond c a b,Q,f,w=>aK0 (ev f c) (CW P a Q) (CW P b Q) f w
 | .block id a,Q,f,w=>CW P a (T0 id Q) f w
 | .loop a,Q,f,w=>bX3 (CW P a) Q f w
 | .region _ ops d,Q,f,w=>if d then cp0 P ops (Q .normal) f w else Rn P ops ops.toList (Q .normal) f w
 | .exit id,Q,f,w=>Q (.exit id) f w
 | .label _,Q,f,w=>Q .normal f w
 | .ret,Q,f,w=>Q .ret f w
 | _,_,_,_=>False
def ao9(N:Nat):Code→Bool
 | .seq a b=>ao9 N a&&ao9 N b
 | .cond _ a b=>ao9 N a&&ao9 N b
 | .block _ a=>ao9 N a
 | .loop a=>ao9 N a
 | .region _ ops _=>ct7 N ops
 | _=>true
def ct1(Q:Exit→Fr→World→Prop):Prop:=∀c f w,¬Q (.panic c) f w
theorem bs7{K:Fr→World→Prop}{Q:Exit→Fr→World→Prop}(h:ct1 Q):ct1 (W1 K Q):=fun c f w=>h c f w
theorem bP1{id:Nat}{Q:Exit→Fr→World→Prop}(h:ct1 Q):ct1 (T0 id Q):=fun c f w=>h c f w
theorem bX1{P:Program}{Q:Exit→Act→World→Prop}{a:Act}{w:World}{c:Code}{σ:Type}(I:σ→Act→World→Prop)(m:σ→Nat)(s0:σ)(h₀:I s0 a w)
  (round:∀s a w,I s a w→c.wp P (Exit.then (fun a' w'=>∃s',m s'<m s∧I s' a' w') Q) a w):(Code.loop c).wp P Q a w:=by
 intro b k cs;have key:∀n s a w,m s=n→I s a w →
   ∃e a' w',Q e a' w'∧Arrives P (lone (b.at a (.code c :: .inLoop c::k)) cs w) b k cs e a' w':=by
  intro n
  induction n using Nat.strongRecOn with
  | _ n ih=>
   intro s a w hn hI;obtain⟨e,a₁,w₁,hq,harr⟩:=round s a w hI b (.inLoop c::k) cs;cases e with
   | normal=>
    obtain⟨s',hlt,hI₁⟩:=hq;obtain⟨e₂,a₂,w₂,hq₂,harr₂⟩:=ih (m s') (hn ▸ hlt) s' a₁ w₁ rfl hI₁;exact⟨e₂,a₂,w₂,hq₂,.of_steps (Steps.trans harr (.one step_inLoop)) harr₂⟩
   | exit id=>exact⟨_,a₁,w₁,hq,.pass (x:=.inLoop c) rfl (fun _ _=>.inl (by simp)) harr⟩
   | goto l=>exact⟨_,a₁,w₁,hq,.pass (x:=.inLoop c) rfl (fun _ _=>.inl (by simp)) harr⟩
   | ret=>exact⟨_,a₁,w₁,hq,.pass (x:=.inLoop c) rfl (fun _ _=>.inl (by simp)) harr⟩
   | panic ch=>exact⟨_,a₁,w₁,hq,.pass (x:=.inLoop c) rfl (fun _ _=>.inl (by simp)) harr⟩
   | outgrown=>exact⟨_,a₁,w₁,hq,.pass (x:=.inLoop c) rfl (fun _ _=>.inl (by simp)) harr⟩
 obtain⟨e,a',w',hq,harr⟩:=key _ s0 a w rfl h₀;exact⟨e,a',w',hq,.of_steps (.one step_loop) harr⟩
theorem co7{P:Program}{N:Nat}(hm:P.follows .mixedOrders=true):∀(c:Code) (Q:Exit→Fr→World→Prop) (a:Act) (w:World),ct1 Q→ao9 N c=true →
  a.tmps.size=N→a.defers=[]→CW P c Q (aa6 a) w→c.wp P (lft N Q) a w:=by
 intro c
 induction c with
 | skip=>intro Q a w _ _ hn hd h;exact wp_skip ⟨hn,hd,h⟩
 | seq x y ihx ihy=>
  intro Q a w hQ hok hn hd h;simp only[ao9,dt0]at hok;refine wp_seq (wp_mono (ihx _ a w (bs7 hQ) hok.1 hn hd h) ?_);intro e a' w' hq;cases e
  case normal=>exact ihy _ a' w' hQ hok.2 hq.1 hq.2.1 hq.2.2
  all_goals exact hq
 | cond v x y ihx ihy=>
  intro Q a w hQ hok hn hd h;simp only[ao9,dt0]at hok;simp only[CW]at h;unfold aK0 at h;have he:a.eval v=ev (aa6 a) v:=by rw[bz6]
  generalize hv:ev (aa6 a) v=u at h;cases u
  case bool t=>
   cases t
   case true=>exact wp_cond_true (by rw[he,hv]) (ihx _ a w hQ hok.1 hn hd h)
   case false=>exact wp_cond_false (by rw[he,hv]) (ihy _ a w hQ hok.2 hn hd h)
  all_goals exact h.elim
 | block id x ih=>
  intro Q a w hQ hok hn hd h;refine wp_block (wp_mono (ih _ a w (bP1 hQ) hok hn hd h) ?_);intro e a' w' hq;cases e
  case exit id'=>
   simp only[Exit.inBlock];simp only[lft,T0]at hq;split
   ·rename_i hid;rw[if_pos hid]at hq;exact hq
   ·rename_i hid;rw[if_neg hid]at hq;exact hq
  all_goals exact hq
 | loop x ih=>
  intro Q a w hQ hok hn hd h;obtain⟨σ,I,m,s0,h0,hr⟩:=h;refine bX1 (fun s a w=>a.tmps.size=N∧a.defers=[]∧I s (aa6 a) w) m s0 ⟨hn,hd,h0⟩ ?_;rintro s a' w' ⟨hn',hd',hI⟩;refine wp_mono (ih _ a' w' (bs7 hQ) hok hn' hd' (hr s _ w' hI)) ?_;intro e a'' w'' hq;cases e
  case normal=>
   obtain⟨h1,h2,s',h3,h4⟩:=hq;exact⟨s',h3,h1,h2,h4⟩
  all_goals exact hq
 | region id ops d=>
  intro Q a w hQ hok hn hd h;cases d
  case false=>
   simp only[CW,dx4,dy5]at h;exact wp_region_list (at3 _ a w (fun o ho=>Array.all_eq_true'.1 hok o (by simpa using ho)) hn hd (at8 _ _ _ h))
  case true=>
   simp only[CW,dx1]at h;obtain⟨S,n,ord,h1,h3,h4⟩:=h;exact bo5 hm hQ h1 hok hn hd h3 (am6 (fun f w hh=>at8 _ f w hh) _ _ _ (ab6 _ _ _ h3 h4))
 | exit id=>intro Q a w _ _ hn hd h;exact wp_exit ⟨hn,hd,h⟩
 | label l=>intro Q a w _ _ hn hd h;exact wp_label ⟨hn,hd,h⟩
 | ret=>intro Q a w _ _ hn hd h;exact wp_ret ⟨hn,hd,h⟩
 | _=>intro Q a w _ _ _ _ h;exact h.elim
def cQ7(args:List Value):Fr:=fun i=>args.getD i undef
def bE1:Nat→List Value→Fr
 | _,[]=>fun _=>undef
 | k,v::vs=>p6 (bE1 (k+1) vs) k v
theorem bX8:∀(vs:List Value) (k i:Nat),bE1 k vs (k+i)=vs.getD i undef
 | [],_,_=>by simp[bE1]
 | v::vs,k,0=>by simp[bE1,p6]
 | v::vs,k,i+1=>by
  have:=bX8 vs (k+1) i;simp only[bE1,p6];rw[if_neg (by omega),show k+(i+1)=k+1+i by omega,this];simp
theorem cQ8(args:List Value):cQ7 args=bE1 0 args:=by
 funext i
 have:=bX8 args 0 i;simp only[du4]at this;rw[this];rfl
def bT9(P:Program)(w:World)(f:Fr):ResultVar→Value→Prop
 | .tmp t,v=>v=f t
 | .cell a ty,v=>(do loadVar ty (←asAddr (f a)):Sem Value).run P w = .ok v w
def bl0(P:Program)(w:World)(f:Fr):List ResultVar→List Value→Prop
 | [],[]=>True
 | r::rs,v::vs=>bT9 P w f r v∧bl0 P w f rs vs
 | _,_=>False
def aX2:List Value→Value
 | [v]=>v
 | vs=>.tuple vs.toArray
def aJ3(P:Program)(fn:Func)(R:Value→World→Prop):Exit→Fr→World→Prop
 | .normal,f,w=>∃vs,bl0 P w f fn.results.toList vs∧R (aX2 vs) w
 | .ret,f,w=>∃vs,bl0 P w f fn.results.toList vs∧R (aX2 vs) w
 | _,_,_=>False
theorem bl1{P:Program}{w:World}{a:Act}:∀(rs:List ResultVar) (vs:List Value),bl0 P w (aa6 a) rs vs →
  (rs.mapM (m:=Sem) fun
   | .tmp t=>pure (a.tmps.getD t undef)
   | .cell x t=>do loadVar t (←asAddr (a.tmps.getD x undef))).run P w = .ok vs w
 | [],[],_=>by simp
 | [],_::_,h=>h.elim
 | _::_,[],h=>h.elim
 | r::rs,v::vs,h=>by
  have ih:=bl1 rs vs h.2;have h1:=h.1;cases r with
  | tmp t=>
   simp only[bT9,aa6]at h1;subst h1;simp only[List.mapM_cons,dt3,du6,ds6,ih]
  | cell x t=>
   simp only[bT9,aa6]at h1;simp only[List.mapM_cons];rw[dt3,h1];simp only[dt3,du6,ds6,ih]
theorem bb8{P:Program}{fn:Func}{w:World}{a:Act}{vs:List Value}(h:bl0 P w (aa6 a) fn.results.toList vs):
  (results fn a.tmps).run P w = .ok (aX2 vs) w:=by
 have h1:=bl1 _ _ h;unfold results;rw[Array.mapM_eq_mapM_toList];simp only[dt3,Sem.run_map]
 erw [h1]
 simp only[ds6,du6]
 congr 1
 match vs with
 | []=>simp[aX2]
 | [v]=>simp[aX2]
 | v::u::vs=>simp[aX2]
theorem aY8{P:Program}{k:FuncId}{fn:Func}{c:Code}{args:List Value}{w:World}{R:Value→World→Prop}(hm:P.follows .mixedOrders=true)
  (hf:P.funcs[k]?=some fn) (hb:fn.body=some c) (hok:ao9 fn.ntmps c=true) (hargs:args.length≤fn.ntmps)
  (h:CW P c (aJ3 P fn R) (bE1 0 args) w):Calls P k args.toArray w (fun e w'=>∃v,e = .returned v∧R v w'):=by
 rw[←cQ8]at h;refine calls_of_wp hf hb ?_;have hfr:aa6 {tmps:=args.toArray++Array.replicate (fn.ntmps-args.toArray.size) undef,defers:=[]}=cQ7 args:=by
  funext i
  simp only[aa6,cQ7,Array.getD_eq_getD_getElem?,List.getD_eq_getElem?_getD];by_cases hi:i<args.length
  ·rw[Array.getElem?_append_left (by simpa using hi)];simp
  ·rw[Array.getElem?_append_right (by simp;omega)];rw[dy9 (by omega)];by_cases h2:i-args.length<fn.ntmps-args.length
   ·simp[h2]
   ·simp[h2]
 have:=co7 (N:=fn.ntmps) hm c (aJ3 P fn R) {tmps:=args.toArray++Array.replicate (fn.ntmps-args.toArray.size) undef,defers:=[]} w
  (fun c f w hh=>hh) hok (by simp;omega) rfl (by rw[hfr];exact h)
 refine wp_mono this ?_;intro e a' w' hq;cases e
 case normal=>
  obtain⟨_,hd,vs,hv,hR⟩:=hq;exact⟨hd,_,bb8 hv,_,rfl,hR⟩
 case ret=>
  obtain⟨_,hd,vs,hv,hR⟩:=hq;exact⟨hd,_,bb8 hv,_,rfl,hR⟩
 all_goals exact hq.2.2.elim
abbrev p7(P:Program)(k:FuncId)(args:Array Value)(w:World)(Q:Value→World→Prop):Prop:=Calls P k args w fun e w'=>∃v,e = .returned v∧Q v w'
theorem p8{P:Program}{k:FuncId}{fn:Func}{c:Code}{w:World}{R:Value→World→Prop}(args:List Value)(hf:P.funcs[k]?=some fn)(hb:fn.body=some c)(h:CW P c (aJ3 P fn R) (bE1 0 args) w)
  (hok:ao9 fn.ntmps c=true:=by kernel_rfl) (hl:Nat.ble args.length fn.ntmps=true:=by kernel_rfl) (hm:P.follows .mixedOrders=true:=by kernel_rfl):p7 P k args.toArray w R:=
 aY8 hm hf hb hok (Nat.le_of_ble_eq_true hl) h
theorem o6{P:Program}{fn:Func}{R:Value→World→Prop}{f:Fr}{w:World}{t:Nat}(h:fn.results=#[.tmp t])(hR:R (f t) w):aJ3 P fn R .ret f w:=
 ⟨[f t],by rw[h];exact⟨rfl,trivial⟩,hR⟩
theorem af0{P:Program}{fn:Func}{R:Value→World→Prop}{f:Fr}{w:World}{t u:Nat}(h:fn.results=#[.tmp t,.tmp u])(hR:R (.tuple #[f t,f u]) w):aJ3 P fn R .ret f w:=
 ⟨[f t,f u],by rw[h];exact⟨rfl,rfl,trivial⟩,hR⟩
theorem cA1{P:Program}{fn:Func}{R:Value→World→Prop}{f:Fr}{w:World}(h:fn.results=#[])(hR:R (.tuple #[]) w):aJ3 P fn R .normal f w:=
 ⟨[],by rw[h];exact trivial,hR⟩
section
variable {P:Program} {Q:Exit→Fr→World→Prop} {f:Fr} {w:World} {K:Fr→World→Prop} {ops:Array Oper} {l:List Oper}
theorem dh0:CW P .skip Q f w=Q .normal f w:=rfl
theorem bf3{a b:Code}:CW P (.seq a b) Q f w=CW P a (W1 (CW P b Q) Q) f w:=rfl
theorem dg3{c:Operand}{a b:Code}:CW P (.cond c a b) Q f w=aK0 (ev f c) (CW P a Q) (CW P b Q) f w:=rfl
theorem cW8{id:Nat}{a:Code}:CW P (.block id a) Q f w=CW P a (T0 id Q) f w:=rfl
theorem dg6{a:Code}:CW P (.loop a) Q f w=bX3 (CW P a) Q f w:=rfl
theorem dk3{id:Nat}:CW P (.region id ops false) Q f w=Rn P ops ops.toList (Q .normal) f w:=rfl
theorem dg4{id:Nat}:CW P (.region id ops true) Q f w=cp0 P ops (Q .normal) f w:=rfl
theorem dg5{id:Nat}:CW P (.exit id) Q f w=Q (.exit id) f w:=rfl
theorem dk4:CW P .ret Q f w=Q .ret f w:=rfl
theorem dk0:W1 K Q .normal f w=K f w:=rfl
theorem dd9:W1 K Q .normal=K:=rfl
theorem dk1:W1 K Q .ret f w=Q .ret f w:=rfl
theorem dk2{i:Nat}:W1 K Q (.exit i) f w=Q (.exit i) f w:=rfl
theorem cX9{i:Nat}:T0 i Q .normal f w=Q .normal f w:=rfl
theorem cV4{i:Nat}:T0 i Q .normal=Q .normal:=rfl
theorem cY0{i:Nat}:T0 i Q .ret f w=Q .ret f w:=rfl
theorem cY1{i j:Nat}:T0 i Q (.exit j) f w=if j=i then Q .normal f w else Q (.exit j) f w:=rfl
theorem di7{A B:Fr→World→Prop}:aK0 (.bool true) A B f w=A f w:=rfl
theorem di6{A B:Fr→World→Prop}:aK0 (.bool false) A B f w=B f w:=rfl
theorem m8{A B:Fr→World→Prop}{b:Bool}(h1:b=true→A f w)(h2:b=false→B f w):aK0 (.bool b) A B f w:=by
 cases b
 ·exact h2 rfl
 ·exact h1 rfl
theorem dk7:Rn P ops [] K f w=K f w:=rfl
theorem do5{d:Option Nat}{op:Op}{ty:TypeId}{pos:String}{aft:Array Edge}:
  Rn P ops (⟨d,op,ty,pos,aft,none⟩::l) K f w=B1 P none ⟨d,op,ty,pos,aft,none⟩ (Rn P ops l K) f w:=rfl
theorem dp1{d:Option Nat}{op:Op}{ty:TypeId}{pos:String}{aft:Array Edge}{j:Nat}{b:Bool}:
  Rn P ops (⟨d,op,ty,pos,aft,some (j,b)⟩::l) K f w =
   if aJ4 ops f j=some b then B1 P none ⟨d,op,ty,pos,aft,none⟩ (Rn P ops l K) f w else Rn P ops l K (C4 f d undef) w:=rfl
theorem cW6{S:Option (World→Prop)}{d:Option Nat}{op:Op}{ty:TypeId}{pos:String}{aft:Array Edge}{g:Nat×Bool}:
  B1 P S ⟨d,op,ty,pos,aft,some g⟩ K f w=B1 P S ⟨d,op,ty,pos,aft,none⟩ K f w:=rfl
def cv3(ops:Array Oper)(j:Nat):Option Nat:=(ops[j]?).bind (·.dst)
theorem cW1{j:Nat}:aJ4 ops f j=match cv3 ops j with|some d=>(match f d with | .bool b=>some b|_=>none)|none=>none:=rfl
section
variable {S:World→Prop} {n i:Nat} {r:aC1}
theorem dh1:RnF P ops S .nil K f w=K f w:=rfl
theorem dk5:RnF P ops S (.op i r) K f w =
  match ops[i]? with
  | none=>False
  | some o=>match o.guard with
    | none=>B1 P (some S) o (RnF P ops S r K) f w
    | some (j,b)=>if aJ4 ops f j=some b then B1 P (some S) o (RnF P ops S r K) f w else RnF P ops S r K (C4 f o.dst undef) w:=rfl
end
section
variable {S:Option (World→Prop)} {d:Option Nat} {ty:TypeId} {pos:String} {aft:Array Edge}
theorem dj6{x:Operand}:B1 P S ⟨d,.move x,ty,pos,aft,none⟩ K f w=K (C4 f d (ev f x)) w:=rfl
theorem cW7{x:Operand}:B1 P S ⟨d,.assign x,ty,pos,aft,none⟩ K f w=K (C4 f d (ev f x)) w:=rfl
def ax8(v:Option Value)(K:Fr→World→Prop)(f:Fr)(d:Option Nat)(w:World)(D:Prop):Prop:=match v with
 | some v=>K (C4 f d v) w
 | none=>D
theorem dm7{v:Value}{D:Prop}:ax8 (some v) K f d w D=K (C4 f d v) w:=rfl
theorem dj8{v:Value}:ad7 (.ok v w) K f d=K (C4 f d v) w:=rfl
theorem dj9{v:Unit}:aW0 (.ok v w) K f d=K (C4 f d undef) w:=rfl
theorem dj7{c a b:Operand}:B1 P S ⟨d,.pick c a b,ty,pos,aft,none⟩ K f w =
  ax8 (match ev f c with | .bool t=>some (if t then ev f a else ev f b)|_=>none) K f d w (Y9 P S ⟨d,.pick c a b,ty,pos,aft,none⟩ K f w):=rfl
theorem dm8{op:BinOp}{t t2:TypeId}{x y:Operand}:B1 P S ⟨d,.binOp op t x y t2,ty,pos,aft,none⟩ K f w =
  ax8 (B6 P op t (ev f x) (ev f y)) K f d w (Y9 P S ⟨d,.binOp op t x y t2,ty,pos,aft,none⟩ K f w):=rfl
theorem dp0{op:UnOp}{t:TypeId}{x:Operand}:B1 P S ⟨d,.unOp op t x,ty,pos,aft,none⟩ K f w =
  ax8 (unV op (ev f x)) K f d w (Y9 P S ⟨d,.unOp op t x,ty,pos,aft,none⟩ K f w):=rfl
theorem cJ8{s:TypeId}{x:Operand}{i:Nat}:B1 P S ⟨d,.fieldAddr s x i,ty,pos,aft,none⟩ K f w =
  ax8 (bz7 P s i (ev f x)) K f d w (Y9 P S ⟨d,.fieldAddr s x i,ty,pos,aft,none⟩ K f w):=rfl
theorem db8{s:TypeId}{x:Operand}{i:Nat}:B1 P S ⟨d,.field s x i,ty,pos,aft,none⟩ K f w =
  ax8 (aD0 P s i (ev f x)) K f d w (Y9 P S ⟨d,.field s x i,ty,pos,aft,none⟩ K f w):=rfl
theorem cJ9{t:TypeId}{x i:Operand}:B1 P S ⟨d,.indexAddr t x i,ty,pos,aft,none⟩ K f w =
  ax8 (z6 P t (ev f x) (ev f i)) K f d w (Y9 P S ⟨d,.indexAddr t x i,ty,pos,aft,none⟩ K f w):=rfl
theorem db9{t:TypeId}{x i:Operand}:B1 P S ⟨d,.index t x i,ty,pos,aft,none⟩ K f w =
  ax8 (U6 P t (ev f x) (ev f i)) K f d w (Y9 P S ⟨d,.index t x i,ty,pos,aft,none⟩ K f w):=rfl
theorem dc0{t:TypeId}{x:Operand}{lo hi:Option Operand}:B1 P S ⟨d,.slice t x lo hi none,ty,pos,aft,none⟩ K f w =
  ax8 (I0 P t (ev f x) (lo.map (ev f)) (hi.map (ev f))) K f d w (Y9 P S ⟨d,.slice t x lo hi none,ty,pos,aft,none⟩ K f w):=rfl
theorem cT3{x:Operand}{i:Nat}:B1 P S ⟨d,.extract x i,ty,pos,aft,none⟩ K f w =
  ax8 (match ev f x with | .tuple vs=>vs[i]?|_=>none) K f d w (Y9 P S ⟨d,.extract x i,ty,pos,aft,none⟩ K f w):=rfl
theorem cO5{x:Operand}:B1 P S ⟨d,.nilCheck x,ty,pos,aft,none⟩ K f w =
  ax8 (match ev f x with | .pointer (some a)=>some (.pointer (some a))|_=>none) K f d w (Y9 P S ⟨d,.nilCheck x,ty,pos,aft,none⟩ K f w):=rfl
theorem cO4{fn:Fn}{first cap:Array Operand}:B1 P S ⟨d,.makeFunc fn first cap,ty,pos,aft,none⟩ K f w=K (C4 f d (.func fn (first.map (ev f)) (cap.map (ev f)))) w:=rfl
theorem db7{t:TypeId}{parts:Array (Nat×Operand)}:B1 P S ⟨d,.build t parts,ty,pos,aft,none⟩ K f w =
  ax8 (B8 P t (parts.toList.map fun p=>(p.1,ev f p.2))) K f d w (Y9 P S ⟨d,.build t parts,ty,pos,aft,none⟩ K f w):=rfl
theorem dn0{x:Operand}{t:TypeId}:B1 P S ⟨d,.call {callee:=.builtin .len,args:=#[x],argTypes:=#[t]},ty,pos,aft,none⟩ K f w =
  ax8 (P9 P t (ev f x)) K f d w (Y9 P S ⟨d,.call {callee:=.builtin .len,args:=#[x],argTypes:=#[t]},ty,pos,aft,none⟩ K f w):=rfl
theorem dm9{x:Operand}{t:TypeId}:B1 P S ⟨d,.call {callee:=.builtin .cap,args:=#[x],argTypes:=#[t]},ty,pos,aft,none⟩ K f w =
  ax8 (cG6 P t (ev f x)) K f d w (Y9 P S ⟨d,.call {callee:=.builtin .cap,args:=#[x],argTypes:=#[t]},ty,pos,aft,none⟩ K f w):=rfl
theorem cT2{s t:Nat}{x:Operand}:B1 P S ⟨d,.convert s t x,ty,pos,aft,none⟩ K f w =
  ax8 (aZ0 P s t (ev f x)) K f d w (Y9 P S ⟨d,.convert s t x,ty,pos,aft,none⟩ K f w):=rfl
theorem dm5{D:Prop}:ax8 none K f d w D=D:=rfl
theorem dn2{x y:Operand}{ts:Array TypeId}:B1 P S ⟨d,.call {callee:=.builtin .min,args:=#[x,y],argTypes:=ts},ty,pos,aft,none⟩ K f w =
  ax8 (cx3 (ev f x) (ev f y)) K f d w (Y9 P S ⟨d,.call {callee:=.builtin .min,args:=#[x,y],argTypes:=ts},ty,pos,aft,none⟩ K f w):=rfl
theorem dn1{x y:Operand}{ts:Array TypeId}:B1 P S ⟨d,.call {callee:=.builtin .max,args:=#[x,y],argTypes:=ts},ty,pos,aft,none⟩ K f w =
  ax8 (cx2 (ev f x) (ev f y)) K f d w (Y9 P S ⟨d,.call {callee:=.builtin .max,args:=#[x,y],argTypes:=ts},ty,pos,aft,none⟩ K f w):=rfl
end
section
variable {d:Option Nat} {ty:TypeId} {pos:String} {aft:Array Edge} {S:World→Prop}
theorem dj4{t:TypeId}{a:Operand}:B1 P none ⟨d,.load t a,ty,pos,aft,none⟩ K f w=ad7 ((Instr.loadAt t (ev f a)).run P w) K f d:=rfl
theorem cF0{t n:Nat}{ps:Array (Nat×Operand)}:B1 P none ⟨d,.buildSlice t n ps,ty,pos,aft,none⟩ K f w=ad7 ((Instr.buildSlice t n (ps.map fun p=>(p.1,ev f p.2))).run P w) K f d:=rfl
theorem da9{t:Nat}:B1 P none ⟨d,.alloc t,ty,pos,aft,none⟩ K f w=ad7 ((Instr.alloc t true (.tuple #[])).run P w) K f d:=rfl
theorem dm4{t:Nat}{x:Operand}:B1 P none ⟨d,.box t x,ty,pos,aft,none⟩ K f w=ad7 ((Instr.box t (ev f x)).run P w) K f d:=rfl
theorem cJ6{t:Nat}{x y:Operand}:B1 P none ⟨d,.makeSlice t x y,ty,pos,aft,none⟩ K f w=ad7 ((Instr.makeSlice t (ev f x) (ev f y)).run P w) K f d:=rfl
theorem bk6{t:Nat}{r:Option Operand}:B1 P none ⟨d,.makeMap t r,ty,pos,aft,none⟩ K f w=ad7 ((Instr.makeMap t (r.map (ev f))).run P w) K f d:=rfl
theorem cW5{t:Nat}{x i:Operand}{ok:Bool}:B1 P none ⟨d,.lookup t x i ok,ty,pos,aft,none⟩ K f w=ad7 ((Instr.lookup t (ev f x) (ev f i) ok).run P w) K f d:=rfl
theorem cS8{s t:Nat}{x:Operand}:Y9 P none ⟨d,.convert s t x,ty,pos,aft,none⟩ K f w=ad7 ((convert s t (ev f x)).run P w) K f d:=rfl
theorem dl9{op:BinOp}{t t2:TypeId}{x y:Operand}:Y9 P none ⟨d,.binOp op t x y t2,ty,pos,aft,none⟩ K f w=ad7 ((do eqGuard op t x y (ev f x) (ev f y);binOp op t (ev f x) (ev f y):Sem Value).run P w) K f d:=rfl
theorem cW4{x y:Operand}{ts:Array TypeId}:B1 P none ⟨d,.call {callee:=.builtin .append,args:=#[x,y],argTypes:=ts},ty,pos,aft,none⟩ K f w=ad7 ((Builtin.append_ ts ty #[ev f x,ev f y]).run P w) K f d:=by
 simp[B1,as3,Y9,bd5,bf7]
theorem dj3{x y:Operand}{ts:Array TypeId}:B1 P none ⟨d,.call {callee:=.builtin .copy,args:=#[x,y],argTypes:=ts},ty,pos,aft,none⟩ K f w=ad7 ((Builtin.copy_ ts ty #[ev f x,ev f y]).run P w) K f d:=by
 simp[B1,as3,Y9,bd5,bf7]
theorem db1{t:Nat}{a x:Operand}:B1 P none ⟨d,.store t a x,ty,pos,aft,none⟩ K f w=aW0 ((Instr.storeAt t (ev f a) (ev f x)).run P w) K f d:=rfl
theorem bB3{t:Nat}{m k x:Operand}:B1 P none ⟨d,.mapUpdate t m k x,ty,pos,aft,none⟩ K f w=aW0 ((Instr.mapUpdate t (ev f m) (ev f k) (ev f x)).run P w) K f d:=rfl
theorem dj2{k:Nat}{asz:Array Operand}{ts:Array TypeId}:B1 P none ⟨d,.call {callee:=.value (.func k),args:=asz,argTypes:=ts},ty,pos,aft,none⟩ K f w=at5 P k (asz.toList.map (ev f)) w K f d:=by
 simp[B1,as3,Y9,bd5,ev,aK2]
theorem dj1{t:TypeId}{a:Operand}:B1 P (some S) ⟨d,.load t a,ty,pos,aft,none⟩ K f w=I1 P S (Instr.loadAt t (ev f a)) K f d w:=rfl
theorem cW3{t:Nat}{x i:Operand}{ok:Bool}:B1 P (some S) ⟨d,.lookup t x i ok,ty,pos,aft,none⟩ K f w=I1 P S (Instr.lookup t (ev f x) (ev f i) ok) K f d w:=rfl
theorem cS7{s t:Nat}{x:Operand}:Y9 P (some S) ⟨d,.convert s t x,ty,pos,aft,none⟩ K f w=I1 P S (convert s t (ev f x)) K f d w:=rfl
theorem dl8{op:BinOp}{t t2:TypeId}{x y:Operand}:Y9 P (some S) ⟨d,.binOp op t x y t2,ty,pos,aft,none⟩ K f w=I1 P S (do eqGuard op t x y (ev f x) (ev f y);binOp op t (ev f x) (ev f y)) K f d w:=rfl
theorem cE8{t n:Nat}{ps:Array (Nat×Operand)}:B1 P (some S) ⟨d,.buildSlice t n ps,ty,pos,aft,none⟩ K f w=ad7 ((Instr.buildSlice t n (ps.map fun p=>(p.1,ev f p.2))).run P w) (F1 S K) f d:=rfl
theorem da6{t:Nat}:B1 P (some S) ⟨d,.alloc t,ty,pos,aft,none⟩ K f w=ad7 ((Instr.alloc t true (.tuple #[])).run P w) (F1 S K) f d:=rfl
theorem dm3{t:Nat}{x:Operand}:B1 P (some S) ⟨d,.box t x,ty,pos,aft,none⟩ K f w=ad7 ((Instr.box t (ev f x)).run P w) (F1 S K) f d:=rfl
theorem cJ4{t:Nat}{x y:Operand}:B1 P (some S) ⟨d,.makeSlice t x y,ty,pos,aft,none⟩ K f w=ad7 ((Instr.makeSlice t (ev f x) (ev f y)).run P w) (F1 S K) f d:=rfl
theorem cW2{x y:Operand}{ts:Array TypeId}:B1 P (some S) ⟨d,.call {callee:=.builtin .append,args:=#[x,y],argTypes:=ts},ty,pos,aft,none⟩ K f w=ad7 ((Builtin.append_ ts ty #[ev f x,ev f y]).run P w) (F1 S K) f d:=by
 simp[B1,as3,Y9,bd5,bf7,flt]
theorem dj0{x y:Operand}{ts:Array TypeId}:B1 P (some S) ⟨d,.call {callee:=.builtin .copy,args:=#[x,y],argTypes:=ts},ty,pos,aft,none⟩ K f w=ad7 ((Builtin.copy_ ts ty #[ev f x,ev f y]).run P w) (F1 S K) f d:=by
 simp[B1,as3,Y9,bd5,bf7,flt]
theorem da8{t:Nat}{a x:Operand}:B1 P (some S) ⟨d,.store t a x,ty,pos,aft,none⟩ K f w=aW0 ((Instr.storeAt t (ev f a) (ev f x)).run P w) (F1 S K) f d:=rfl
theorem di9{k:Nat}{asz:Array Operand}{ts:Array TypeId}:B1 P (some S) ⟨d,.call {callee:=.value (.func k),args:=asz,argTypes:=ts},ty,pos,aft,none⟩ K f w=at5 P k (asz.toList.map (ev f)) w (F1 S K) f d:=by
 simp[B1,as3,Y9,bd5,ev,aK2]
end
end
def dt4:=@List.append_assoc
def du8:=@List.drop_eq_getElem_cons
def dw2:=@List.getElem?_append_left
def dv7:=@List.getElem?_append_right
def dq7:=@List.getElem?_eq_getElem
def dr4:=@List.getElem?_eq_some_iff
def dr1:=@List.length_append
def ds3:=@List.length_take
def ds4:=@List.mem_append
def dv5:=@List.take_append_drop
def dA3:=@List.take_left
def dC1:=@Nat.add_mul
def dr7:=@Nat.le_trans
def dw9:=@Nat.lt_of_lt_of_le
def dy0:=@Nat.min_eq_left
def dA7:=@Nat.mul_one
abbrev Hp:=Nat→Option Obj
def i4(w:World):Hp:=fun b=>w.heap[b]?
def B5(h k:Hp):Prop:=∀b o,h b=some o→k b=some o
theorem d7(h:Hp):B5 h h:=fun _ _ e=>e
theorem p9{a b c:Hp}(h:B5 a b)(k:B5 b c):B5 a c:=fun x o e=>k x o (h x o e)
def I5(h:Hp)(a:Addr):Option Value:=match h a.block with
 | some (.cells c _ _)=>if a.spot.isSome then none else c[a.off]?
 | _=>none
theorem al4(w:World)(a:Addr):w.cell? a=I5 (i4 w) a:=rfl
theorem F6{h k:Hp}(hk:B5 h k){a:Addr}{v:Value}(e:I5 h a=some v):I5 k a=some v:=by
 unfold I5 at *;cases hb:h a.block with
 | none=>simp[hb]at e
 | some o=>rw[hk _ _ hb];rw[hb]at e;exact e
structure t8 (M:Nat→Prop) (w w':World):Prop where
 os:w'.os=w.os
 tape:w'.tape=w.tape
 output:w'.output=w.output
 size:w.heap.size≤w'.heap.size
 block:∀k,k<w.heap.size→¬M k→w'.heap[k]?=w.heap[k]?
abbrev o7(w w':World):Prop:=t8 (fun _=>False) w w'
theorem t8.refl{M:Nat→Prop}(w:World):t8 M w w:=⟨rfl,rfl,rfl,ds5 _,fun _ _ _=>rfl⟩
theorem t8.trans{M:Nat→Prop}{a b c:World}(h:t8 M a b)(k:t8 M b c):t8 M a c:=
 ⟨k.os.trans h.os,k.tape.trans h.tape,k.output.trans h.output,dr7 h.size k.size,fun i hi hm=>(k.block i (dw9 hi h.size) hm).trans (h.block i hi hm)⟩
theorem t8.weaken{M N:Nat→Prop}{w w':World}(h:t8 M w w')(hmn:∀k,k<w.heap.size→M k→N k):t8 N w w':=⟨h.os,h.tape,h.output,h.size,fun k hk hn=>h.block k hk fun hm=>hn (hmn k hk hm)⟩
theorem o7.drew(w:World):o7 w w.drew:=⟨rfl,rfl,rfl,ds5 _,fun _ _ _=>rfl⟩
theorem o7.alloc(w:World)(o:Obj):o7 w (w.alloc o):=⟨rfl,rfl,rfl,by simp,fun k hk _=>by
 show(w.heap.push o)[k]?=_;rw[Array.getElem?_push,if_neg (by omega)]⟩
theorem t8.ext_of{M:Nat→Prop}{w w1 w2:World}(h:o7 w w1)(k:t8 M w1 w2)(hM:∀b,M b→w.heap.size≤b):o7 w w2:=
 ⟨k.os.trans h.os,k.tape.trans h.tape,k.output.trans h.output,dr7 h.size k.size,fun i hi _=>(k.block i (dw9 hi h.size) (fun hm=>by have:=hM i hm;omega)).trans (h.block i hi id)⟩
theorem t8.setCell{M:Nat→Prop}(w:World)(a:Addr)(v:Value)(h:M a.block):t8 M w (w.setCell a v):=
 ⟨rfl,rfl,rfl,by simp[World.setCell],fun k _ hm=>by
  simp only[World.setCell,Array.getElem?_modify];rw[if_neg (fun e:a.block=k=>hm (e ▸ h))]⟩
theorem t8.setRow{M:Nat→Prop}(w:World)(g:Nat)(cs:Array Value)(h:M g):t8 M w (w.setRow g cs):=
 ⟨rfl,rfl,rfl,by simp,fun k _ hm=>setRow_other w g k cs (fun e=>hm (e ▸ h))⟩
theorem b7{w w':World}(h:o7 w w'):B5 (i4 w) (i4 w'):=fun b o e=>by
 have hb:b<w.heap.size:=(dr3.1 (show w.heap[b]?=some o from e)).1;exact(h.block b hb id).trans e
theorem H9{h:Hp}{M:Nat→Prop}{w w':World}(hw:B5 h (i4 w))(hm:t8 M w w')(hM:∀b,M b→h b=none):B5 h (i4 w'):=fun b o e=>by
 have e1:=hw b o e;have hb:b<w.heap.size:=(dr3.1 (show w.heap[b]?=some o from e1)).1;exact(hm.block b hb (fun hh=>by rw[hM b hh]at e;cases e)).trans e1
theorem ax2{h:Hp}{w:World}(hw:B5 h (i4 w)){b:Nat}(hb:w.heap.size≤b):h b=none:=by
 cases e:h b with
 | none=>rfl
 | some o=>
  have:=(dr3.1 (show w.heap[b]?=some o from hw b o e)).1;omega
class A3 (α:Type) where
 sz:Nat
 pos:0<sz
 enc:Hp→List Value→α→Prop
 len:∀{h cs x},enc h cs x→cs.length=sz
 mono:∀{h k cs x},B5 h k→enc h cs x→enc k cs x
 one:∀{h cs x},enc h cs x→∀v∈cs,v.oneCell'=true
class I8 (α:Type) where
 val:α→Value
 one:∀x,(val x).oneCell'=true
instance {α:Type} [I8 α]:A3 α where
 sz:=1
 pos:=by omega
 enc _ cs x:=cs=[I8.val x]
 len h:=by simp[h]
 mono _ h:=h
 one h:=by
  intro v hv;rw[h]at hv;simp at hv;subst hv;exact I8.one _
instance:I8 Int:=⟨fun n=>.int .i64 n,fun _=>rfl⟩
instance:I8 Bool:=⟨fun b=>.bool b,fun _=>rfl⟩
instance:I8 ByteArray:=⟨fun s=>.string s,fun _=>rfl⟩
instance:I8 Nat:=⟨fun n=>.int .u64 n,fun _=>rfl⟩
instance {α β:Type} [A3 α] [A3 β]:A3 (α×β) where
 sz:=A3.sz α+A3.sz β
 pos:=by have:=A3.pos (α:=α);omega
 enc h cs x:=∃c1 c2,cs=c1++c2∧A3.enc h c1 x.1∧A3.enc h c2 x.2
 len:=by rintro h cs x ⟨c1,c2,rfl,h1,h2⟩;simp[A3.len h1,A3.len h2]
 mono:=by rintro h k cs x hk ⟨c1,c2,rfl,h1,h2⟩;exact⟨c1,c2,rfl,A3.mono hk h1,A3.mono hk h2⟩
 one:=by
  rintro h cs x ⟨c1,c2,rfl,h1,h2⟩ v hv;rcases ds4.1 hv with hv|hv
  ·exact A3.one h1 v hv
  ·exact A3.one h2 v hv
section
variable {α:Type} [A3 α]
def N1(h:Hp):List Value→List α→Prop
 | cs,[]=>cs=[]
 | cs,x::xs=>∃c1 c2,cs=c1++c2∧A3.enc h c1 x∧N1 h c2 xs
theorem J9{h:Hp}:∀{xs:List α} {cs:List Value},N1 h cs xs→cs.length=xs.length*A3.sz α
 | [],cs,e=>by simp[N1]at e;simp[e]
 | x::xs,cs,e=>by
  obtain⟨c1,c2,rfl,h1,h2⟩:=e;simp only[dr1,dt2,A3.len h1,J9 h2,dC1];omega
theorem aG8{h k:Hp}(hk:B5 h k):∀{xs:List α} {cs:List Value},N1 h cs xs→N1 k cs xs
 | [],_,e=>e
 | _::_,_,⟨c1,c2,e,h1,h2⟩=>⟨c1,c2,e,A3.mono hk h1,aG8 hk h2⟩
theorem bF6{h:Hp}:∀{xs:List α} {cs:List Value},N1 h cs xs→∀v∈cs,v.oneCell'=true
 | [],cs,e,v,hv=>by simp[N1]at e;subst e;cases hv
 | x::xs,cs,⟨c1,c2,e,h1,h2⟩,v,hv=>by
  subst e;rcases ds4.1 hv with hv|hv
  ·exact A3.one h1 v hv
  ·exact bF6 h2 v hv
theorem ai5{h:Hp}:∀{xs:List α} {cs ds:List Value} {ys:List α},N1 h cs xs→N1 h ds ys→N1 h (cs++ds) (xs++ys)
 | [],cs,ds,ys,e1,e2=>by simp[N1]at e1;subst e1;exact e2
 | x::xs,cs,ds,ys,⟨c1,c2,e,h1,h2⟩,e2=>⟨c1,c2++ds,by rw[e,dt4],h1,ai5 h2 e2⟩
theorem aZ4{h:Hp}{es:List Value}{x:α}(he:A3.enc h es x):N1 h es [x]:=⟨es,[],by simp,he,rfl⟩
theorem aa4{h:Hp}:∀(xs ys:List α) {cs:List Value},N1 h cs (xs++ys)→∃c1 c2,cs=c1++c2∧N1 h c1 xs∧N1 h c2 ys
 | [],ys,cs,e=>⟨[],cs,rfl,rfl,e⟩
 | x::xs,ys,cs,⟨c1,c2,e,h1,h2⟩=>by
  obtain⟨d1,d2,e2,h3,h4⟩:=aa4 xs ys h2;exact⟨c1++d1,d2,by rw[e,e2,dt4],⟨c1,d1,rfl,h1,h3⟩,h4⟩
theorem bF5{h:Hp}{xs:List α}{cs:List Value}(e:N1 h cs xs){k:Nat}{x:α}(hk:xs[k]?=some x):
  ∃es,A3.enc h es x∧∀j,j<A3.sz α→cs[k*A3.sz α+j]?=es[j]?:=by
 have hlt:k<xs.length:=(dr4.1 hk).1;have hx:xs=xs.take k++x::xs.drop (k+1):=by
  have h2:xs[k]=x:=(dr4.1 hk).2;have:=dv5 k xs;rw[du8 hlt,h2]at this;exact this.symm
 rw[hx]at e;obtain⟨c1,c2,rfl,h1,⟨es,c3,rfl,h2,h3⟩⟩:=aa4 _ _ e;refine⟨es,h2,fun j hj=>?_⟩;have hl:c1.length=k*A3.sz α:=by rw[J9 h1,ds3,dy0 (Nat.le_of_lt hlt)]
 rw[dv7 (by omega),hl,Nat.add_sub_cancel_left,dw2 (by rw[A3.len h2];exact hj)]
theorem ct9{h:Hp}{xs:List α}{cs:List Value}(e:N1 h cs xs){k:Nat}(hk:k<xs.length){y:α}{ds:List Value}(hd:A3.enc h ds y):
  N1 h (cs.take (k*A3.sz α)++ds++cs.drop (k*A3.sz α+A3.sz α)) (xs.set k y):=by
 have hx:xs=xs.take k++xs[k]::xs.drop (k+1):=by
  have:=dv5 k xs;rw[du8 hk]at this;exact this.symm
 rw[hx]at e;obtain⟨c1,c2,rfl,h1,⟨es,c3,rfl,h2,h3⟩⟩:=aa4 _ _ e;have hl:c1.length=k*A3.sz α:=by rw[J9 h1,ds3,dy0 (Nat.le_of_lt hk)]
 have hl2:es.length=A3.sz α:=A3.len h2;have e1:(c1++(es++c3)).take (k*A3.sz α)=c1:=by rw[←hl];exact dA3
 have e2:(c1++(es++c3)).drop (k*A3.sz α+A3.sz α)=c3:=by
  rw[←hl,←hl2,←dt4,←dr1];exact List.drop_left
 rw[e1,e2];have hset:xs.set k y=xs.take k++y::xs.drop (k+1):=List.set_eq_take_append_cons_drop.trans (by rw[if_pos hk]);rw[hset,dt4];exact ai5 h1 ⟨ds,c3,rfl,hd,h3⟩
instance:A3 (List α) where
 sz:=1
 pos:=by omega
 enc h cs xs:=∃a n c,cs=[.slice a n c]∧n=xs.length∧n≤c∧∃es,N1 h es xs∧∀j v,es[j]?=some v→∃ad,a=some ad∧I5 h (ad.add j)=some v
 len:=by rintro h cs x ⟨a,n,c,rfl,_⟩;rfl
 mono:=by
  rintro h k cs x hk ⟨a,n,c,e,h1,h2,es,h3,h4⟩;refine⟨a,n,c,e,h1,h2,es,aG8 hk h3,fun j v hv=>?_⟩;obtain⟨ad,e1,e2⟩:=h4 j v hv;exact⟨ad,e1,F6 hk e2⟩
 one:=by
  rintro h cs x ⟨a,n,c,rfl,_⟩ v hv;simp at hv;subst hv;rfl
end
abbrev R{α:Type}[A3 α](h:Hp)(v:Value)(x:α):Prop:=A3.enc h [v] x
theorem Addr.add_add'(a:Addr)(x y:Nat):(a.add x).add y=a.add (x+y):=by
 unfold Addr.add;by_cases hx:x=0
 ·subst hx;simp
 ·by_cases hy:y=0
  ·subst hy;simp[hx]
  ·simp[hx,hy,dA5]
section
variable {α:Type} [A3 α] {h:Hp} {v:Value} {xs:List α}
theorem R.isS(hr:R h v xs):isS v=true:=by
 obtain⟨a,n,c,e,_⟩:=hr;simp at e;subst e;rfl
theorem R.vlen(hr:R h v xs):vlen v=xs.length:=by
 obtain⟨a,n,c,e,h1,_⟩:=hr;simp at e;subst e;exact h1
theorem R.vcap(hr:R h v xs):xs.length≤vcap v:=by
 obtain⟨a,n,c,e,h1,h2,_⟩:=hr;simp at e;subst e;rw[←h1];exact h2
theorem R.get(hr:R h v xs){k:Nat}{x:α}(hk:xs[k]?=some x):
  inS v k=true∧∃es,A3.enc h es x∧∀j u,es[j]?=some u→I5 h ((H2 v (k*A3.sz α)).add j)=some u:=by
 obtain⟨a,n,c,e,h1,h2,es,h3,h4⟩:=hr;simp at e;subst e;obtain⟨ds,hd1,hd2⟩:=bF5 h3 hk;have hlt:k<xs.length:=(dr4.1 hk).1;have hl:=A3.len hd1;have hpos:=A3.pos (α:=α);have h0:∃u,ds[0]?=some u:=by
  rw[dq7 (by omega)];exact⟨_,rfl⟩
 obtain⟨u0,hu0⟩:=h0;obtain⟨ad,rfl,_⟩:=h4 (k*A3.sz α+0) u0 (by rw[hd2 0 hpos];exact hu0);refine⟨by simp[inS];omega,ds,hd1,fun j u hj=>?_⟩;have hjl:j<ds.length:=(dr4.1 hj).1;obtain⟨ad',e',hc⟩:=h4 (k*A3.sz α+j) u (by rw[hd2 j (by omega)];exact hj);obtain rfl:=ds8 e';simp only[H2];rw[Addr.add_add'];exact hc
theorem R.inS(hr:R h v xs){k:Nat}(hk:k<xs.length):inS v k=true:=(hr.get (dq7 hk)).1
end
theorem K0(a:Addr):a.add 0=a:=by simp[Addr.add]
section
variable {P:Program} {t:TypeId} {w:World} {h:Hp}
theorem R8{a:Addr}{u:Value}(ht:H6 P t=false)(hc:w.cell? a=some u):(Instr.loadAt t (.pointer (some a))).run P w = .ok u w:=by
 unfold Instr.loadAt loadVar;simp only[Instr.sureAddr,dt3,du6,ds6,X2 t (aT0 ht),ht,dx4,dy5,run_load,hc]
theorem bj8{a:Addr}{cs:List Value}(ht:H6 P t=true)(hu:(P.underlying t).isSome=true)(hi:(P.info? t).isSome=true)(hs:K1 P t=cs.length)
  (hc:∀j u,cs[j]?=some u→w.cell? (a.add j)=some u):(Instr.loadAt t (.pointer (some a))).run P w = .ok (.agg cs.toArray) w:=by
 unfold Instr.loadAt loadVar;simp only[Instr.sureAddr,dt3,du6,ds6,X2 t hu,ht,dx1,N6 hi,hs,run_loadCells_list w a cs hc]
theorem M8{α:Type}[I8 α]{v:Value}{xs:List α}(hr:R h v xs)(hw:B5 h (i4 w)){k:Nat}{x:α}(hk:xs[k]?=some x)(ht:H6 P t=false):
  (Instr.loadAt t (.pointer (some (H2 v k)))).run P w = .ok (I8.val x) w:=by
 obtain⟨_,es,he,hc⟩:=hr.get hk;have he':es=[I8.val x]:=he;have:=hc 0 (I8.val x) (by rw[he'];rfl);rw[K0]at this;have h1:(k*A3.sz α)=k:=dA7 k;rw[h1]at this;exact R8 ht (F6 hw this)
end
def dz9:=@Array.getElem?_eq_getElem
def dE0:=@Array.length_toList
def du2:=@List.append_nil
def dA9:=@List.getElem?_take
def dy7:=@List.length_drop
def dx8:=@List.length_nil
def dy4:=@List.length_set
def dB0:=@List.nil_append
def dA6:=@List.size_toArray
def dv8:=@List.take_of_length_le
def dr6:=@List.take_succ_eq_append_getElem
def dC6:=@List.take_zero
def dz4:=@Nat.mul_le_mul_right
def dC7:=@World.cell?_alloc_new
def dy8:=@cell_of_row
def dv4:=@heap_alloc_new
def B0{α:Type}[A3 α](h:Hp)(w:World)(T:TypeId)(v:Value)(xs:List α):Prop:=
 (v = .slice none 0 0∧xs=[]) ∨
 ∃b c cur,v = .slice (some ⟨b,0,none⟩) xs.length c∧h b=none∧w.heap[b]?=some (.cells cur T (0,0))∧xs.length≤c∧c≤maxLen∧cur.size=c*A3.sz α ∧
  N1 h (cur.toList.take (xs.length*A3.sz α)) xs
def A4(v:Value)(b:Nat):Prop:=v.ownBlock=some b
theorem C6{b:Nat}{n c:Nat}:¬A4 (.slice none n c) b:=by simp[A4,Value.ownBlock]
def D7(w:World)(v v':Value):Prop:=∀b,A4 v' b→A4 v b∨w.heap.size≤b
section
variable {α:Type} [A3 α] {h:Hp} {w:World} {T:TypeId} {v:Value} {xs:List α}
theorem B0.nil(h:Hp)(w:World)(T:TypeId):B0 h w T (.slice none 0 0) ([]:List α):=.inl ⟨rfl,rfl⟩
theorem B0.free(ho:B0 h w T v xs){b:Nat}(hb:A4 v b):h b=none:=by
 rcases ho with⟨rfl,_⟩|⟨b',c,cur,rfl,h1,_⟩
 ·exact absurd hb C6
 ·simp[A4,Value.ownBlock]at hb;subst hb;exact h1
theorem B0.lt(ho:B0 h w T v xs){b:Nat}(hb:A4 v b):b<w.heap.size:=by
 rcases ho with⟨rfl,_⟩|⟨b',c,cur,rfl,h1,h2,_⟩
 ·exact absurd hb C6
 ·simp[A4,Value.ownBlock]at hb;subst hb;exact(dr3.1 h2).1
theorem B0.isS(ho:B0 h w T v xs):isS v=true:=by
 rcases ho with⟨rfl,_⟩|⟨b',c,cur,rfl,_⟩<;>rfl
theorem B0.vlen(ho:B0 h w T v xs):vlen v=xs.length:=by
 rcases ho with⟨rfl,rfl⟩|⟨b',c,cur,rfl,_⟩<;>rfl
theorem B0.vcap(ho:B0 h w T v xs):xs.length≤vcap v:=by
 rcases ho with⟨rfl,rfl⟩|⟨b',c,cur,rfl,_,_,h3,_⟩
 ·simp
 ·exact h3
theorem B0.inS(ho:B0 h w T v xs){k:Nat}(hk:k<xs.length):inS v k=true:=by
 rcases ho with⟨rfl,rfl⟩|⟨b',c,cur,rfl,_⟩
 ·simp at hk
 ·simp[Go.Proofs.YtcbnbgpphippoaaGreat.inS,hk]
theorem B0.mod{M:Nat→Prop}{w':World}(ho:B0 h w T v xs)(hm:t8 M w w')(hM:∀b,A4 v b→¬M b):B0 h w' T v xs:=by
 rcases ho with hn|⟨b,c,cur,rfl,h1,h2,rest⟩
 ·exact .inl hn
 ·exact .inr ⟨b,c,cur,rfl,h1,(hm.block b (dr3.1 h2).1 (hM b rfl)).trans h2,rest⟩
theorem B0.ext{w':World}(ho:B0 h w T v xs)(hm:o7 w w'):B0 h w' T v xs:=ho.mod hm fun _ _=>id
theorem B0.up{k:Hp}(ho:B0 h w T v xs)(hk:B5 h k)(hb:∀b,A4 v b→k b=none):B0 k w T v xs:=by
 rcases ho with hn|⟨b,c,cur,rfl,h1,h2,h3,h4,h5,h6⟩
 ·exact .inl hn
 ·exact .inr ⟨b,c,cur,rfl,hb b rfl,h2,h3,h4,h5,aG8 hk h6⟩
theorem B0.ro(ho:B0 h w T v xs){k:Hp}(hk:B5 h k)(hb:∀b,A4 v b→k b=w.heap[b]?):R k v xs:=by
 rcases ho with⟨rfl,rfl⟩|⟨b,c,cur,rfl,h1,h2,h3,h4,h5,h6⟩
 ·exact⟨_,_,_,rfl,rfl,ds5 _,[],rfl,fun j v hv=>by simp at hv⟩
 ·refine⟨_,_,_,rfl,rfl,h3,_,aG8 hk h6,fun j u hj=>⟨_,rfl,?_⟩⟩;have hlt:j<cur.size:=by
   have:=(dr4.1 hj).1;simp at this;omega
  have hc:cur[j]?=some u:=by
   rw[dA9]at hj;split at hj
   ·simpa using hj
   ·cases hj
  have ha:(⟨b,0,.none⟩:Addr).add j=⟨b,j,.none⟩:=by unfold Addr.add;split<;>simp_all
  rw[ha];simp only[I5,hb b rfl,h2,Option.isSome_none,dx4,dy5,hc]
theorem B0.rw_(ho:B0 h w T v xs)(hw:B5 h (i4 w)):R (i4 w) v xs:=ho.ro hw fun _ _=>rfl
theorem B0.get(ho:B0 h w T v xs){k:Nat}{x:α}(hk:xs[k]?=some x):
  ∃es,A3.enc h es x∧∀j u,es[j]?=some u→w.cell? ((H2 v (k*A3.sz α)).add j)=some u:=by
 rcases ho with⟨rfl,rfl⟩|⟨b,c,cur,rfl,h1,h2,h3,h4,h5,h6⟩
 ·simp at hk
 ·obtain⟨es,he,hc⟩:=bF5 h6 hk;refine⟨es,he,fun j u hj=>?_⟩;have hjl:j<A3.sz α:=by have:=(dr4.1 hj).1;rw[A3.len he]at this;exact this
  have:=hc j hjl;rw[hj,dA9]at this;split at this
  ·simp only[H2];rw[Addr.add_add'];have ha:(⟨b,0,.none⟩:Addr).add (k*A3.sz α+j)=⟨b,k*A3.sz α+j,.none⟩:=by unfold Addr.add;split<;>simp_all
   rw[ha,dy8 w b _ cur T (0,0) h2];simpa using this
  ·cases this
end
section
variable {α:Type} [A3 α] {h:Hp} {P:Program} {w:World} {t T:TypeId} {v:Value}
theorem D4{α:Type}[I8 α]{xs:List α}(ho:B0 h w T v xs){k:Nat}{x:α}(hk:xs[k]?=some x)(ht:H6 P t=false):
  (Instr.loadAt t (.pointer (some (H2 v k)))).run P w = .ok (I8.val x) w:=by
 obtain⟨es,he,hc⟩:=ho.get hk;have he':es=[I8.val x]:=he;have:=hc 0 (I8.val x) (by rw[he'];rfl);rw[K0]at this;have h1:(k*A3.sz α)=k:=dA7 k;rw[h1]at this;exact R8 ht this
theorem bb3{xs:List (List α)}(ho:B0 h w T v xs){k:Nat}{x:List α}(hk:xs[k]?=some x)(ht:H6 P t=false):
  ∃u,R h u x∧(Instr.loadAt t (.pointer (some (H2 v k)))).run P w = .ok u w:=by
 obtain⟨es,he,hc⟩:=ho.get hk;have hl:es.length=1:=A3.len he
 match es,hl with
 | [u],_=>
  have:=hc 0 u rfl;rw[K0]at this;have h1:(k*A3.sz (List α))=k:=dA7 k;rw[h1]at this;exact⟨u,he,R8 ht this⟩
theorem aK5{a:Addr}{u x:Value}{i:TypeInfo}(hi:P.info? t=some i)(hs:i.size=1)(hx:x.cells=#[x])(h1:x.oneCell'=true)(hc:w.cell? a=some u)(hf:w.frozen? a=false):
  (Instr.storeAt t (.pointer (some a)) x).run P w = .ok () (w.setCell a x):=by
 have hst:(store (a.add 0) x).run P w = .ok () (w.setCell a x):=by
  rw[K0];cases x<;>simp[Value.oneCell']at h1<;>simp[store,Sem.run,hc,hf]
 unfold Instr.storeAt storeVar;simp only[Instr.sureAddr,dt3,du6,ds6,sizeOf,N3,hi,hs,hx,Sem.run_ite];simp only[dA6,dt2,dx8,storeCells,dt3,hst,ds6,du6];rfl
theorem D9{xs:List α}(ho:B0 h w T v xs)(hz:A3.sz α=1){k:Nat}(hk:k<xs.length){x:Value}{y:α}(hy:A3.enc h [x] y)(hx:x.cells=#[x])
  {i:TypeInfo} (hi:P.info? t=some i) (hs:i.size=1) :
  ∃w',(Instr.storeAt t (.pointer (some (H2 v k))) x).run P w = .ok () w'∧B0 h w' T v (xs.set k y)∧t8 (A4 v) w w'∧w'.heap.size=w.heap.size:=by
 obtain⟨es,he,hc⟩:=ho.get (dq7 hk);have hone:x.oneCell'=true:=A3.one hy x (by simp);rcases ho with⟨rfl,rfl⟩|⟨b,c,cur,rfl,h1,h2,h3,h4,h5,h6⟩
 ·simp at hk
 ·have ha:(⟨b,0,.none⟩:Addr).add k=⟨b,k,.none⟩:=by unfold Addr.add;split<;>simp_all
  have hksz:k<cur.size:=by rw[h5,hz];omega
  have hcell:w.cell? ⟨b,k,.none⟩=some cur[k]:=by rw[dy8 w b k cur T (0,0) h2,dz9 hksz]
  have hfr:w.frozen? ⟨b,k,.none⟩=false:=frozen_of_row w b k cur T h2;have hrun:=aK5 (P:=P) (t:=t) hi hs hx hone hcell hfr;simp only[H2,ha];refine⟨_,hrun,?_,t8.setCell _ _ _ (by simp[A4,Value.ownBlock]),by simp⟩;right;refine⟨b,c,cur.setIfInBounds k x,by simp,h1,heap_setCell_same w b k cur T x h2,by simpa using h3,h4,by simpa using h5,?_⟩;have hs':=ct9 h6 hk hy;have hl:(cur.toList.take xs.length).length=xs.length:=by
   rw[hz]at h5;have h7:cur.toList.length=cur.size:=by simp
   rw[ds3,h7];omega
  have e1:(cur.setIfInBounds k x).toList.take ((xs.set k y).length*A3.sz α) =
    (cur.toList.take (xs.length*A3.sz α)).take (k*A3.sz α)++[x]++(cur.toList.take (xs.length*A3.sz α)).drop (k*A3.sz α+A3.sz α):=by
   rw[hz];simp only[Array.toList_setIfInBounds,dy4,dA7];rw[List.take_set];rw[List.set_eq_take_append_cons_drop,if_pos (by rw[hl];exact hk)];simp
  rw[e1];exact hs'
theorem aM4{e:TypeId}{i:TypeInfo}{z:Value}(ht:P.underlying t=some (.slice T))(hi:P.info? T=some i)(hz:i.zero=some z)(hsize:i.size=A3.sz α)(hzs:z.cells.size=i.size)
  {xs ys:List α} (ho:B0 h w T v xs) {ad:Addr} {m c:Nat} {news:List Value} (hm:m=ys.length) (hn:N1 h news ys) (hnews:∀j u,news[j]?=some u→w.cell? (ad.add j)=some u)
  (hy:ys≠[]) (h63:xs.length+ys.length≤maxLen) (hbytes:(xs.length+ys.length)*i.bytes≤140737488355328) (hw:B5 h (i4 w)) :
  ∃v' w',(Builtin.append_ #[t,t] e #[v,.slice (some ad) m c]).run P w = .ok v' w'∧B0 h w' T v' (xs++ys)∧t8 (A4 v) w w'∧D7 w v v':=by
 have hl:=J9 hn;have hone:=bF6 hn;have hy0:0<ys.length:=List.length_pos_iff.2 hy;have fresh:∀(old:Nat) (cells:List Value),N1 h cells (xs++ys)→old<xs.length+ys.length →
   B0 h (w.drew.alloc (.cells (cells.toArray++Builtin.zeroCells z.cells (grownCap w (xs.length+ys.length) old T-(xs.length+ys.length))) T)) T
    (.slice (some ⟨w.heap.size,0,.none⟩) (xs.length+ys.length) (grownCap w (xs.length+ys.length) old T)) (xs++ys):=by
  intro old cells hc ho';have hge:=grownCap_ge w (xs.length+ys.length) old T;have hcm:=grownCap_le_maxLen w (xs.length+ys.length) old T h63;have hcl:=J9 hc;right;refine⟨w.heap.size,_,_,by rw[dr1],ax2 hw (ds5 _),dv4 w.drew _,by rw[dr1];exact hge,hcm,?_,?_⟩
  ·simp only[Array.size_append,dA6,size_zeroCells,hzs,hsize,hcl,dr1,←dC1]
   congr 1
   omega
  ·simp only[Array.toList_append];rw[←hcl,dA3];exact hc
 have exta:∀(o:Obj),t8 (A4 v) w (w.drew.alloc o):=fun o=>
  t8.trans ((o7.drew w).weaken (fun _ _ h=>h.elim)) ((o7.alloc w.drew o).weaken (fun _ _ h=>h.elim))
 have hmv:∀n c,D7 w v (.slice (some ⟨w.heap.size,0,.none⟩) n c):=fun n c b hb=>by
  simp[A4,Value.ownBlock]at hb;subst hb;exact .inr (ds5 _)
 subst hm;rcases ho with⟨rfl,rfl⟩|⟨b,cc,cur,rfl,h1,h2,h3,h4,h5,h6⟩
 ·have hr:=run_append_nil (P:=P) w t e T i z ht hi hz ad ys.length c news (by rw[hl,hsize]) hnews hy0 (by simp only[maxLen,dx8,du4]at h63;omega) (by simp only[dx8,du4]at hbytes;omega);have hf:=fresh 0 news (by simpa using hn) (by simp;exact hy0);simp only[dx8,du4,dB0]at hf ⊢;exact⟨_,_,hr,hf,exta _,hmv _ _⟩
 ·by_cases hroom:xs.length+ys.length≤cc
  ·have hfit:xs.length*i.size+news.length≤cur.size:=by rw[hl,hsize,h5,←dC1];exact dz4 _ hroom
   have hr:=run_append_room (P:=P) w t e T i ht hi b xs.length cc cur h2 ad ys.length c news (by rw[hl,hsize]) hnews hone hroom hfit;refine⟨_,_,hr,?_,t8.setRow _ _ _ (by simp[A4,Value.ownBlock]),fun b' hb'=>.inl hb'⟩;right;refine⟨b,cc,_,by rw[dr1],h1,setRow_heap w b cur _ T _ h2,by rw[dr1];exact hroom,h4,?_,?_⟩
   ·simp only[dA6,dr1,ds3,dy7,dE0];rw[hsize]at hfit ⊢;have:xs.length*A3.sz α≤cur.size:=by omega
    omega
   ·rw[hsize];have hlen:(cur.toList.take (xs.length*A3.sz α)++news).length=(xs++ys).length*A3.sz α:=by
     rw[dr1,hl,J9 h6,dr1,dC1]
    rw[←hlen,dA3];exact ai5 h6 hn
  ·have hcs:(cur.toList.take (xs.length*A3.sz α)).length=xs.length*i.size:=by rw[J9 h6,hsize]
   have holds:∀j u,(cur.toList.take (xs.length*A3.sz α))[j]?=some u→w.cell? ((⟨b,0,.none⟩:Addr).add j)=some u:=by
    intro j u hj;have ha:(⟨b,0,.none⟩:Addr).add j=⟨b,j,.none⟩:=by unfold Addr.add;split<;>simp_all
    rw[ha,dy8 w b j cur T (0,0) h2];rw[dA9]at hj;split at hj
    ·simpa using hj
    ·cases hj
   have hr:=run_append_grow (P:=P) w t e T i z ht hi hz ⟨b,0,.none⟩ xs.length cc (cur.toList.take (xs.length*A3.sz α)) hcs holds ad ys.length c news (by rw[hl,hsize]) hnews (by omega)
    (by simp only[maxLen]at h63;omega) (growslice_fits (by omega) hbytes)
   have hf:=fresh cc (cur.toList.take (xs.length*A3.sz α)++news) (ai5 h6 hn) (by omega);have e1:((cur.toList.take (xs.length*A3.sz α)++news).toArray:Array Value)=(cur.toList.take (xs.length*A3.sz α)).toArray++news.toArray:=by simp
   rw[e1]at hf;exact⟨_,_,hr,hf,exta _,hmv _ _⟩
theorem bt5(off:Nat):∀(l:List Value) (k:Nat) (cs:Array Value),off+k+l.length≤cs.size →
  ((l.zipIdx k).foldl (fun cs (p:Value×Nat)=>cs.setIfInBounds (off+p.2) p.1) cs).toList=cs.toList.take (off+k)++l++cs.toList.drop (off+k+l.length)
 | [],k,cs,_=>by simp
 | v::l,k,cs,hl=>by
  simp only[dt2]at hl;rw[List.zipIdx_cons,List.foldl_cons,bt5 off l (k+1) _ (by simp;omega)];have hlen:cs.toList.length=cs.size:=by simp
  simp only[Array.toList_setIfInBounds,dt2];rw[show off+(k+1)=off+k+1 by omega,List.take_set,dr6 (by omega),List.set_append_right (h:=by simp;omega)];have e1:off+k-(cs.toList.take (off+k)).length=0:=by simp;omega
  rw[e1,List.drop_set_of_lt (by omega)];simp[dt4,dA5,Nat.add_comm 1]
theorem cu3{place:Nat→Option (Nat×Nat)}{off sz i:Nat}{x:Value}{cs:Array Value}{rest:List (Nat×Value)}(hp:place i=some (off,sz))(hx:x.cells.size=sz)(hs:off+sz≤cs.size):
  Instr.fill place cs ((i,x)::rest)=Instr.fill place (cs.toList.take off++x.cells.toList++cs.toList.drop (off+sz)).toArray rest:=by
 conv=>lhs;unfold Instr.fill
 simp only[hp];rw[if_neg (by simp[hx];omega)]
 congr 1
 apply Array.ext';have:=bt5 off x.cells.toList 0 cs (by simp;omega);simp only[Nat.add_zero,dE0,hx]at this;rw[←this,←Array.foldl_toList];simp[Array.toList_zipIdx]
theorem bF7(sz:Nat):∀(xs:List Value) (k:Nat) (cs:Array Value),(∀x∈xs,x.cells.size=sz)→cs.size=(k+xs.length)*sz →
  Instr.fill (fun i=>some (i*sz,sz)) cs ((xs.zipIdx k).map fun p=>(p.2,p.1))=some (cs.toList.take (k*sz)++xs.flatMap (·.cells.toList)).toArray
 | [],k,cs,_,hc=>by
  simp only[dx8,Nat.add_zero]at hc;simp only[List.zipIdx_nil,List.map_nil,Instr.fill,List.flatMap_nil,du2]
  congr 1
  apply Array.ext';rw[←hc,dv8 (by simp)]
 | x::xs,k,cs,hx,hc=>by
  simp only[dt2]at hc;have hc':cs.size=k*sz+sz+xs.length*sz:=by rw[hc,dC1,dC1];omega
  have hxs:=hx x (by simp);have hlen:cs.toList.length=cs.size:=by simp
  rw[List.zipIdx_cons,dv6];show Instr.fill _ cs ((k,x)::_)=_;rw[cu3 rfl hxs (by omega)];have hl:(List.take (k*sz) cs.toList++x.cells.toList++List.drop (k*sz+sz) cs.toList).toArray.size=(k+1+xs.length)*sz:=by
   simp[hxs];rw[dC1,dC1];omega
  rw[bF7 sz xs (k+1) _ (fun y hy=>hx y (by simp[hy])) hl]
  congr 2
  have e:(k+1)*sz=(List.take (k*sz) cs.toList++x.cells.toList).length:=by
   simp[hxs,dC1];omega
  rw[e,dA3];simp
theorem aq5{e:TypeId}{z:Value}(ht:K7 P t=some e)(hi:(P.info? e).isSome=true)(hz:G0 P e=some z)(xs:List Value)(hx:∀x∈xs,x.cells.size=K1 P e)(hn:xs≠[])
  (hpos:0<K1 P e) (hsm:xs.length*K1 P e≤16777216) {parts:Array (Nat×Value)} (hp:parts.toList=(xs.zipIdx 0).map fun p=>(p.2,p.1)) {n:Nat} (hnl:n=xs.length) :
  (Instr.buildSlice t n parts).run P w = .ok (.slice (some ⟨w.heap.size,0,none⟩) n n) (w.alloc (.cells (xs.flatMap (·.cells.toList)).toArray e)):=by
 subst hnl;obtain⟨i,hi'⟩:=dw6.1 hi;have hz':i.zero=some z:=by simpa[G0,hi']using hz
 have h0:¬(xs.length*K1 P e=0):=by
  have:0<xs.length:=List.length_pos_iff.2 hn;exact Nat.ne_of_gt (Nat.mul_pos this hpos)
 unfold Instr.buildSlice zeroValue;simp only[dt3,F2,L7 ht,ds6,N6 hi,Sem.run_ite,N3,hi',hz',du6];rw[if_neg (by omega)];simp only[h0,dy5];rw[hp,bF7 (K1 P e) xs 0 _ hx (by simp)];simp only[Nat.zero_mul,dC6,dB0];rfl
theorem C5{i:TypeInfo}(hi:P.info? t=some i):K1 P t=i.size:=by simp[K1,hi]
theorem au2{i:TypeInfo}(hi:P.info? t=some i):cs6 P t=i.bytes:=by simp[cs6,hi]
theorem A0{z:Value}(hz:G0 P t=some z):∃i,P.info? t=some i∧i.zero=some z:=by
 unfold G0 at hz;cases hi:P.info? t with
 | none=>simp[hi]at hz
 | some i=>exact⟨i,rfl,by simpa[hi]using hz⟩
theorem cy7{e:TypeId}{z:Value}(ht:K7 P t=some T)(hz:G0 P T=some z)(hsize:K1 P T=A3.sz α)(hzs:z.cells.size=A3.sz α)
  {xs:List α} (ho:B0 h w T v xs) {x:Value} {y:α} (hy:A3.enc h x.cells.toList y) (h63:xs.length+1≤1000000000000) (hbytes:(xs.length+1)*cs6 P T≤140737488355328) (hw:B5 h (i4 w)) :
  ∃v' w',(Builtin.append_ #[t,t] e #[v,.slice (some ⟨w.heap.size,0,none⟩) 1 1]).run P (w.alloc (.cells x.cells T)) = .ok v' w'∧B0 h w' T v' (xs++[y])∧t8 (A4 v) w w'∧D7 w v v':=by
 obtain⟨i,hi,hiz⟩:=A0 hz;rw[C5 hi]at hsize;rw[au2 hi]at hbytes;have hw1:B5 h (i4 (w.alloc (.cells x.cells T))):=p9 hw (b7 (o7.alloc w _));have hnews:∀j u,x.cells.toList[j]?=some u→(w.alloc (.cells x.cells T)).cell? ((⟨w.heap.size,0,none⟩:Addr).add j)=some u:=by
  intro j u hj;have ha:(⟨w.heap.size,0,none⟩:Addr).add j=⟨w.heap.size,j,none⟩:=by unfold Addr.add;split<;>simp_all
  rw[ha,dC7];simpa using hj
 obtain⟨v',w',h1,h2,h3,h4⟩:=aM4 (P:=P) (e:=e) (L7 ht) hi hiz hsize (by rw[hzs,hsize]) (ho.ext (o7.alloc w (.cells x.cells T))) (c:=1) (m:=1) (ad:=⟨w.heap.size,0,none⟩) rfl (aZ4 hy) hnews (by simp)
  (by simp[maxLen];omega) (by simpa using hbytes) hw1
 refine⟨v',w',h1,h2,?_,fun b hb=>?_⟩
 ·exact t8.trans ((o7.alloc w (.cells x.cells T)).weaken (fun _ _ h=>h.elim)) h3
 ·rcases h4 b hb with h|h
  ·exact .inl h
  ·simp at h;exact .inr (by omega)
theorem aj8{e:TypeId}{z:Value}(ht:K7 P t=some e)(hz:G0 P e=some z)(hpos:0<K1 P e)(hsm:K1 P e≤16777216){x:Value}(hx:x.cells.size=K1 P e):
  (Instr.buildSlice t 1 #[(0,x)]).run P w = .ok (.slice (some ⟨w.heap.size,0,none⟩) 1 1) (w.alloc (.cells x.cells e)):=by
 obtain⟨i,hi,hiz⟩:=A0 hz;have:=aq5 (w:=w) ht (by rw[hi];rfl) hz [x] (by simpa using hx) (by simp) hpos (by simpa using hsm) (parts:=#[(0,x)]) rfl (n:=1) rfl;simpa using this
end
def dx9:=@List.mem_cons_of_mem
def cH0(ops:Array Oper):List Nat:=ops.toList.filterMap (·.dst)
def wrC:Code→List Nat
 | .seq a b=>wrC a++wrC b
 | .cond _ a b=>wrC a++wrC b
 | .block _ a=>wrC a
 | .loop a=>wrC a
 | .region _ ops _=>cH0 ops
 | _=>[]
section
variable {P:Program}
theorem bv9{r:Result Value}{K K':Fr→World→Prop}{f:Fr}{d:Option Nat}(h:∀v w,K (C4 f d v) w→K' (C4 f d v) w)(hr:ad7 r K f d):ad7 r K' f d:=by
 cases r with
 | ok v w=>exact h _ _ hr
 | halt x w=>exact hr.elim
theorem aW1{r:Result Unit}{K K':Fr→World→Prop}{f:Fr}{d:Option Nat}(h:∀v w,K (C4 f d v) w→K' (C4 f d v) w)(hr:aW0 r K f d):aW0 r K' f d:=by
 cases r with
 | ok v w=>exact h _ _ hr
 | halt x w=>exact hr.elim
theorem bO0{k:Nat}{args:List Value}{w:World}{K K':Fr→World→Prop}{f:Fr}{d:Option Nat}(h:∀v w,K (C4 f d v) w→K' (C4 f d v) w)(hr:at5 P k args w K f d):at5 P k args w K' f d:=by
 rcases hr with⟨hb,hc⟩|⟨v,w',h1,h2⟩
 ·exact .inl ⟨hb,hc.mono fun e w' ⟨v,he,hk⟩=>⟨v,he,h _ _ hk⟩⟩
 ·exact .inr ⟨v,w',h1,h _ _ h2⟩
theorem bc3{o:Oper}{K K':Fr→World→Prop}{f:Fr}{w:World}(h:∀v w,K (C4 f o.dst v) w→K' (C4 f o.dst v) w)(hs:N7 P o K f w):N7 P o K' f w:=by
 unfold N7 at *;generalize(execOp (ev f) o).run P w=r at *;cases r with
 | halt x w'=>exact hs
 | ok n w'=>
  cases n
  case value v=>exact h _ _ hs
  case skip=>exact h _ _ hs
  case enter g args=>exact Calls.mono hs fun e w'' ⟨v,he,hk⟩=>⟨v,he,h _ _ hk⟩
  all_goals exact hs
theorem ax3{S:Option (World→Prop)}{K K':Fr→World→Prop}{f:Fr}{d:Option Nat}(h:∀v w,K (C4 f d v) w→K' (C4 f d v) w):∀v w,aK2 S K (C4 f d v) w→aK2 S K' (C4 f d v) w:=by
 intro v w hk;cases S with
 | none=>exact h _ _ hk
 | some S=>exact⟨hk.1,h _ _ hk.2⟩
theorem cg4{S:Option (World→Prop)}{fl:Bool}{s:Sem Value}{K K':Fr→World→Prop}{f:Fr}{d:Option Nat}{w:World}(h:∀v w,K (C4 f d v) w→K' (C4 f d v) w)(hr:bf7 P S fl s K f d w):bf7 P S fl s K' f d w:=by
 unfold bf7 at *;cases S with
 | none=>exact bv9 h hr
 | some S=>
  cases fl with
  | true=>
   simp only[dx1]at hr ⊢;obtain⟨v,h1,h2⟩:=hr;exact⟨v,h1,h _ _ h2⟩
  | false=>
   simp only[dx4,dy5]at hr ⊢;exact bv9 (fun v w hk=>⟨hk.1,h _ _ hk.2⟩) hr
theorem X1{S:Option (World→Prop)}{o:Oper}{K K':Fr→World→Prop}{f:Fr}{w:World}(h:∀v w,K (C4 f o.dst v) w→K' (C4 f o.dst v) w)(hs:B1 P S o K f w):B1 P S o K' f w:=by
 unfold B1 at *;split
 ·rename_i v hv;simp only[hv]at hs;exact h _ _ hs
 ·rename_i hv;simp only[hv]at hs;unfold Y9 at *;split
  ·rename_i s hs';simp only[hs']at hs;exact cg4 h hs
  ·rename_i hs';simp only[hs']at hs;obtain⟨d,op,ty,pos,aft,gd⟩:=o;cases op
   case store=>exact aW1 (ax3 h) hs
   case mapUpdate=>exact aW1 (ax3 h) hs
   case insert=>exact aW1 (ax3 h) hs
   case call c=>
    obtain⟨cal,args,tys⟩:=c;cases cal
    case value g=>
     simp only at hs ⊢;cases hg:ev f g
     case func fn first cap=>
      cases fn
      case func k=>simp only[hg]at hs ⊢;exact bO0 (ax3 h) hs
      all_goals (simp only[hg]at hs)
     all_goals (simp only[hg]at hs)
    all_goals exact hs
   all_goals
    cases S with
    | none=>exact bc3 h hs
    | some S=>
     simp only at hs ⊢;split
     ·rename_i hf;rw[if_pos hf]at hs;obtain⟨v,h1,h2⟩:=hs;exact⟨v,h1,h _ _ h2⟩
     ·rename_i hf;rw[if_neg hf]at hs;exact bc3 (fun v w hk=>⟨hk.1,h _ _ hk.2⟩) hs
theorem aN2{f:Fr}{d:Option Nat}{v:Value}{i:Nat}(h:∀k,d=some k→i≠k):C4 f d v i=f i:=by
 cases d with
 | none=>rfl
 | some k=>simp[C4,p6,h k rfl]
theorem cp6{ops:Array Oper}{K K':Fr→World→Prop}:∀(l:List Oper) (f:Fr) (w:World),(∀f' w',(∀i,i∉l.filterMap (·.dst)→f' i=f i)→K f' w'→K' f' w')→Rn P ops l K f w→Rn P ops l K' f w
 | [],f,w,h,hr=>h _ _ (fun _ _=>rfl) hr
 | o::l,f,w,h,hr=>by
  have key:∀v w',Rn P ops l K (C4 f o.dst v) w'→Rn P ops l K' (C4 f o.dst v) w':=fun v w' hk=>
   cp6 l _ _ (fun f' w'' hf hk'=>h _ _ (fun i hi=>by
    have h1:i∉l.filterMap (·.dst):=fun hm=>hi (List.mem_filterMap.2 (let⟨a,ha,hd⟩:=List.mem_filterMap.1 hm;⟨a,dx9 _ ha,hd⟩));rw[hf i h1];exact aN2 fun k hk e=>hi (by subst e;exact List.mem_filterMap.2 ⟨o,by simp,hk⟩)) hk') hk
  unfold Rn at hr ⊢;split
  ·rename_i hg;simp only[hg]at hr;exact X1 key hr
  ·rename_i j b hg;simp only[hg]at hr;split
   ·rename_i hc;rw[if_pos hc]at hr;exact X1 key hr
   ·rename_i hc;rw[if_neg hc]at hr;exact key _ _ hr
theorem bI6{ops:Array Oper}{i:Nat}{o:Oper}{k:Nat}(ho:ops[i]?=some o)(hd:o.dst=some k):k∈cH0 ops:=
 List.mem_filterMap.2 ⟨o,by have:=Array.mem_of_getElem? ho;simpa using this,hd⟩
theorem by3{ops:Array Oper}{S:World→Prop}{K K':Fr→World→Prop}:∀(l:aC1) (f:Fr) (w:World),(∀f' w',(∀i,i∉cH0 ops→f' i=f i)→K f' w'→K' f' w')→RnF P ops S l K f w→RnF P ops S l K' f w
 | .nil,f,w,h,hr=>h _ _ (fun _ _=>rfl) hr
 | .op i l,f,w,h,hr=>by
  unfold RnF at hr ⊢;cases ho:ops[i]? with
  | none=>simp[ho]at hr
  | some o=>
   simp only[ho]at hr ⊢;have key:∀v w',RnF P ops S l K (C4 f o.dst v) w'→RnF P ops S l K' (C4 f o.dst v) w':=fun v w' hk=>
    by3 l _ _ (fun f' w'' hf hk'=>h _ _ (fun j hj=>by
     rw[hf j hj];exact aN2 fun k hk e=>hj (by subst e;exact bI6 ho hk)) hk') hk
   split
   ·rename_i hg;simp only[hg]at hr;exact X1 key hr
   ·rename_i j b hg;simp only[hg]at hr;split
    ·rename_i hc;rw[if_pos hc]at hr;exact X1 key hr
    ·rename_i hc;rw[if_neg hc]at hr;exact key _ _ hr
 | .fork rs k,f,w,h,hr=>by
  unfold RnF at hr ⊢;intro i hi;have hr:=hr i hi;cases ho:ops[i]? with
  | none=>simp[ho]at hr
  | some o=>
   simp only[ho]at hr ⊢;have key:∀v w',RnF P ops S (k i) K (C4 f o.dst v) w'→RnF P ops S (k i) K' (C4 f o.dst v) w':=fun v w' hk=>
    by3 (k i) _ _ (fun f' w'' hf hk'=>h _ _ (fun j hj=>by
     rw[hf j hj];exact aN2 fun k hk e=>hj (by subst e;exact bI6 ho hk)) hk') hk
   split
   ·rename_i hg;simp only[hg]at hr;exact⟨X1 key hr.1,hr.2⟩
   ·rename_i j b hg;simp only[hg]at hr;split
    ·rename_i hc;rw[if_pos hc]at hr;exact⟨X1 key hr.1,hr.2⟩
    ·rename_i hc;rw[if_neg hc]at hr;exact key _ _ hr
theorem co6:∀(c:Code) (Q Q':Exit→Fr→World→Prop) (f:Fr) (w:World),(∀e f' w',(∀i,i∉wrC c→f' i=f i)→Q e f' w'→Q' e f' w')→CW P c Q f w→CW P c Q' f w:=by
 intro c
 induction c with
 | skip=>intro Q Q' f w h hc;exact h _ _ _ (fun _ _=>rfl) hc
 | seq a b iha ihb=>
  intro Q Q' f w h hc;refine iha _ _ _ _ ?_ hc;intro e f' w' hf hq;cases e
  case normal=>
   refine ihb _ _ _ _ ?_ hq;intro e2 f2 w2 hf2 hq2;exact h _ _ _ (fun i hi=>by
    simp only[wrC,ds4,not_or]at hi;rw[hf2 i hi.2,hf i hi.1]) hq2
  all_goals exact h _ _ _ (fun i hi=>by
    simp only[wrC,ds4,not_or]at hi;exact hf i hi.1) hq
 | cond v a b iha ihb=>
  intro Q Q' f w h hc;simp only[CW]at hc ⊢;unfold aK0 at *;split
  ·rename_i hv;simp only[hv]at hc;exact iha _ _ _ _ (fun e f' w' hf hq=>h _ _ _ (fun i hi=>by simp only[wrC,ds4,not_or]at hi;exact hf i hi.1) hq) hc
  ·rename_i hv;simp only[hv]at hc;exact ihb _ _ _ _ (fun e f' w' hf hq=>h _ _ _ (fun i hi=>by simp only[wrC,ds4,not_or]at hi;exact hf i hi.2) hq) hc
  ·rename_i h1 h2;split at hc
   ·rename_i hv;exact absurd hv h1
   ·rename_i hv;exact absurd hv h2
   ·exact hc
 | block id a ih=>
  intro Q Q' f w h hc;refine ih _ _ _ _ ?_ hc;intro e f' w' hf hq;cases e
  case exit id'=>
   simp only[T0]at hq ⊢;split
   ·rename_i hid;rw[if_pos hid]at hq;exact h _ _ _ hf hq
   ·rename_i hid;rw[if_neg hid]at hq;exact h _ _ _ hf hq
  all_goals exact h _ _ _ hf hq
 | loop a ih=>
  intro Q Q' f w h hc;obtain⟨σ,I,m,s0,h0,hr⟩:=hc;refine⟨σ,fun s f' w'=>I s f' w'∧∀i,i∉wrC a→f' i=f i,m,s0,⟨h0,fun _ _=>rfl⟩,?_⟩;rintro s f' w' ⟨hI,hfr⟩;refine ih _ _ _ _ ?_ (hr s f' w' hI);intro e f2 w2 hf2 hq;cases e
  case normal=>
   obtain⟨s',h1,h2⟩:=hq;exact⟨s',h1,h2,fun i hi=>by rw[hf2 i hi,hfr i hi]⟩
  all_goals exact h _ _ _ (fun i hi=>by rw[hf2 i hi,hfr i hi]) hq
 | region id ops d=>
  intro Q Q' f w h hc;cases d
  case false=>exact cp6 _ _ _ (fun f' w' hf hq=>h _ _ _ hf hq) hc
  case true=>
   obtain⟨S,n,ord,h1,h3,h4⟩:=hc;refine⟨S,n,ord,h1,h3,?_⟩;refine by3 ord _ _ ?_ h4;intro f' w' hf hq;refine cp6 _ _ _ ?_ hq;intro f2 w2 hf2 hq2;exact h _ _ _ (fun i hi=>by
    rw[hf2 i,hf i hi];intro hm;obtain⟨o,ho,hd⟩:=List.mem_filterMap.1 hm;exact hi (List.mem_filterMap.2 ⟨o,dB8 ho,hd⟩)) hq2
 | exit id=>intro Q Q' f w h hc;exact h _ _ _ (fun _ _=>rfl) hc
 | label l=>intro Q Q' f w h hc;exact h _ _ _ (fun _ _=>rfl) hc
 | ret=>intro Q Q' f w h hc;exact h _ _ _ (fun _ _=>rfl) hc
 | _=>intro Q Q' f w _ hc;exact hc
theorem n9{c:Code}{Q:Exit→Fr→World→Prop}{f:Fr}{w:World}{σ:Type}(keep:List Nat)(I:σ→Fr→World→Prop)(m:σ→Nat)(s0:σ)
  (h0:I s0 f w)
  (hr:∀s f' w',(∀i∈keep,f' i=f i)→I s f' w'→CW P c (W1 (fun f'' w''=>∃s',m s'<m s∧I s' f'' w'') Q) f' w') (hk:keep.all (fun i=>!(wrC c).contains i)=true:=by decide +kernel):bX3 (CW P c) Q f w:=by
 have hk':∀i∈keep,i∉wrC c:=by
  intro i hi hm;have:=dx6.1 hk i hi;simp[hm]at this
 refine⟨σ,fun s f' w'=>I s f' w'∧∀i∈keep,f' i=f i,m,s0,⟨h0,fun _ _=>rfl⟩,?_⟩;rintro s f' w' ⟨hI,hfr⟩;refine co6 c _ _ _ _ ?_ (hr s f' w' hfr hI);intro e f2 w2 hf2 hq;cases e
 case normal=>
  obtain⟨s',h1,h2⟩:=hq;exact⟨s',h1,h2,fun i hi=>by rw[hf2 i (hk' i hi),hfr i hi]⟩
 all_goals exact hq
theorem z7{k:Nat}{args:List Value}{w:World}{K:Fr→World→Prop}{f:Fr}{d:Option Nat}{R:Value→World→Prop}
  (h:Calls P k args.toArray w fun e w'=>∃v,e = .returned v∧R v w') (hk:∀v w',R v w'→K (C4 f d v) w') (hb:ah7 P k=true:=by kernel_rfl):at5 P k args w K f d:=
 .inl ⟨hb,h.mono fun _ _ ⟨v,he,hr⟩=>⟨v,he,hk _ _ hr⟩⟩
theorem C0{ops:Array Oper}{K:Fr→World→Prop}{f:Fr}{w:World}(S:World→Prop)(n:Nat)(ord:aC1)
  (h:RnF P ops S ord (Rn P ops (ops.toList.drop n) K) f w.drew) (hok:bK2 ops n ord=true:=by decide +kernel) (hS:S w.drew:=by first|exact t8.refl _|exact rfl):cp0 P ops K f w:=⟨S,n,ord,hok,hS,h⟩
theorem ct6{ops:Array Oper}{K:Fr→World→Prop}{f:Fr}{w:World}(keep:List Nat)(S:World→Prop)(n:Nat)(ord:aC1)(I:Fr→World→Prop)(hok:bK2 ops n ord=true)(hkp:keep.all (fun i=>!(cH0 ops).contains i)=true)(hS:S w.drew)
  (h:RnF P ops S ord I f w.drew) (hk:∀f' w',(∀i∈keep,f' i=f i)→I f' w'→Rn P ops (ops.toList.drop n) K f' w'):cp0 P ops K f w:=by
 refine⟨S,n,ord,hok,hS,by3 ord _ _ (fun f' w' hf hi=>hk f' w' (fun i hi'=>hf i ?_) hi) h⟩;have:=dx6.1 hkp i hi';intro hm;simp[hm]at this
theorem av7{ops:Array Oper}{S:World→Prop}{K:Fr→World→Prop}{f:Fr}{w:World}{rs:List Nat}{k:Nat→aC1}(hf:rs.all (fun i=>match ops[i]? with|some o=>!flt o.op|none=>false)=true)
  (h:∀i∈rs,RnF P ops S (.op i (k i)) K f w):RnF P ops S (.fork rs k) K f w:=by
 unfold RnF;intro i hi;have h1:=h i hi;have h2:=dx6.1 hf i hi;unfold RnF at h1;cases ho:ops[i]? with
 | none=>simp[ho]at h2
 | some o=>
  simp only[ho]at h1 h2 ⊢;have h3:flt o.op=false:=by simpa using h2
  cases hg:o.guard with
  | none=>simp only[hg]at h1 ⊢;exact⟨h1,h3⟩
  | some jb=>
   obtain⟨j,b⟩:=jb;simp only[hg]at h1 ⊢;split
   ·rename_i hc;rw[if_pos hc]at h1;exact⟨h1,h3⟩
   ·rename_i hc;rw[if_neg hc]at h1;exact h1
def A9:List Nat→aC1
 | []=>.nil
 | i::l=>.op i (A9 l)
end
def dt5:=@Int.toNat_natCast
def dy6:=@List.ext_getElem
def dr9:=@List.length_map
def dw7:=@List.length_range
def dv9:=@List.length_replicate
def du1:=@List.map_append
def dB7:=@List.mem_iff_getElem?
def ds9:=@List.mem_of_getElem?
def ds2:=@List.take_length
def du3:=@decide_eq_false
theorem K6(n:Int)(h : -9223372036854775808≤n∧n≤9223372036854775807):IntKind.i64.wrap n=n:=IntWalk.i64_in n h
theorem A8(k:Nat)(h:k<4000000000000000000):IntKind.i64.wrap ((k:Int)+1)=((k+1:Nat):Int):=by
 rw[K6 _ (by omega)];rfl
theorem dl2(k:Nat)(h:k<4000000000000000000):IntKind.i64.wrap (k:Int)=(k:Int):=K6 _ (by omega)
theorem dl6(k:Nat):decide ((0:Int)≤(k:Int))=true:=by simp
def E7(P:Program)(t T sz by_:Nat):Bool:=
 (K7 P t==some T)&&(match G0 P T with|some z=>z.cells.size==sz|none=>false)&&(K1 P T==sz)&&(cs6 P T==by_)&&decide (0<sz)&&decide (sz≤1000000)
theorem Q0{P:Program}{t T sz by_:Nat}(h:E7 P t T sz by_=true):
  K7 P t=some T∧(∃z,G0 P T=some z∧z.cells.size=sz)∧K1 P T=sz∧cs6 P T=by_∧0<sz∧sz≤1000000:=by
 simp only[E7,dt0,beq_iff_eq,du7]at h;obtain⟨⟨⟨⟨⟨h1,h2⟩,h3⟩,h4⟩,h5⟩,h6⟩:=h;refine⟨h1,?_,h3,h4,h5,h6⟩;cases hz:G0 P T with
 | none=>simp[hz]at h2
 | some z=>exact⟨z,rfl,by simpa[hz]using h2⟩
section
variable {P:Program} {w:World} {h:Hp} {t T sz by_:Nat} {v:Value}
theorem push{α:Type}[A3 α]{e:TypeId}(hs:E7 P t T sz by_=true)(hsz:A3.sz α=sz){xs:List α}(ho:B0 h w T v xs){x:Value}{y:α}(hy:A3.enc h x.cells.toList y)
  (hl:xs.length+1≤1000000000000) (hb:(xs.length+1)*by_≤140737488355328) (hw:B5 h (i4 w)) :
  (Instr.buildSlice t 1 #[(0,x)]).run P w = .ok (.slice (some ⟨w.heap.size,0,none⟩) 1 1) (w.alloc (.cells x.cells T)) ∧
  ∃v' w',(Builtin.append_ #[t,t] e #[v,.slice (some ⟨w.heap.size,0,none⟩) 1 1]).run P (w.alloc (.cells x.cells T)) = .ok v' w'∧B0 h w' T v' (xs++[y])∧t8 (A4 v) w w'∧D7 w v v':=by
 obtain⟨h1,⟨z,hz,hzs⟩,h3,h4,h5,h6⟩:=Q0 hs;have hx:x.cells.size=sz:=by have:=A3.len hy;simpa[hsz]using this
 exact⟨aj8 h1 hz (by omega) (by omega) (by rw[hx,h3]),cy7 h1 hz (by rw[h3,hsz]) (by rw[hzs,hsz]) ho hy hl (by rw[h4];exact hb) hw⟩
theorem lit{α:Type}[A3 α](hs:E7 P t T sz by_=true){xs:List Value}{ys:List α}{parts:Array (Nat×Value)}{n:Nat}(hp:parts.toList=(xs.zipIdx 0).map fun p=>(p.2,p.1))
  (he:N1 h (xs.flatMap (·.cells.toList)) ys) (hx:∀x∈xs,x.cells.size=sz) (hn:n=xs.length) (hyl:ys.length=xs.length) (hne:xs≠[]) (hlt:xs.length≤16) (hw:B5 h (i4 w)) :
  ∃v w',(Instr.buildSlice t n parts).run P w = .ok v w'∧B0 h w' T v ys∧o7 w w'∧(∀b,A4 v b→w.heap.size≤b):=by
 obtain⟨h1,⟨z,hz,hzs⟩,h3,h4,h5,h6⟩:=Q0 hs;obtain⟨i,hi,hiz⟩:=A0 hz;have hr:=aq5 (w:=w) h1 (by rw[hi];rfl) hz xs (by rw[h3];exact hx) hne (by omega) (dr7 (Nat.mul_le_mul hlt (show K1 P T≤1000000 by omega)) (by omega)) hp hn;refine⟨_,_,hr,.inr ⟨w.heap.size,n,_,by rw[hn,hyl],ax2 hw (ds5 _),dv4 w _,by omega,by rw[hn];simp only[maxLen];omega,?_,?_⟩,o7.alloc _ _,fun b hb=>by simp[A4,Value.ownBlock]at hb;omega⟩
 ·have:=J9 he;simp only[dA6,this,hyl,hn]
 ·rw[←J9 he];simp only[ds2];exact he
theorem ca2{α:Type}[A3 α]{c:List Value}{y:α}(he:A3.enc h c y):∀n:Nat,N1 h (List.replicate n c).flatten (List.replicate n y)
 | 0=>rfl
 | n+1=>⟨c,(List.replicate n c).flatten,by simp[List.replicate_succ],he,ca2 he n⟩
theorem bG2(z:Array Value)(hz:0<z.size):∀n:Nat,((Array.range (n*z.size)).map fun i=>z[i % z.size]!).toList=(List.replicate n z.toList).flatten
 | 0=>by simp
 | n+1=>by
  have ih:=bG2 z hz n;simp only[Array.toList_map,Array.toList_range]at ih ⊢;rw[dC1,Nat.one_mul,List.range_add,du1,ih,List.replicate_succ',List.flatten_append]
  congr 1
  simp only[List.map_map,List.flatten_cons,List.flatten_nil,du2];apply dy6
  ·simp
  ·intro i h1 h2;simp only[dr9,dw7]at h1;have:(n*z.size+i) % z.size=i:=by rw[Nat.add_comm,Nat.add_mul_mod_self_right];exact Nat.mod_eq_of_lt h1
   simp[this,h1]
theorem mk{α:Type}[A3 α](hs:E7 P t T sz by_=true){z:Value}(hz:G0 P T=some z){y:α}(he:A3.enc h z.cells.toList y){n:Nat}(hb:by_*n≤281474976710656)(hn:n≤1000000000000)(hw:B5 h (i4 w)):
  ∃v w',(Instr.makeSlice t (.int .i64 n) (.int .i64 n)).run P w = .ok v w'∧B0 h w' T v (List.replicate n y)∧o7 w w'∧(∀b,A4 v b→w.heap.size≤b)∧w'.heap.size=w.heap.size+1:=by
 obtain⟨h1,⟨z',hz',hzs⟩,h3,h4,h5,h6⟩:=Q0 hs;obtain rfl:z=z':=ds8 (hz.symm.trans hz');obtain⟨i,hi,hiz⟩:=A0 hz;have hby:i.bytes=by_:=by rw[←h4,au2 hi]
 have hsi:i.size=sz:=by rw[←h3,C5 hi]
 have hl:=A3.len he;have hszα:A3.sz α=sz:=by rw[←hl];simpa using hzs
 have hnw:IntKind.i64.wrap (n:Int)=n:=dl2 n (by omega);have hnb:¬((by_:Int)*(n:Int)>281474976710656):=by
  have:=Int.ofNat_le.2 hb;rw[Int.natCast_mul]at this;omega
 have hpow:(2:Int) ^ 48=281474976710656:=by decide +kernel
 have hroom:∀b w,(askRoom b).run P w = .ok () w:=by
  intro b w;unfold askRoom;split
  ·rfl
  ·rfl
 refine⟨.slice (some ⟨w.heap.size,0,none⟩) n n,w.alloc (.cells ((Array.range (n*sz)).map fun i=>z.cells[i % z.cells.size]!) T),?_,?_,o7.alloc _ _,fun b hb'=>by simp[A4,Value.ownBlock]at hb';omega,by simp⟩
 ·unfold Instr.makeSlice;simp only[dt3,F2,L7 h1,ds6,asInt,asIntOf,du6,N3,hi,hby,hnw,hpow];have hc:((decide ((n:Int)<0)||decide ((by_:Int)*(n:Int)>281474976710656))||decide ((n:Int)<0)||decide ((n:Int)>(n:Int)))=false:=by
   rw[du3 (show ¬((n:Int)<0) by omega),du3 hnb,du3 (show ¬((n:Int)>(n:Int)) by omega)];rfl
  simp only[hc,dx4,dy5,dt3,hroom,ds6,dt5,N6 (show(P.info? T).isSome=true by rw[hi];rfl),h3];by_cases h0:n*sz=0
  ·have e0:∀(g:Nat→Value),(Array.range 0).map g=#[]:=fun g=>by simp
   simp only[h0,dx1,e0];simp only[dt3,du6,ds6];rfl
  ·simp only[h0,dy5,dt3,zeroValue,N3,hi,ds6,hiz,du6];rfl
 ·right;refine⟨w.heap.size,n,_,by simp,ax2 hw (ds5 _),dv4 w _,by simp,by simp only[maxLen];omega,by simp[hszα],?_⟩;have:=bG2 z.cells (by omega) n;rw[hzs]at this ⊢;rw[this,dv9,hszα];have hlen:(List.replicate n z.cells.toList).flatten.length=n*sz:=by simp[hzs]
  rw[←hlen,ds2];exact ca2 he n
end
structure Ptr (α:Type) where
 to:α
instance {α:Type} [A3 α]:A3 (Ptr α) where
 sz:=1
 pos:=by omega
 enc h cs x:=∃a es,cs=[.pointer (some a)]∧A3.enc h es x.to∧∀j v,es[j]?=some v→I5 h (a.add j)=some v
 len:=by rintro h cs x ⟨a,es,rfl,_⟩;rfl
 mono:=by
  rintro h k cs x hk ⟨a,es,e,h1,h2⟩;exact⟨a,es,e,A3.mono hk h1,fun j v hv=>F6 hk (h2 j v hv)⟩
 one:=by
  rintro h cs x ⟨a,es,rfl,_⟩ v hv;simp at hv;subst hv;rfl
structure Z3 where
 v:Value
instance:A3 Z3 where
 sz:=1
 pos:=by omega
 enc _ cs x:=cs=[x.v]∧x.v.oneCell'=true
 len h:=by simp[h.1]
 mono _ h:=h
 one h:=by
  intro v hv;rw[h.1]at hv;simp at hv;subst hv;exact h.2
structure K9 {α:Type} [A3 α] (h:Hp) (w:World) (T T':TypeId) (v:Value) (us:List Z3) (xss:List (List α)):Prop where
 outer:B0 h w T v us
 len:us.length=xss.length
 row:∀(i:Nat) (u:Z3) (xs:List α),us[i]?=some u→xss[i]?=some xs→B0 h w T' u.v xs
 apart:∀(i j:Nat) (u u':Z3),i≠j→us[i]?=some u→us[j]?=some u'→∀b,A4 u.v b→¬A4 u'.v b
 off:∀(i:Nat) (u:Z3),us[i]?=some u→∀b,A4 u.v b→¬A4 v b
def L3(v:Value)(us:List Z3)(b:Nat):Prop:=A4 v b∨∃u∈us,A4 u.v b
section
variable {α:Type} [A3 α] {h:Hp} {w:World} {T T':TypeId} {v:Value} {us:List Z3} {xss:List (List α)}
theorem K9.free(hr:K9 h w T T' v us xss){b:Nat}(hb:L3 v us b):h b=none:=by
 rcases hb with hb|⟨u,hu,hb⟩
 ·exact hr.outer.free hb
 ·obtain⟨i,hi⟩:=dB7.1 hu;have hlt:i<xss.length:=by rw[←hr.len];exact(dr4.1 hi).1
  exact(hr.row i u _ hi (dq7 hlt)).free hb
theorem K9.lt(hr:K9 h w T T' v us xss){b:Nat}(hb:L3 v us b):b<w.heap.size:=by
 rcases hb with hb|⟨u,hu,hb⟩
 ·exact hr.outer.lt hb
 ·obtain⟨i,hi⟩:=dB7.1 hu;have hlt:i<xss.length:=by rw[←hr.len];exact(dr4.1 hi).1
  exact(hr.row i u _ hi (dq7 hlt)).lt hb
theorem K9.mod{M:Nat→Prop}{w':World}(hr:K9 h w T T' v us xss)(hm:t8 M w w')(hM:∀b,L3 v us b→¬M b):K9 h w' T T' v us xss:=
 ⟨hr.outer.mod hm fun b hb=>hM b (.inl hb),hr.len,fun i u xs hi hx=>(hr.row i u xs hi hx).mod hm fun b hb=>hM b (.inr ⟨u,ds9 hi,hb⟩),hr.apart,hr.off⟩
theorem K9.ext{w':World}(hr:K9 h w T T' v us xss)(hm:o7 w w'):K9 h w' T T' v us xss:=hr.mod hm fun _ _=>id
theorem K9.set{w' w'':World}(hr:K9 h w T T' v us xss){i:Nat}{u:Z3}(hi:us[i]?=some u){u':Value}{xs:List α}
  (hm:t8 (A4 u.v) w w') (ho:B0 h w' T' u' xs) (hv:D7 w u.v u')
  (hm2:t8 (A4 v) w' w'') (ho2:B0 h w'' T v (us.set i ⟨u'⟩)):K9 h w'' T T' v (us.set i ⟨u'⟩) (xss.set i xs):=by
 have hil:i<us.length:=(dr4.1 hi).1;have hnew:∀b,A4 u' b→¬A4 v b:=fun b hb hb2=>by
  rcases hv b hb with hb3|hb3
  ·exact hr.off i u hi b hb3 hb2
  ·have:=hr.outer.lt hb2;omega
 have hget:∀(j:Nat) (x:Z3),(us.set i ⟨u'⟩)[j]?=some x→(j=i∧x=⟨u'⟩)∨(j≠i∧us[j]?=some x):=by
  intro j x hj;rw[List.getElem?_set]at hj;by_cases hji:i=j
  ·subst hji;simp only[dx1,if_pos hil]at hj;exact .inl ⟨rfl,(ds8 hj).symm⟩
  ·rw[if_neg hji]at hj;exact .inr ⟨fun e=>hji e.symm,hj⟩
 have hother:∀(j:Nat) (x:Z3),j≠i→us[j]?=some x→∀b,A4 x.v b→¬A4 u' b:=by
  intro j x hji hj b hb hb2;rcases hv b hb2 with hb3|hb3
  ·exact hr.apart j i x u hji hj hi b hb hb3
  ·have hlt:j<xss.length:=by rw[←hr.len];exact(dr4.1 hj).1
   have:=(hr.row j x _ hj (dq7 hlt)).lt hb;omega
 refine⟨ho2,by simp[hr.len],?_,?_,?_⟩
 ·intro j x ys hj hy;rcases hget j x hj with⟨rfl,rfl⟩|⟨hji,hj'⟩
  ·rw[List.getElem?_set,if_pos rfl,if_pos (by rw[←hr.len];exact hil)]at hy;obtain rfl:=ds8 hy;exact ho.mod hm2 hnew
  ·rw[List.getElem?_set,if_neg (fun e=>hji e.symm)]at hy;refine((hr.row j x ys hj' hy).mod hm fun b hb hb2=>hr.apart j i x u hji hj' hi b hb hb2).mod hm2 fun b hb=>hr.off j x hj' b hb
 ·intro j k x y hjk hj hk b hb hb2;rcases hget j x hj with⟨rfl,rfl⟩|⟨hji,hj'⟩<;>rcases hget k y hk with⟨rfl,rfl⟩|⟨hki,hk'⟩
  ·exact hjk rfl
  ·exact hother k y hki hk' b hb2 hb
  ·exact hother j x hji hj' b hb hb2
  ·exact hr.apart j k x y hjk hj' hk' b hb hb2
 ·intro j x hj b hb;rcases hget j x hj with⟨rfl,rfl⟩|⟨hji,hj'⟩
  ·exact hnew b hb
  ·exact hr.off j x hj' b hb
theorem K9.ro(hr:K9 h w T T' v us xss)(hw:B5 h (i4 w)):R (i4 w) v xss:=by
 have ho:=hr.outer.rw_ hw;obtain⟨a,n,c,e,h1,h2,es,h3,h4⟩:=ho;refine⟨a,n,c,e,by rw[h1,hr.len],h2,es,?_,h4⟩;have key:∀(us:List Z3) (xss:List (List α)) (es:List Value),us.length=xss.length→N1 (i4 w) es us →
   (∀(i:Nat) (u:Z3) (xs:List α),us[i]?=some u→xss[i]?=some xs→R (i4 w) u.v xs)→N1 (i4 w) es xss:=by
  intro us
  induction us with
  | nil=>
   intro xss es hl he _;have:xss=[]:=List.eq_nil_of_length_eq_zero hl.symm;subst this;exact he
  | cons u us ih=>
   intro xss es hl he hx;cases xss with
   | nil=>simp at hl
   | cons xs xss=>
    obtain⟨c1,c2,rfl,⟨hc1,_⟩,hc2⟩:=he;subst hc1;exact⟨[u.v],c2,rfl,hx 0 u xs rfl rfl,ih xss c2 (by simpa using hl) hc2 fun i u' xs' h5 h6=>hx (i+1) u' xs' (by simpa using h5) (by simpa using h6)⟩
 exact key us xss es hr.len h3 fun i u xs hi hx=>(hr.row i u xs hi hx).rw_ hw
end
section
variable {P:Program} {w:World} {h:Hp} {t T:TypeId} {v:Value}
theorem bC1(w:World)(z cs:Array Value)(T:TypeId):(w.alloc (.cells z T)).setRow w.heap.size cs=w.alloc (.cells cs T):=by
 unfold World.setRow World.alloc
 congr 1
 apply Array.ext
 ·simp
 ·intro i h1 h2;simp only[Array.getElem_modify];by_cases hi:w.heap.size=i
  ·subst hi;simp
  ·rw[if_neg hi];have:i<w.heap.size:=by simp at h2;omega
   simp[Array.getElem_push,this]
theorem aJ7{z:Value}(hz:G0 P T=some z)(hs:z.cells.size=K1 P T){cs:Array Value}(hc:cs.size=K1 P T)(h1:∀u∈cs.toList,u.oneCell'=true):
  (Instr.alloc T true (.tuple #[])).run P w = .ok (.pointer (some ⟨w.heap.size,0,none⟩)) (w.alloc (.cells z.cells T)) ∧
  (Instr.storeAt T (.pointer (some ⟨w.heap.size,0,none⟩)) (.agg cs)).run P (w.alloc (.cells z.cells T)) = .ok () (w.alloc (.cells cs T)):=by
 obtain⟨i,hi,hiz⟩:=A0 hz;constructor
 ·unfold Instr.alloc zeroValue;simp only[dt3,N3,hi,hiz,du6,ds6];rfl
 ·have hst:=run_storeCells_from (P:=P) w.heap.size T cs.toList 0 z.cells (w.alloc (.cells z.cells T)) (dv4 w _) (by simp[hc,hs]) h1;simp only[dC6,dB0,Array.toArray_toList]at hst;unfold Instr.storeAt storeVar;simp only[Instr.sureAddr,dt3,du6,ds6,sizeOf,N3,hi,Value.cells];rw[C5 hi]at hc;simp only[hc,ne_eq,not_true_eq_false,dy5];rw[←bC1 w z.cells cs T];exact hst
theorem ct2{cs:Array Value}{i:Nat}{u:Value}(hu:cs[i]?=some u):(w.alloc (.cells cs T)).cell? ⟨w.heap.size,i,none⟩=some u:=by
 rw[dC7];exact hu
theorem cw8{cs:Array Value}{i:Nat}{u:Value}(hu:cs[i]?=some u)(ht:H6 P t=false):(Instr.loadAt t (.pointer (some ⟨w.heap.size,i,none⟩))).run P (w.alloc (.cells cs T)) = .ok u (w.alloc (.cells cs T)):=
 R8 ht (ct2 hu)
theorem cb6{xs:List (Int×Int)}(hr:R h v xs)(hw:B5 h (i4 w)){k:Nat}{x:Int×Int}(hk:xs[k]?=some x)(ht:H6 P t=true)(hu:(P.underlying t).isSome=true)(hi:(P.info? t).isSome=true)(hs:K1 P t=2):
  (Instr.loadAt t (.pointer (some (H2 v (k*2))))).run P w = .ok (.agg #[.int .i64 x.1,.int .i64 x.2]) w:=by
 obtain⟨_,es,he,hc⟩:=hr.get hk;obtain⟨c1,c2,rfl,h1,h2⟩:=he;have h1':c1=[.int .i64 x.1]:=h1;have h2':c2=[.int .i64 x.2]:=h2;subst h1' h2';exact bj8 (cs:=[.int .i64 x.1,.int .i64 x.2]) ht hu hi hs fun j u hj=>F6 hw (hc j u hj)
theorem add_lit(b o k:Nat):(⟨b,o,none⟩:Addr).add k=⟨b,o+k,none⟩:=by unfold Addr.add;split<;>simp_all
theorem R.row{α:Type}[A3 α]{xss:List (List α)}(hr:R h v xss){k:Nat}{x:List α}(hk:xss[k]?=some x):∃u,R h u x∧I5 h (H2 v k)=some u:=by
 obtain⟨_,es,he,hc⟩:=hr.get hk;have hl:es.length=1:=A3.len he
 match es,hl with
 | [u],_=>
  have:=hc 0 u rfl;rw[K0]at this;have h1:(k*A3.sz (List α))=k:=dA7 k;rw[h1]at this;exact⟨u,he,this⟩
theorem G1{a:Addr}{u:Value}(hc:I5 h a=some u)(hw:B5 h (i4 w))(ht:H6 P t=false):(Instr.loadAt t (.pointer (some a))).run P w = .ok u w:=
 R8 ht (F6 hw hc)
theorem B0.ext2{α:Type}[A3 α]{w0 w2:World}{xs:List α}(ho:B0 (i4 w0) w T v xs)(hx:o7 w0 w)(hm:t8 (A4 v) w w2):o7 w0 w2:=
 t8.ext_of hx hm fun b hb=>by
  rcases dv3 b w0.heap.size with hlt|hge
  ·have:=ho.free hb;simp[i4,hlt]at this
  ·exact hge
theorem aU5{α:Type}[I8 α]{k:Hp}:∀{xs:List α} {cs:List Value},N1 k cs xs→N1 h cs xs
 | [],_,e=>e
 | _::_,_,⟨c1,c2,e,h1,h2⟩=>⟨c1,c2,e,h1,aU5 h2⟩
theorem B0.down{α:Type}[I8 α]{k:Hp}{xs:List α}(ho:B0 k w T v xs)(hk:B5 h k):B0 h w T v xs:=by
 rcases ho with hn|⟨b,c,cur,rfl,h1,h2,h3,h4,h5,h6⟩
 ·exact .inl hn
 ·refine .inr ⟨b,c,cur,rfl,?_,h2,h3,h4,h5,aU5 h6⟩;cases e:h b with
  | none=>rfl
  | some o=>rw[hk b o e]at h1;cases h1
theorem B0.back{α:Type}[I8 α]{w0 w1:World}{xs:List α}(ho:B0 (i4 w1) w T v xs)(hx:o7 w0 w1):B0 (i4 w0) w T v xs:=ho.down (b7 hx)
end
open Classical in
noncomputable def ai8 (w:World) (v:Value):Hp:=fun b=>if A4 v b then none else w.heap[b]?
theorem au5{w:World}{v:Value}{b:Nat}(h:A4 v b):ai8 w v b=none:=by unfold ai8;rw[if_pos h]
theorem W8{w:World}{v:Value}{b:Nat}(h:¬A4 v b):ai8 w v b=w.heap[b]?:=by unfold ai8;rw[if_neg h]
theorem aP3(w:World)(v:Value):B5 (ai8 w v) (i4 w):=fun b o e=>by
 by_cases h:A4 v b
 ·rw[au5 h]at e;cases e
 ·rw[W8 h]at e;exact e
theorem ck4{w w':World}{v v':Value}(hm:t8 (A4 v) w w')(hv:D7 w v v'):B5 (ai8 w v) (ai8 w' v'):=fun b o e=>by
 by_cases h:A4 v b
 ·rw[au5 h]at e;cases e
 ·rw[W8 h]at e;have hb:b<w.heap.size:=(dr3.1 e).1;have h':¬A4 v' b:=fun hb'=>by
   rcases hv b hb' with k|k
   ·exact h k
   ·omega
  rw[W8 h',hm.block b hb h];exact e
theorem ck3{w w':World}{v:Value}(hx:o7 w w'):B5 (ai8 w v) (ai8 w' v):=fun b o e=>by
 by_cases h:A4 v b
 ·rw[au5 h]at e;cases e
 ·rw[W8 h]at e;have hb:b<w.heap.size:=(dr3.1 e).1;rw[W8 h,hx.block b hb id];exact e
section
variable {α:Type} [A3 α] {h:Hp} {w:World} {T:TypeId} {v:Value} {xs:List α}
theorem B0.rebase(ho:B0 h w T v xs)(hw:B5 h (i4 w)):B0 (ai8 w v) w T v xs:=by
 refine ho.up (fun b o e=>?_) fun b hb=>au5 hb;have hn:¬A4 v b:=fun hb=>by rw[ho.free hb]at e;cases e
 rw[W8 hn];exact hw b o e
theorem B0.but(ho:B0 (ai8 w v) w T v xs){w':World}(hx:o7 w w'):B0 (ai8 w' v) w' T v xs:=
 (ho.ext hx).up (ck3 hx) fun b hb=>au5 hb
theorem B0.beside{β:Type}[A3 β]{k:Hp}{T':TypeId}{u:Value}{ys:List β}(hu:B0 k w T' u ys)(hk:B5 k (ai8 w v))(hd:∀b,A4 u b→¬A4 v b):R (ai8 w v) u ys:=
 hu.ro hk fun b hb=>W8 (hd b hb)
end
theorem K9.write{α:Type}[A3 α]{h:Hp}{w w':World}{T T':TypeId}{v:Value}{us:List Z3}{xss:List (List α)}(hr:K9 h w T T' v us xss){i:Nat}{u:Z3}(hi:us[i]?=some u){xs:List α}
  (hm:t8 (A4 u.v) w w') (ho:B0 h w' T' u.v xs):K9 h w' T T' v us (xss.set i xs):=by
 have hset:us.set i ⟨u.v⟩=us:=by
  obtain⟨hl,e⟩:=dr4.1 hi;apply dy6 (by simp);intro j h1 h2;rw[List.getElem_set];split
  ·rename_i e2;subst e2;exact e.symm
  ·rfl
 have:=hr.set (u':=u.v) (xs:=xs) hi hm ho (fun b hb=>.inl hb) (t8.refl _) (by
  rw[hset];exact hr.outer.mod hm fun b hb hb2=>hr.off i u hi b hb2 hb)
 rw[hset]at this;exact this
open Classical in
noncomputable def B7 (w:World) (N:Nat→Prop):Hp:=fun b=>if N b then none else w.heap[b]?
theorem H3{w:World}{N:Nat→Prop}{b:Nat}(h:N b):B7 w N b=none:=by unfold B7;rw[if_pos h]
theorem D3{w:World}{N:Nat→Prop}{b:Nat}(h:¬N b):B7 w N b=w.heap[b]?:=by unfold B7;rw[if_neg h]
theorem B3(w:World)(N:Nat→Prop):B5 (B7 w N) (i4 w):=fun b o e=>by
 by_cases h:N b
 ·rw[H3 h]at e;cases e
 ·rw[D3 h]at e;exact e
theorem G6{w w':World}{N N' M:Nat→Prop}(hm:t8 M w w')(hM:∀b,M b→N b)(hN:∀b,N' b→N b∨w.heap.size≤b):B5 (B7 w N) (B7 w' N'):=fun b o e=>by
 by_cases h:N b
 ·rw[H3 h]at e;cases e
 ·rw[D3 h]at e;have hb:b<w.heap.size:=(dr3.1 e).1;have h':¬N' b:=fun hb'=>by
   rcases hN b hb' with k|k
   ·exact h k
   ·omega
  rw[D3 h',hm.block b hb fun hh=>h (hM b hh)];exact e
theorem aH1{w0 w:World}{N:Nat→Prop}(hx:o7 w0 w)(hN:∀b,N b→w0.heap.size≤b):B5 (i4 w0) (B7 w N):=fun b o e=>by
 have hb:b<w0.heap.size:=(dr3.1 (show w0.heap[b]?=some o from e)).1;have hn:¬N b:=fun h=>by have:=hN b h;omega
 rw[D3 hn];exact b7 hx b o e
section
variable {α:Type} [A3 α] {h:Hp} {w:World} {T:TypeId} {v:Value} {xs:List α} {N:Nat→Prop}
theorem B0.noMod{w':World}{N' M:Nat→Prop}(ho:B0 (B7 w N) w T v xs)(hm:t8 M w w')(hM:∀b,M b→N b)(hd:∀b,A4 v b→¬M b)(hN:∀b,N' b→N b∨w.heap.size≤b)(hv:∀b,A4 v b→N' b):B0 (B7 w' N') w' T v xs:=
 (ho.mod hm hd).up (G6 hm hM hN) fun b hb=>H3 (hv b hb)
theorem B0.roNo{k:Hp}(hu:B0 k w T v xs)(hk:B5 k (B7 w N))(hd:∀b,A4 v b→¬N b):R (B7 w N) v xs:=hu.ro hk fun b hb=>D3 (hd b hb)
theorem B0.reNo(ho:B0 h w T v xs)(hh:B5 h (B7 w N))(hv:∀b,A4 v b→N b):B0 (B7 w N) w T v xs:=ho.up hh fun b hb=>H3 (hv b hb)
end
def dD8:=@Bool.eq_iff_iff
def dy2:=@Iff.rfl
def dD9:=@List.cons.injEq
def dC0:=@List.cons_append
def dt1:=@List.mem_cons
def dw3:=@List.not_mem_nil
def dC5:=@or_false
structure A7 where
 b:List UInt8
 deriving DecidableEq
instance:Inhabited A7:=⟨⟨[]⟩⟩
def ofA(b:Array UInt8):A7:=⟨b.toList⟩
abbrev e0:A7:=ofA #[]
def o9(s:A7):Value:=.string ⟨s.b.toArray⟩
instance:I8 A7:=⟨o9,fun _=>rfl⟩
theorem an8(l:List UInt8):(⟨l.toArray⟩:ByteArray).toList=l:=by
 rw[ByteArray.toList_eq]
def ltS(a b:A7):Bool:=Op.bytesLess a.b b.b
theorem bf0(a b:A7):(a.b==b.b)=decide (a=b):=by
 refine dD8.2 ?_;rw[beq_iff_eq,decide_eq_true_iff];cases a;cases b;simp
section
variable {P:Program} {t:TypeId}
theorem bY2{a b:A7}:B6 P .eql t (o9 a) (o9 b)=some (.bool (decide (a=b))):=by
 simp only[o9,B6,an8,bf0]
theorem cG1{a b:A7}:B6 P .neq t (o9 a) (o9 b)=some (.bool (!decide (a=b))):=by
 simp only[o9,B6,an8,bf0]
theorem di0{a b:A7}:B6 P .lss t (o9 a) (o9 b)=some (.bool (ltS a b)):=by
 simp only[o9,B6,an8,ltS]
theorem cG0{a b:A7}:B6 P .gtr t (o9 a) (o9 b)=some (.bool !(ltS a b||decide (a=b))):=by
 simp only[o9,B6,an8,ltS,bf0]
theorem cZ9{s:A7}(h:bC4 P t=true)(he:K7 P t=none):P9 P t (o9 s)=some (.int .i64 (s.b.length:Nat)):=by
 simp only[P9,he,Option.isSome_none,dx4,dy5,o9,h,dx1];rfl
end
def bm6(h:Hp)(v:Value)(n:Nat)(E:List Value→Prop):Prop:=∃a m c es,v = .slice a m c∧m=n∧m≤c∧E es∧∀j u,es[j]?=some u→∃ad,a=some ad∧I5 h (ad.add j)=some u
theorem aM7{h k:Hp}(hk:B5 h k){v:Value}{n:Nat}{E F:List Value→Prop}(hE:∀es,E es→F es):bm6 h v n E→bm6 k v n F:=by
 rintro⟨a,m,c,es,e1,e2,e3,e4,e5⟩;refine⟨a,m,c,es,e1,e2,e3,hE _ e4,fun j u hj=>?_⟩;obtain⟨ad,h1,h2⟩:=e5 j u hj;exact⟨ad,h1,F6 hk h2⟩
theorem aW7{h:Hp}{v:Value}{n:Nat}{E:List Value→Prop}:bm6 h v n E→v.oneCell'=true:=by
 rintro⟨a,m,c,es,rfl,_⟩;rfl
theorem bX6{α:Type}[A3 α]{h:Hp}{v:Value}{xs:List α}:R h v xs↔bm6 h v xs.length (fun es=>N1 h es xs):=by
 constructor
 ·rintro⟨a,n,c,e,h1,h2,es,h3,h4⟩;simp only[dD9,and_true]at e;exact⟨a,n,c,es,e,h1,h2,h3,h4⟩
 ·rintro⟨a,n,c,es,rfl,h1,h2,h3,h4⟩;exact⟨a,n,c,rfl,h1,h2,es,h3,h4⟩
structure bf4 (α:Type) where
 n:Nat
 pos:0<n
 cells:α→List Value
 len:∀x,(cells x).length=n
 one:∀x,∀v∈cells x,v.oneCell'=true
abbrev bf4.rep{α:Type}(F:bf4 α):A3 α where
 sz:=F.n
 pos:=F.pos
 enc _ cs x:=cs=F.cells x
 len h:=by rw[h];exact F.len _
 mono _ h:=h
 one h:=by intro v hv;rw[h]at hv;exact F.one _ v hv
structure Pa where
 name:A7
 ref:Bool
 deriving DecidableEq
def Pa.cells(p:Pa):List Value:=[o9 p.name,.bool p.ref]
instance:A3 Pa:=bf4.rep ⟨2,by omega,Pa.cells,fun _=>rfl,fun x v hv=>by simp[Pa.cells]at hv;rcases hv with rfl|rfl<;>rfl⟩
structure Sp where
 src:Int
 dst:Int
 kind:Int
 deriving DecidableEq
def Sp.cells(p:Sp):List Value:=[.int .i64 p.src,.int .i64 p.dst,.int .i64 p.kind]
instance:A3 Sp:=bf4.rep ⟨3,by omega,Sp.cells,fun _=>rfl,fun x v hv=>by simp[Sp.cells]at hv;rcases hv with rfl|rfl|rfl<;>rfl⟩
structure Fw where
 src:Int
 dst:Int
 var:A7
 deriving DecidableEq
def Fw.cells(p:Fw):List Value:=[.int .i64 p.src,.int .i64 p.dst,o9 p.var]
instance:A3 Fw:=bf4.rep ⟨3,by omega,Fw.cells,fun _=>rfl,fun x v hv=>by simp[Fw.cells]at hv;rcases hv with rfl|rfl|rfl<;>rfl⟩
structure Vx where
 proc:A7
 kind:Int
 id:Int
 slot:A7
 deriving DecidableEq
def Vx.cells(p:Vx):List Value:=[o9 p.proc,.int .i64 p.kind,.int .i64 p.id,o9 p.slot]
instance:A3 Vx:=bf4.rep ⟨4,by omega,Vx.cells,fun _=>rfl,fun x v hv=>by simp[Vx.cells]at hv;rcases hv with rfl|rfl|rfl|rfl<;>rfl⟩
structure Eg where
 src:Vx
 dst:Vx
 kind:Int
 deriving DecidableEq
def Eg.cells(p:Eg):List Value:=p.src.cells++p.dst.cells++[.int .i64 p.kind]
instance:A3 Eg:=bf4.rep ⟨9,by omega,Eg.cells,fun _=>rfl,fun x v hv=>by simp[Eg.cells,Vx.cells]at hv;rcases hv with rfl|rfl|rfl|rfl|rfl|rfl|rfl|rfl|rfl<;>rfl⟩
inductive Ex where
 | mk (op n:Int) (name:A7) (kids:List Ex)
namespace Ex
def op:Ex→Int | .mk a _ _ _=>a
def n:Ex→Int | .mk _ a _ _=>a
def name:Ex→A7 | .mk _ _ a _=>a
def kids:Ex→List Ex | .mk _ _ _ a=>a
end Ex
mutual
def aO4(h:Hp):Ex→List Value→Prop
 | .mk op n name kids,cs=>∃vk,cs=[.int .i64 op,.int .i64 n,o9 name,vk]∧bm6 h vk kids.length (as8 h kids)
def as8(h:Hp):List Ex→List Value→Prop
 | [],cs=>cs=[]
 | x::xs,cs=>∃c1 c2,cs=c1++c2∧aO4 h x c1∧as8 h xs c2
end
mutual
theorem bh1{h k:Hp}(hk:B5 h k):∀(x:Ex) (cs:List Value),aO4 h x cs→aO4 k x cs
 | .mk op n name kids,cs,e=>by
  simp only[aO4]at *;obtain⟨vk,e1,e2⟩:=e;exact⟨vk,e1,aM7 hk (fun es=>aZ3 hk kids es) e2⟩
theorem aZ3{h k:Hp}(hk:B5 h k):∀(x:List Ex) (cs:List Value),as8 h x cs→as8 k x cs
 | [],cs,e=>by simpa only[as8]using e
 | x::xs,cs,e=>by
  simp only[as8]at *;obtain⟨c1,c2,e1,e2,e3⟩:=e;exact⟨c1,c2,e1,bh1 hk x c1 e2,aZ3 hk xs c2 e3⟩
end
instance:A3 Ex where
 sz:=4
 pos:=by omega
 enc h cs x:=aO4 h x cs
 len:=by
  rintro h cs ⟨op,n,name,kids⟩ e;simp only[aO4]at e;obtain⟨vk,rfl,_⟩:=e;rfl
 mono hk:=bh1 hk _ _
 one:=by
  rintro h cs ⟨op,n,name,kids⟩ e v hv;simp only[aO4]at e;obtain⟨vk,rfl,h2⟩:=e;simp only[dt1,dw3,dC5]at hv;rcases hv with rfl|rfl|rfl|rfl
  ·rfl
  ·rfl
  ·rfl
  ·exact aW7 h2
theorem bh2{h:Hp}:∀(xs:List Ex) (es:List Value),as8 h xs es↔N1 h es xs
 | [],es=>by simp only[as8,N1]
 | x::xs,es=>by
  simp only[as8,N1,bh2 xs];exact dy2
theorem bh4{h:Hp}{cs:List Value}{x:Ex}:A3.enc h cs x↔∃vk,cs=[.int .i64 x.op,.int .i64 x.n,o9 x.name,vk]∧R h vk x.kids:=by
 obtain⟨op,n,name,kids⟩:=x;show aO4 h _ cs↔_;simp only[aO4,bX6,Ex.op,Ex.n,Ex.name,Ex.kids];have:as8 h kids=fun es=>N1 h es kids:=by funext es;exact propext (bh2 kids es)
 rw[this]
structure Ar where
 ref:Bool
 name:A7
 x:Ex
instance:A3 Ar where
 sz:=6
 pos:=by omega
 enc h cs a:=∃c,cs = .bool a.ref::o9 a.name::c∧A3.enc h c a.x
 len:=by rintro h cs a ⟨c,rfl,h2⟩;have:=A3.len h2;simp[this];rfl
 mono:=by rintro h k cs a hk ⟨c,rfl,h2⟩;exact⟨c,rfl,A3.mono hk h2⟩
 one:=by
  rintro h cs a ⟨c,rfl,h2⟩ v hv;simp only[dt1]at hv;rcases hv with rfl|rfl|hv
  ·rfl
  ·rfl
  ·exact A3.one h2 v hv
inductive St where
 | mk (id kind:Int) (labels:List A7) (name proc:A7) (x:Ex) (has:Bool) (args:List Ar) (thn els:List St)
namespace St
def id:St→Int | .mk a _ _ _ _ _ _ _ _ _=>a
def kind:St→Int | .mk _ a _ _ _ _ _ _ _ _=>a
def labels:St→List A7 | .mk _ _ a _ _ _ _ _ _ _=>a
def name:St→A7 | .mk _ _ _ a _ _ _ _ _ _=>a
def proc:St→A7 | .mk _ _ _ _ a _ _ _ _ _=>a
def x:St→Ex | .mk _ _ _ _ _ a _ _ _ _=>a
def has:St→Bool | .mk _ _ _ _ _ _ a _ _ _=>a
def args:St→List Ar | .mk _ _ _ _ _ _ _ a _ _=>a
def thn:St→List St | .mk _ _ _ _ _ _ _ _ a _=>a
def els:St→List St | .mk _ _ _ _ _ _ _ _ _ a=>a
end St
mutual
def aO5(h:Hp):St→List Value→Prop
 | .mk id kind labels name proc x has args thn els,cs=>∃vl cx va vt ve,cs = .int .i64 id :: .int .i64 kind::vl::o9 name::o9 proc::cx++[.bool has,va,vt,ve] ∧
   R h vl labels∧A3.enc h cx x∧R h va args∧bm6 h vt thn.length (aj7 h thn)∧bm6 h ve els.length (aj7 h els)
def aj7(h:Hp):List St→List Value→Prop
 | [],cs=>cs=[]
 | x::xs,cs=>∃c1 c2,cs=c1++c2∧aO5 h x c1∧aj7 h xs c2
end
mutual
theorem bh3{h k:Hp}(hk:B5 h k):∀(x:St) (cs:List Value),aO5 h x cs→aO5 k x cs
 | .mk id kind labels name proc x has args thn els,cs,e=>by
  simp only[aO5]at *;obtain⟨vl,cx,va,vt,ve,e1,e2,e3,e4,e5,e6⟩:=e;exact⟨vl,cx,va,vt,ve,e1,A3.mono hk e2,A3.mono hk e3,A3.mono hk e4,aM7 hk (fun es=>aC8 hk thn es) e5,aM7 hk (fun es=>aC8 hk els es) e6⟩
theorem aC8{h k:Hp}(hk:B5 h k):∀(x:List St) (cs:List Value),aj7 h x cs→aj7 k x cs
 | [],cs,e=>by simpa only[aj7]using e
 | x::xs,cs,e=>by
  simp only[aj7]at *;obtain⟨c1,c2,e1,e2,e3⟩:=e;exact⟨c1,c2,e1,bh3 hk x c1 e2,aC8 hk xs c2 e3⟩
end
theorem X8{α:Type}[A3 α]{h:Hp}{v:Value}{xs:α}(hr:R h v xs):v.oneCell'=true:=A3.one hr v (by simp)
instance:A3 St where
 sz:=13
 pos:=by omega
 enc h cs x:=aO5 h x cs
 len:=by
  rintro h cs ⟨id,kind,labels,name,proc,x,has,args,thn,els⟩ e;simp only[aO5]at e;obtain⟨vl,cx,va,vt,ve,rfl,h2,h3,_⟩:=e;have h4:cx.length=4:=A3.len h3;simp[h4]
 mono hk:=bh3 hk _ _
 one:=by
  rintro h cs ⟨id,kind,labels,name,proc,x,has,args,thn,els⟩ e v hv;simp only[aO5]at e;obtain⟨vl,cx,va,vt,ve,rfl,h2,h3,h4,h5,h6⟩:=e;simp only[dC0,dt1,ds4,dw3,dC5]at hv;rcases hv with rfl|rfl|rfl|rfl|rfl|hv|rfl|rfl|rfl|rfl
  ·rfl
  ·rfl
  ·exact X8 h2
  ·rfl
  ·rfl
  ·exact A3.one h3 v hv
  ·rfl
  ·exact X8 h4
  ·exact aW7 h5
  ·exact aW7 h6
theorem aL9{h:Hp}:∀(xs:List St) (es:List Value),aj7 h xs es↔N1 h es xs
 | [],es=>by simp only[aj7,N1]
 | x::xs,es=>by
  simp only[aj7,N1,aL9 xs];exact dy2
theorem aU4{h:Hp}{cs:List Value}{s:St}:A3.enc h cs s↔∃vl cx va vt ve,cs = .int .i64 s.id :: .int .i64 s.kind::vl::o9 s.name::o9 s.proc::cx++[.bool s.has,va,vt,ve] ∧
   R h vl s.labels∧A3.enc h cx s.x∧R h va s.args∧R h vt s.thn∧R h ve s.els:=by
 obtain⟨id,kind,labels,name,proc,x,has,args,thn,els⟩:=s;show aO5 h _ cs↔_;have h1:aj7 h thn=fun es=>N1 h es thn:=by funext es;exact propext (aL9 thn es)
 have h2:aj7 h els=fun es=>N1 h es els:=by funext es;exact propext (aL9 els es)
 simp only[aO5,bX6,h1,h2,St.id,St.kind,St.labels,St.name,St.proc,St.x,St.has,St.args,St.thn,St.els]
structure Pr where
 name:A7
 params:List Pa
 vars:List A7
 body:List St
 fin:List A7
instance:A3 Pr where
 sz:=5
 pos:=by omega
 enc h cs p:=∃v1 v2 v3 v4,cs=[o9 p.name,v1,v2,v3,v4]∧R h v1 p.params∧R h v2 p.vars∧R h v3 p.body∧R h v4 p.fin
 len:=by rintro h cs a ⟨v1,v2,v3,v4,rfl,_⟩;rfl
 mono:=by rintro h k cs a hk ⟨v1,v2,v3,v4,rfl,h1,h2,h3,h4⟩;exact⟨v1,v2,v3,v4,rfl,A3.mono hk h1,A3.mono hk h2,A3.mono hk h3,A3.mono hk h4⟩
 one:=by
  rintro h cs a ⟨v1,v2,v3,v4,rfl,h1,h2,h3,h4⟩ v hv;simp only[dt1,dw3,dC5]at hv;rcases hv with rfl|rfl|rfl|rfl|rfl
  ·rfl
  ·exact X8 h1
  ·exact X8 h2
  ·exact X8 h3
  ·exact X8 h4
structure Pg where
 globals:List A7
 procs:List Pr
instance:A3 Pg where
 sz:=2
 pos:=by omega
 enc h cs p:=∃v1 v2,cs=[v1,v2]∧R h v1 p.globals∧R h v2 p.procs
 len:=by rintro h cs a ⟨v1,v2,rfl,_⟩;rfl
 mono:=by rintro h k cs a hk ⟨v1,v2,rfl,h1,h2⟩;exact⟨v1,v2,rfl,A3.mono hk h1,A3.mono hk h2⟩
 one:=by
  rintro h cs a ⟨v1,v2,rfl,h1,h2⟩ v hv;simp only[dt1,dw3,dC5]at hv;rcases hv with rfl|rfl
  ·exact X8 h1
  ·exact X8 h2
structure It where
 s:St
 proc:Int
 up:Int
 next:Int
 loop:Int
instance:A3 It where
 sz:=17
 pos:=by omega
 enc h cs p:=∃c,cs=c++[.int .i64 p.proc,.int .i64 p.up,.int .i64 p.next,.int .i64 p.loop]∧A3.enc h c p.s
 len:=by rintro h cs a ⟨c,rfl,h1⟩;have h4:c.length=13:=A3.len h1;simp[h4]
 mono:=by rintro h k cs a hk ⟨c,rfl,h1⟩;exact⟨c,rfl,A3.mono hk h1⟩
 one:=by
  rintro h cs a ⟨c,rfl,h1⟩ v hv;simp only[ds4,dt1,dw3,dC5]at hv;rcases hv with hv|rfl|rfl|rfl|rfl
  ·exact A3.one h1 v hv
  all_goals rfl
structure Sh where
 p:Pg
 l:List It
 lo:List Int
 hi:List Int
instance:A3 Sh where
 sz:=5
 pos:=by omega
 enc h cs p:=∃c v1 v2 v3,cs=c++[v1,v2,v3]∧A3.enc h c p.p∧R h v1 p.l∧R h v2 p.lo∧R h v3 p.hi
 len:=by rintro h cs a ⟨c,v1,v2,v3,rfl,h1,_⟩;have h4:c.length=2:=A3.len h1;simp[h4]
 mono:=by rintro h k cs a hk ⟨c,v1,v2,v3,rfl,h0,h1,h2,h3⟩;exact⟨c,v1,v2,v3,rfl,A3.mono hk h0,A3.mono hk h1,A3.mono hk h2,A3.mono hk h3⟩
 one:=by
  rintro h cs a ⟨c,v1,v2,v3,rfl,h0,h1,h2,h3⟩ v hv;simp only[ds4,dt1,dw3,dC5]at hv;rcases hv with hv|rfl|rfl|rfl
  ·exact A3.one h0 v hv
  ·exact X8 h1
  ·exact X8 h2
  ·exact X8 h3
def SV{α:Type}[A3 α](h:Hp)(v:Value)(x:α):Prop:=∃cs,v = .agg (List.toArray cs)∧A3.enc h cs x
section
variable {α:Type} [A3 α] {h k:Hp} {v:Value} {x:α} {P:Program} {t T:TypeId} {w:World}
theorem SV.mono(hk:B5 h k):SV h v x→SV k v x:=fun⟨cs,e,h1⟩=>⟨cs,e,A3.mono hk h1⟩
theorem SV.enc:SV h v x→A3.enc h v.cells.toList x:=by
 rintro⟨cs,rfl,h1⟩;simpa[Value.cells]using h1
theorem E4{xs:List α}(hr:R h v xs)(hw:B5 h (i4 w)){k:Nat}(hk:xs[k]?=some x)(ht:H6 P t=true)(hu:(P.underlying t).isSome=true)(hi:(P.info? t).isSome=true)(hs:K1 P t=A3.sz α):
  ∃sv,SV h sv x∧(Instr.loadAt t (.pointer (some (H2 v (k*K1 P t))))).run P w = .ok sv w:=by
 obtain⟨_,es,he,hc⟩:=hr.get hk;refine⟨.agg (List.toArray es),⟨es,rfl,he⟩,?_⟩;rw[hs];exact bj8 (cs:=es) ht hu hi (by rw[hs,A3.len he]) fun j u hj=>F6 hw (hc j u hj)
end
abbrev N4(P:Program)(w:World)(t:TypeId)(a:Addr)(v:Value):Prop:=(Instr.loadAt t (.pointer (some a))).run P w = .ok v w
abbrev N5(P:Program)(S:World→Prop)(t:TypeId)(a:Addr)(v:Value):Prop:=∀K f d w,I1 P S (Instr.loadAt t (.pointer (some a))) K f d w=K (C4 f d v) w
def At{α:Type}[A3 α](h:Hp)(a:Addr)(x:α):Prop:=∃es,A3.enc h es x∧∀j u,es[j]?=some u→I5 h (a.add j)=some u
section
variable {α:Type} [A3 α] {h k:Hp} {v:Value} {x:α} {P:Program} {t T:TypeId} {w:World} {a:Addr}
theorem At.mono(hk:B5 h k):At h a x→At k a x:=fun⟨es,h1,h2⟩=>⟨es,A3.mono hk h1,fun j u hj=>F6 hk (h2 j u hj)⟩
theorem R.at_{xs:List α}(hr:R h v xs){i:Nat}(hi:xs[i]?=some x):At h (H2 v (i*A3.sz α)) x:=(hr.get hi).2
theorem Ptr.at_{p:Ptr α}(hp:R h v p):∃a,v = .pointer (some a)∧At h a p.to:=by
 obtain⟨a,es,e,h1,h2⟩:=hp;simp only[dD9,and_true]at e;exact⟨a,e,es,h1,h2⟩
theorem At.ptr(ha:At h a x):R h (.pointer (some a)) (⟨x⟩:Ptr α):=by
 obtain⟨es,h1,h2⟩:=ha;exact⟨a,es,rfl,h1,h2⟩
theorem At.sv(ha:At h a x)(ht:H6 P t=true)(hu:(P.underlying t).isSome=true)(hi:(P.info? t).isSome=true)(hs:K1 P t=A3.sz α):
  ∃sv,SV h sv x∧∀w,B5 h (i4 w)→(Instr.loadAt t (.pointer (some a))).run P w = .ok sv w:=by
 obtain⟨es,he,hc⟩:=ha;exact⟨.agg (List.toArray es),⟨es,rfl,he⟩,fun w hw=>bj8 (cs:=es) ht hu hi (by rw[hs,A3.len he]) fun j u hj=>F6 hw (hc j u hj)⟩
theorem v8{es:List Value}(hc:∀j u,es[j]?=some u→I5 h (a.add j)=some u){o:Nat}{u:Value}(ho:es[o]?=some u)(ht:H6 P t=false):
  ∀w,B5 h (i4 w)→(Instr.loadAt t (.pointer (some (a.add o)))).run P w = .ok u w:=fun w hw=>R8 ht (F6 hw (hc o u ho))
theorem bd9{β:Type}[A3 β]{y:β}{es c:List Value}(hc:∀j u,es[j]?=some u→I5 h (a.add j)=some u){o:Nat}(hy:A3.enc h c y)(hp:∀j u,c[j]?=some u→es[o+j]?=some u):At h (a.add o) y:=
 ⟨c,hy,fun j u hj=>by rw[Addr.add_add'];exact hc _ _ (hp j u hj)⟩
theorem E0{es:List Value}(hc:∀j u,es[j]?=some u→I5 h (a.add j)=some u){u:Value}(ho:es[0]?=some u)(ht:H6 P t=false):
  ∀w,B5 h (i4 w)→(Instr.loadAt t (.pointer (some a))).run P w = .ok u w:=fun w hw=>by
 have:=v8 (P:=P) (t:=t) hc ho ht w hw
 rwa [K0]at this
theorem aO2{β:Type}[A3 β]{y:β}{es c:List Value}(hc:∀j u,es[j]?=some u→I5 h (a.add j)=some u)(hy:A3.enc h c y)(hp:∀j u,c[j]?=some u→es[0+j]?=some u):At h a y:=by
 have:=bd9 hc hy hp
 rwa [K0]at this
theorem D5{S:World→Prop}{s:Sem Value}{u:Value}{K:Fr→World→Prop}{f:Fr}{d:Option Nat}{w0:World}(hS:S w0)(h:∀w',S w'→s.run P w' = .ok u w'):I1 P S s K f d w=K (C4 f d u) w:=by
 refine propext ⟨?_,fun hk=>⟨u,h,hk⟩⟩;rintro⟨v,hv,hk⟩;have:=(hv w0 hS).symm.trans (h w0 hS);simp only[Result.ok.injEq,and_true]at this;rw[←this];exact hk
theorem R4{S:World→Prop}{t:TypeId}{a:Addr}{v:Value}{w0:World}(hS:S w0)(h:∀w',S w'→N4 P w' t a v):N5 P S t a v:=fun _ _ _ _=>D5 hS h
theorem At.sv2(ha:At h a x)(ht:H6 P t=true)(hu:(P.underlying t).isSome=true)(hi:(P.info? t).isSome=true)(hs:K1 P t=A3.sz α):
  ∃sv,SV h sv x∧(∀w,B5 h (i4 w)→(Instr.loadAt t (.pointer (some a))).run P w = .ok sv w)∧(∀(S:World→Prop) (w0:World),S w0→(∀w,S w→B5 h (i4 w))→∀K f d w,I1 P S (Instr.loadAt t (.pointer (some a))) K f d w=K (C4 f d sv) w):=by
 obtain⟨sv,h1,h2⟩:=ha.sv (P:=P) (t:=t) ht hu hi hs;exact⟨sv,h1,h2,fun S w0 hS hw K f d w=>D5 hS fun w' hw'=>h2 w' (hw w' hw')⟩
theorem by6(hv:SV h v x)(hw:B5 h (i4 w)):∃a w',(Instr.box T v).run P w = .ok (.pointer (some a)) w'∧o7 w w'∧At (i4 w') a x:=by
 obtain⟨cs,rfl,he⟩:=hv;have hx:=o7.alloc w (.cells (List.toArray cs) T);refine⟨⟨w.heap.size,0,none⟩,w.alloc (.cells (List.toArray cs) T),rfl,hx,cs,A3.mono (p9 hw (b7 hx)) he,fun j u hj=>?_⟩;rw[←al4,add_lit,du4,dC7];simpa using hj
theorem bo0(hv:SV h v x)(hw:B5 h (i4 w)){z:Value}(hz:G0 P T=some z)(hsz:z.cells.size=K1 P T)(hs:K1 P T=A3.sz α):
  ∃a wz w',(Instr.alloc T true (.tuple #[])).run P w = .ok (.pointer (some a)) wz∧(Instr.storeAt T (.pointer (some a)) v).run P wz = .ok () w'∧o7 w w'∧At (i4 w') a x:=by
 obtain⟨cs,rfl,he⟩:=hv;obtain⟨h1,h2⟩:=aJ7 (P:=P) (w:=w) (T:=T) hz hsz (cs:=List.toArray cs) (by simpa[hs]using A3.len he) (by simpa using A3.one he);have hx:=o7.alloc w (.cells (List.toArray cs) T);refine⟨_,_,_,h1,h2,hx,cs,A3.mono (p9 hw (b7 hx)) he,fun j u hj=>?_⟩;rw[←al4,add_lit,du4,dC7];simpa using hj
end
def dB3:=@Classical.byContradiction
def dE3:=@List.any_eq_true
def dB1:=@List.getElem?_replicate
def dz2:=@List.getElem?_set_ne
def dw5:=@List.mem_iff_getElem
def dw8:=@Option.getD_some
def ds7:=@congrArg
abbrev W:=BitVec 64
instance:I8 W:=⟨fun x=>.int .u64 (x.toNat:Nat),fun _=>rfl⟩
section
variable {P:Program} {t:TypeId}
theorem bn9(n:Nat)(h:n<18446744073709551616):IntKind.u64.wrap (n:Int)=(n:Int):=by
 have:IntKind.u64.wrap (n:Int)=IntKind.u64.wrap (n:Int):=rfl;unfold IntKind.wrap;simp[IntKind.bits,IntKind.signed];omega
theorem bA9(x:W):BitVec.ofInt IntKind.u64.bits ((x.toNat:Nat):Int)=x:=by
 show BitVec.ofInt 64 ((x.toNat:Nat):Int)=x;rw[BitVec.ofInt_natCast,BitVec.ofNat_toNat];simp
theorem by8(f:Nat)(hf:f<1000000000000):B6 P .quo t (.int .i64 f) (.int .i64 64)=some (.int .i64 ((f / 64:Nat):Int)):=by
 have h1:(f:Int).tdiv 64=((f / 64:Nat):Int):=by rfl
 simp only[B6,E5,dx1,h1];rw[if_neg (by decide),IntWalk.i64_in _ (by omega)]
theorem cs4(f:Nat):B6 P .rem t (.int .i64 f) (.int .i64 64)=some (.int .i64 ((f % 64:Nat):Int)):=by
 have h1:(f:Int).tmod 64=((f % 64:Nat):Int):=by rfl
 simp only[B6,E5,dx1,h1];rw[if_neg (by decide)]
theorem cs5(x:W)(k:Nat)(hk:k<64):B6 P .shr t (.int .u64 ((x.toNat:Nat):Int)) (.int .i64 k)=some (.int .u64 (((x >>> k).toNat:Nat):Int)):=by
 simp only[B6];rw[if_neg (by omega)];have h1:min ((k:Int).toNat) IntKind.u64.bits=k:=by
  show min ((k:Int).toNat) 64=k;omega
 rw[h1,BitVec.toNat_ushiftRight,Nat.shiftRight_eq_div_pow];have h2:((x.toNat:Nat):Int).fdiv (2 ^ k)=((x.toNat / 2 ^ k:Nat):Int):=by
  rw[Int.fdiv_eq_ediv_of_nonneg _ (by exact Int.le_of_lt (Int.pow_pos (by decide)))];simp
 rw[h2]
theorem cs1(x:W)(k:Nat):B6 P .and t (.int .u64 (((x >>> k).toNat:Nat):Int)) (.int .u64 1)=some (.int .u64 (if x.getLsbD k then 1 else 0)):=by
 have h1:BitVec.ofInt IntKind.u64.bits 1=(1#64:W):=rfl;simp only[B6,E5,dx1,bA9,h1];have h2:((x >>> k) &&& 1#64:W)=if x.getLsbD k then 1#64 else 0#64:=by
  apply BitVec.eq_of_getLsbD_eq;intro i hi;rw[BitVec.getLsbD_and,BitVec.getLsbD_ushiftRight];by_cases h0:i=0
  ·subst h0;cases hx:x.getLsbD k<;>simp[]
  ·have:(1#64:W).getLsbD i=false:=by
    rw[BitVec.getLsbD_one];simp[h0]
   rw[this,Bool.and_false];split
   ·exact this.symm
   ·simp
 show some (Value.int .u64 (IntKind.u64.wrap ((((x >>> k) &&& 1#64:W).toNat:Nat):Int)))=_;rw[h2];cases x.getLsbD k<;>rfl
theorem cR3(b:Bool):B6 P .eql t (.int .u64 (if b then 1 else 0)) (.int .u64 0)=some (.bool (!b)):=by
 cases b<;>rfl
theorem cR4(b:Bool):B6 P .eql t (.int .u64 (if b then 1 else 0)) (.int .u64 1)=some (.bool b):=by
 cases b<;>rfl
theorem cR6(k:Nat)(hk:k<64):B6 P .shl t (.int .u64 1) (.int .i64 k)=some (.int .u64 (((1#64 <<< k:W).toNat:Nat):Int)):=by
 simp only[B6];rw[if_neg (by omega)];have h1:min ((k:Int).toNat) IntKind.u64.bits=k:=by
  show min ((k:Int).toNat) 64=k;omega
 rw[h1];have h2:(1:Int)*2 ^ k=((2 ^ k:Nat):Int):=by simp
 have h3:2 ^ k<18446744073709551616:=by
  have:(2:Nat) ^ k<2 ^ 64:=Nat.pow_lt_pow_right (by decide) hk;simpa using this
 have h5:(1#64 <<< k:W).toNat=2 ^ k:=by
  rw[BitVec.toNat_shiftLeft,Nat.shiftLeft_eq];show(1*2 ^ k) % 2 ^ 64=2 ^ k;rw[Nat.one_mul];exact Nat.mod_eq_of_lt (Nat.pow_lt_pow_right (by decide) hk)
 rw[h2,bn9 _ h3,h5]
theorem cs3(x y:W):B6 P .or t (.int .u64 ((x.toNat:Nat):Int)) (.int .u64 ((y.toNat:Nat):Int))=some (.int .u64 (((x ||| y).toNat:Nat):Int)):=by
 simp only[B6,E5,dx1,bA9];rw[bn9 _ (by exact(x ||| y).isLt)];rfl
theorem br8(x y:W):B6 P .andNot t (.int .u64 ((x.toNat:Nat):Int)) (.int .u64 ((y.toNat:Nat):Int))=some (.int .u64 (((x &&& ~~~y).toNat:Nat):Int)):=by
 simp only[B6,E5,dx1,bA9];rw[bn9 _ (by exact(x &&& ~~~y).isLt)];rfl
theorem cR5(x:W):B6 P .neq t (.int .u64 ((x.toNat:Nat):Int)) (.int .u64 0)=some (.bool (x != 0#64)):=by
 simp only[B6,E5,dx1]
 congr 2
 rw[dD8];simp only[bne_iff_ne,ne_eq];constructor
 ·intro h e;subst e;exact h rfl
 ·intro h e;apply h;apply BitVec.eq_of_toNat_eq;simpa using e
end
theorem dm6{K:Fr→World→Prop}{f:Fr}{d:Option Nat}{w:World}{v:Value}{D:Prop}:ax8 (some v) K f d w D=K (C4 f d v) w:=propext dy2
def O1(ws:List W)(f:Nat):Bool:=(ws.getD (f / 64) 0#64).getLsbD (f % 64)
def cm8(ws:List W)(f:Nat):List W:=ws.set (f / 64) (ws.getD (f / 64) 0#64 ||| (1#64 <<< (f % 64)))
theorem cv5{ws:List W}{f:Nat}(hf:f / 64<ws.length)(g:Nat):O1 (cm8 ws f) g=(decide (g=f)||O1 ws g):=by
 unfold O1 cm8;by_cases hd:g / 64=f / 64
 ·have h1:(ws.set (f / 64) (ws.getD (f / 64) 0#64 ||| (1#64 <<< (f % 64)))).getD (g / 64) 0#64=ws.getD (f / 64) 0#64 ||| (1#64 <<< (f % 64)):=by
   rw[hd];simp[List.getD,hf]
  rw[h1,BitVec.getLsbD_or,hd];have h2:(1#64 <<< (f % 64):W).getLsbD (g % 64)=decide (g=f):=by
   rw[BitVec.getLsbD_shiftLeft,BitVec.getLsbD_one];rw[dD8];simp;omega
  rw[h2,Bool.or_comm]
 ·have h1:(ws.set (f / 64) (ws.getD (f / 64) 0#64 ||| (1#64 <<< (f % 64)))).getD (g / 64) 0#64=ws.getD (g / 64) 0#64:=by
   simp only[List.getD];rw[dz2 (fun e=>hd e.symm)]
  have h3:g≠f:=fun e=>hd (by rw[e]);rw[h1];simp[h3]
theorem bH2{n f:Nat}:O1 (List.replicate n 0#64) f=false:=by
 unfold O1;have:(List.replicate n (0#64:W)).getD (f / 64) 0#64=0#64:=by
  simp only[List.getD,dB1];split<;>rfl
 rw[this];simp
theorem cz3(ws:List W)(f:Nat):(cm8 ws f).length=ws.length:=by simp[cm8]
def orB(b c:List W):List W:=List.zipWith (· ||| ·) b c
def ae9(b c:List W):Bool:=(List.zipWith (fun x y=>(y &&& ~~~x:W) != 0#64) b c).any id
theorem cu6{α:Type}(g:W→W→α)(d:α)(hd:g 0#64 0#64=d){b c:List W}(hl:b.length=c.length)(i:Nat):(List.zipWith g b c).getD i d=g (b.getD i 0#64) (c.getD i 0#64):=by
 simp only[List.getD,List.getElem?_zipWith];by_cases hi:i<b.length
 ·rw[dq7 hi,dq7 (by omega)];rfl
 ·rw[dy9 (by omega),dy9 (by omega)];simp[hd]
theorem ax1{b c:List W}(hl:b.length=c.length)(f:Nat):O1 (orB b c) f=(O1 b f||O1 c f):=by
 unfold O1 orB;rw[cu6 (· ||| ·) 0#64 (by simp) hl,BitVec.getLsbD_or]
theorem bu8{b c:List W}(hl:b.length=c.length):ae9 b c=true↔∃f,O1 c f=true∧O1 b f=false:=by
 unfold ae9;rw[dE3];constructor
 ·rintro⟨x,hx,hx1⟩;simp only[id]at hx1;subst hx1;obtain⟨i,hi,e⟩:=dw5.1 hx;rw[List.getElem_zipWith]at e;simp only[List.length_zipWith]at hi;have hne:(c[i]'(by omega) &&& ~~~b[i]'(by omega):W)≠0#64:=by simpa using e
  have:∃k,k<64∧(c[i]'(by omega) &&& ~~~b[i]'(by omega):W).getLsbD k=true:=by
   refine dB3 fun hno=>hne ?_;apply BitVec.eq_of_getLsbD_eq;intro k hk;have h1:¬(c[i]'(by omega) &&& ~~~b[i]'(by omega):W).getLsbD k=true:=fun h2=>hno ⟨k,hk,h2⟩;simp only[Bool.not_eq_true]at h1;rw[h1];simp
  obtain⟨k,hk,hk2⟩:=this;rw[BitVec.getLsbD_and,BitVec.getLsbD_not]at hk2;have hd1:(i*64+k) / 64=i:=by omega
  have hd2:(i*64+k) % 64=k:=by omega
  simp only[dt0,du7,Bool.not_eq_true']at hk2;refine⟨i*64+k,?_,?_⟩
  ·unfold O1;rw[hd1,hd2];simp only[List.getD,dq7 (show i<c.length by omega),dw8];exact hk2.1
  ·unfold O1;rw[hd1,hd2];simp only[List.getD,dq7 (show i<b.length by omega),dw8];exact hk2.2.2
 ·rintro⟨f,h1,h2⟩;have hi:f / 64<c.length:=by
   refine dB3 fun hno=>?_;unfold O1 at h1;simp only[List.getD,dy9 (show c.length≤f / 64 by omega),Option.getD_none]at h1;simp at h1
  refine⟨true,?_,rfl⟩;refine dw5.2 ⟨f / 64,by simp;omega,?_⟩;rw[List.getElem_zipWith];simp only[bne_iff_ne,ne_eq];intro e;unfold O1 at h1 h2;simp only[List.getD,dq7 hi,dq7 (show f / 64<b.length by omega),dw8]at h1 h2;have:=ds7 (fun x:W=>x.getLsbD (f % 64)) e;simp only[BitVec.getLsbD_and,BitVec.getLsbD_not,h1,h2]at this;simp at this;omega
theorem bB6{b c:List W}(hl:b.length=c.length):(orB b c).length=b.length:=by simp[orB,hl]
def dy1:=@Bool.true_and
def bE5:Value→Option Bool
 | .bool b=>some b
 | _=>none
theorem di4{b:Bool}:bE5 (.bool b)=some b:=rfl
theorem di5:bE5 undef=none:=rfl
theorem cS0{ops:Array Oper}{f:Fr}{j:Nat}:aJ4 ops f j=match cv3 ops j with|some d=>bE5 (f d)|none=>none:=by
 unfold aJ4 cv3;cases(ops[j]?).bind (·.dst)with
 | none=>rfl
 | some d=>
  show(match f d with | .bool b=>some b|_=>none)=bE5 (f d);unfold bE5;cases f d<;>rfl
theorem do4{P:Program}{ops:Array Oper}{l:List Oper}{K:Fr→World→Prop}{f:Fr}{w:World}{d:Option Nat}{op:Op}{ty:TypeId}{pos:String}{aft:Array Edge}{j:Nat}{b:Bool}:
  Rn P ops (⟨d,op,ty,pos,aft,some (j,b)⟩::l) K f w =
   if aJ4 ops f j=some b then B1 P none ⟨d,op,ty,pos,aft,none⟩ (Rn P ops l K) f w else Rn P ops l K (C4 f d undef) w:=propext dy2
theorem dg7{P:Program}{Q:Exit→Fr→World→Prop}{f:Fr}{w:World}{id:Nat}{ops:Array Oper}:CW P (.region id ops false) Q f w=Rn P ops ops.toList (Q .normal) f w:=propext dy2
theorem dh2{P:Program}{ops:Array Oper}{K:Fr→World→Prop}{f:Fr}{w:World}:Rn P ops [] K f w=K f w:=propext dy2
theorem dk6{P:Program}{ops:Array Oper}{l:List Oper}{K:Fr→World→Prop}{f:Fr}{w:World}{d:Option Nat}{op:Op}{ty:TypeId}{pos:String}{aft:Array Edge}:
  Rn P ops (⟨d,op,ty,pos,aft,none⟩::l) K f w=B1 P none ⟨d,op,ty,pos,aft,none⟩ (Rn P ops l K) f w:=propext dy2
theorem dn4{K:Fr→World→Prop}{f:Fr}{d:Option Nat}{w:World}{v:Value}:ad7 (.ok v w) K f d=K (C4 f d v) w:=propext dy2
theorem dn5{K:Fr→World→Prop}{f:Fr}{d:Option Nat}{w:World}{v:Unit}:aW0 (.ok v w) K f d=K (C4 f d undef) w:=propext dy2
theorem aB4(h:Hp){α:Type}[A3 α]:R h (.slice none 0 0) ([]:List α):=⟨none,0,0,rfl,rfl,ds5 _,[],rfl,fun j u hj=>by simp at hj⟩
section
variable {P:Program} {t:TypeId}
theorem bn4(b:Array UInt8):(.string ⟨b⟩:Value)=o9 (ofA b):=by
 simp[o9,ofA]
theorem dh4{a:A7}{b:Array UInt8}:B6 P .eql t (o9 a) (.string ⟨b⟩)=some (.bool (decide (a=ofA b))):=by
 rw[bn4,bY2]
theorem di1{a:A7}{b:Array UInt8}:B6 P .neq t (o9 a) (.string ⟨b⟩)=some (.bool (!decide (a=ofA b))):=by
 rw[bn4,cG1]
def chr(s:A7)(i:Nat):Option UInt8:=s.b[i]?
theorem cR0(l:List UInt8)(i:Nat):(⟨l.toArray⟩:ByteArray)[i]?=l[i]?:=by
 by_cases h:i<l.length
 ·rw[getElem?_pos (⟨l.toArray⟩:ByteArray) i (by show i<l.toArray.size;simpa using h),ByteArray.getElem_eq_getElem_data];simp[h]
 ·rw[getElem?_neg (⟨l.toArray⟩:ByteArray) i (by show ¬i<l.toArray.size;simpa using h)];simp[h]
theorem cb0{s:A7}{k:IntKind}{i:Nat}{c:UInt8}(h:bC4 P t=true)(ha:bE3 P t=none)(hc:chr s i=some c):U6 P t (o9 s) (.int k (i:Int))=some (.int .u8 (c.toNat:Int)):=by
 have h2:(⟨s.b.toArray⟩:ByteArray)[i]?=some c:=(cR0 s.b i).trans hc;simp only[U6,ha,o9,h,dy1,dt5,h2,dx7,dl6,dx1]
theorem dl7{v:Value}(he:(K7 P t).isSome=true)(hs:isS v=true):P9 P t v=some (.int .i64 (vlen v:Nat)):=by
 simp only[P9,he,hs,dx1]
theorem dh9{a b:Int}:B6 P .lss t (.int .i64 a) (.int .i64 b)=some (.bool (decide (a<b))):=by simp[B6,E5]
theorem dh8{a b:Int}:B6 P .leq t (.int .i64 a) (.int .i64 b)=some (.bool (decide (a≤b))):=by simp[B6,E5]
theorem dh7{a b:Int}:B6 P .gtr t (.int .i64 a) (.int .i64 b)=some (.bool (decide (b<a))):=by simp[B6,E5]
theorem dh6{a b:Int}:B6 P .geq t (.int .i64 a) (.int .i64 b)=some (.bool (decide (b≤a))):=by simp[B6,E5]
theorem dh5{a b:Int}:B6 P .eql t (.int .i64 a) (.int .i64 b)=some (.bool (decide (a=b))):=by simp[B6,E5];rfl
theorem di2{a b:Int}:B6 P .neq t (.int .i64 a) (.int .i64 b)=some (.bool (!decide (a=b))):=by simp[B6,E5];rfl
theorem dh3{a b:Int}:B6 P .add t (.int .i64 a) (.int .i64 b)=some (.int .i64 (IntKind.i64.wrap (a+b))):=by simp[B6,E5]
theorem di3{a b:Int}:B6 P .sub t (.int .i64 a) (.int .i64 b)=some (.int .i64 (IntKind.i64.wrap (a-b))):=by simp[B6,E5]
theorem cX8{a b:Int}:B6 P .leq t (.int .u8 a) (.int .u8 b)=some (.bool (decide (a≤b))):=by simp[B6,E5]
theorem cX7{a b:Int}:B6 P .geq t (.int .u8 a) (.int .u8 b)=some (.bool (decide (b≤a))):=by simp[B6,E5]
theorem do1{b:Bool}:unV .not (.bool b)=some (.bool (!b)):=by simp[unV]
theorem bg2{a:Option Addr}{op:BinOp}(ho:op = .eql)(h:eqT P t=2):B6 P op t (.pointer a) (.pointer none)=some (.bool a.isNone):=by
 subst ho;simp[B6,h]
end
def dE1:=@Nat.le_of_not_lt
theorem be5{w:World}{b:Nat}(h:w.heap.size≤b):i4 w b=none:=by
 show w.heap[b]?=none;simp[h]
theorem D0{w:World}{b:Nat}(h:i4 w b=none):w.heap.size≤b:=dE1 fun hlt=>by simp[i4,hlt]at h
theorem W9{v:Value}(h:isS v=true):v.oneCell'=true:=by
 cases v<;>simp[isS]at h;rfl
theorem D8{v:Value}(h:isS v=true):v.cells=#[v]:=by
 cases v<;>simp[isS]at h;rfl
section
variable {P:Program} {h:Hp} {w:World} {t T:TypeId} {v:Value}
theorem E9{gb i:Nat}{cs:Array Value}{u:Value}(hh:w.heap[gb]?=some (.cells cs T (0,0)))(hu:cs[i]?=some u)(ht:H6 P t=false):(Instr.loadAt t (.pointer (some ⟨gb,i,none⟩))).run P w = .ok u w:=
 R8 ht (by rw[dy8 w gb i cs T (0,0) hh];exact hu)
theorem aj6{gb i:Nat}{cs:Array Value}{x:Value}(hh:w.heap[gb]?=some (.cells cs T (0,0)))(hi:i<cs.size)(hx:x.cells=#[x])(h1:x.oneCell'=true){inf:TypeInfo}(hinf:P.info? t=some inf)(hs:inf.size=1):
  ∃w',(Instr.storeAt t (.pointer (some ⟨gb,i,none⟩)) x).run P w = .ok () w'∧w'.heap[gb]?=some (.cells (cs.setIfInBounds i x) T (0,0))∧t8 (fun b=>b=gb) w w':=by
 have hcell:w.cell? ⟨gb,i,.none⟩=some cs[i]:=by rw[dy8 w gb i cs T (0,0) hh,dz9 hi]
 have hfr:w.frozen? ⟨gb,i,.none⟩=false:=frozen_of_row w gb i cs T hh;exact⟨_,aK5 (P:=P) (t:=t) hinf hs hx h1 hcell hfr,heap_setCell_same w gb i cs T x hh,t8.setCell _ _ _ rfl⟩
theorem Z7{gb:Nat}{cur cs:Array Value}(hh:w.heap[gb]?=some (.cells cur T (0,0))){z:Value}(hz:G0 P T=some z)(hcur:cur.size=K1 P T)(hc:cs.size=K1 P T)(h1:∀u∈cs.toList,u.oneCell'=true):
  ∃w',(Instr.storeAt T (.pointer (some ⟨gb,0,none⟩)) (.agg cs)).run P w = .ok () w'∧w'.heap[gb]?=some (.cells cs T (0,0))∧t8 (fun b=>b=gb) w w':=by
 obtain⟨i,hi,hiz⟩:=A0 hz;have hst:=run_storeCells_from (P:=P) gb T cs.toList 0 cur w hh (by simp[hc,hcur]) h1;simp only[dC6,dB0,Array.toArray_toList]at hst;refine⟨_,?_,setRow_heap w gb cur cs T (0,0) hh,t8.setRow _ _ _ rfl⟩;unfold Instr.storeAt storeVar;simp only[Instr.sureAddr,dt3,du6,ds6,sizeOf,N3,hi,Value.cells];rw[C5 hi]at hc;simp only[hc,ne_eq,not_true_eq_false,dy5];exact hst
theorem S9{gb:Nat}{cs:Array Value}(hh:w.heap[gb]?=some (.cells cs T (0,0)))(ht:H6 P T=true)(hu:(P.underlying T).isSome=true)(hi:(P.info? T).isSome=true)(hs:K1 P T=cs.size):
  (Instr.loadAt T (.pointer (some ⟨gb,0,none⟩))).run P w = .ok (.agg cs) w:=by
 have:=bj8 (P:=P) (w:=w) (a:=⟨gb,0,none⟩) (cs:=cs.toList) ht hu hi (by simpa using hs) fun j u hj=>by
  have ha:(⟨gb,0,.none⟩:Addr).add j=⟨gb,j,.none⟩:=by unfold Addr.add;split<;>simp_all
  rw[ha,dy8 w gb j cs T (0,0) hh];simpa using hj
 simpa using this
theorem L6{fn:Func}{R:Value→World→Prop}{f:Fr}{a:Nat}{ty:TypeId}{ad:Addr}(h:fn.results=#[.cell a ty])(hf:f a = .pointer (some ad))(hl:(Instr.loadAt ty (.pointer (some ad))).run P w = .ok v w)(hR:R v w):aJ3 P fn R .ret f w:=by
 refine⟨[v],?_,hR⟩;rw[h];refine⟨?_,trivial⟩;show(do loadVar ty (←asAddr (f a)):Sem Value).run P w = .ok v w;rw[hf];exact hl
theorem cv6{h:Hp}{w:World}{N:Nat→Prop}(hw:B5 h (i4 w))(hN:∀b,N b→h b=none):B5 h (B7 w N):=fun b o e=>by
 have hn:¬N b:=fun hb=>by rw[hN b hb]at e;cases e
 rw[D3 hn];exact hw b o e
theorem C8{w w':World}{N:Nat→Prop}(hm:t8 N w w'):B5 (B7 w N) (i4 w'):=H9 (B3 w N) hm fun b hb=>H3 hb
theorem bH3{w w':World}{N:Nat→Prop}(hm:t8 N w w')(hN:∀b,N b→b<w.heap.size):B5 (B7 w N) (B7 w' N):=G6 hm (fun b h=>h) fun b h=>.inl h
section
variable {α:Type} [A3 α] {x:α} {N:Nat→Prop}
theorem dg0(hv:SV h v x)(hw:B5 h (B7 w N))(hN:∀b,N b→b<w.heap.size){z:Value}(hz:G0 P T=some z)(hsz:z.cells.size=K1 P T)(hs:K1 P T=A3.sz α):
  ∃a wz w',(Instr.alloc T true (.tuple #[])).run P w = .ok (.pointer (some a)) wz∧(Instr.storeAt T (.pointer (some a)) v).run P wz = .ok () w'∧o7 w w'∧At (B7 w' N) a x:=by
 obtain⟨cs,rfl,he⟩:=hv;obtain⟨h1,h2⟩:=aJ7 (P:=P) (w:=w) (T:=T) hz hsz (cs:=List.toArray cs) (by simpa[hs]using A3.len he) (by simpa using A3.one he);have hx:=o7.alloc w (.cells (List.toArray cs) T);refine⟨_,_,_,h1,h2,hx,cs,A3.mono (p9 hw (bH3 (hx.weaken fun _ _ h=>h.elim) hN)) he,fun j u hj=>?_⟩;have hn:¬N w.heap.size:=fun hb=>by have:=hN _ hb;omega
 have:I5 (i4 (w.alloc (.cells (List.toArray cs) T))) ((⟨w.heap.size,0,none⟩:Addr).add j)=some u:=by
  rw[←al4,add_lit,du4,dC7];simpa using hj
 rw[add_lit]at this ⊢;unfold I5 at *;simp only at *;rw[D3 hn];exact this
end
end
section
variable {P:Program}
theorem C7{k:Nat}{args:List Value}{w:World}{K:Fr→World→Prop}{f:Fr}{d:Option Nat}{v:Value}
  (h:Calls P k args.toArray w fun e w'=>∃u,e = .returned u∧(u=v∧w'=w)) (hk:K (C4 f d v) w) (hb:ah7 P k=true:=by kernel_rfl):at5 P k args w K f d:=
 z7 h (fun u w' ⟨hu,hw⟩=>by rw[hu,hw];exact hk) hb
theorem B2{k:Nat}{args:List Value}{w:World}{K:Fr→World→Prop}{f:Fr}{d:Option Nat}{v:Value}
  (h:Calls P k args.toArray w fun e w'=>∃u,e = .returned u∧(u=v∧o7 w w')) (hk:∀w',o7 w w'→K (C4 f d v) w') (hb:ah7 P k=true:=by kernel_rfl):at5 P k args w K f d:=
 z7 h (fun u w' ⟨hu,hw⟩=>by rw[hu];exact hk w' hw) hb
end
section
variable {P:Program} {t T:TypeId}
theorem bn1(g o:Nat):∀(vs:List Value) (i:Nat) (cur:Array Value) (w:World),w.heap[g]?=some (.cells cur T (0,0))→o+i+vs.length≤cur.size→(∀v∈vs,v.oneCell'=true) →
  ∃w',(storeCells ⟨g,o,none⟩ vs i).run P w = .ok () w'∧w'.heap[g]?=some (.cells (cur.toList.take (o+i)++vs++cur.toList.drop (o+i+vs.length)).toArray T (0,0))∧t8 (fun b=>b=g) w w'
 | [],i,cur,w,hg,hl,_=>by
  refine⟨w,rfl,?_,t8.refl _⟩;simp only[du2,dx8,Nat.add_zero,dv5,Array.toArray_toList];exact hg
 | v::rest,i,cur,w,hg,hl,h1=>by
  simp only[dt2]at hl;have hi:o+i<cur.size:=by omega
  have hadd:(⟨g,o,none⟩:Addr).add i=⟨g,o+i,none⟩:=add_lit g o i;have hcell:w.cell? ⟨g,o+i,none⟩=some cur[o+i]:=by rw[dy8 w g (o+i) cur T (0,0) hg,dz9 hi]
  have hfro:w.frozen? ⟨g,o+i,none⟩=false:=frozen_of_row w g (o+i) cur T hg;have hst:(store ((⟨g,o,none⟩:Addr).add i) v).run P w = .ok () (w.setCell ⟨g,o+i,none⟩ v):=by
   rw[hadd,run_store P w _ v _ (h1 v (by simp)),hcell];simp[hfro]
  obtain⟨w',h2,h3,h4⟩:=bn1 g o rest (i+1) (cur.setIfInBounds (o+i) v) (w.setCell ⟨g,o+i,none⟩ v) (heap_setCell_same w g (o+i) cur T v hg) (by simp;omega) (fun x hx=>h1 x (by simp[hx]));refine⟨w',?_,?_,(t8.setCell (M:=fun b=>b=g) w ⟨g,o+i,none⟩ v rfl).trans h4⟩
  ·simp only[storeCells,dt3,hst,ds6,h2]
  ·rw[h3]
   congr 3
   have hlen:cur.toList.length=cur.size:=by simp
   simp only[Array.toList_setIfInBounds,dt2];rw[show o+(i+1)=o+i+1 by omega,List.take_set,dr6 (by omega),List.set_append_right (h:=by simp;omega)];have e1:o+i-(cur.toList.take (o+i)).length=0:=by simp;omega
   rw[e1,List.drop_set_of_lt (by omega)];simp[dt4,dA5,Nat.add_comm 1]
theorem bY3{w:World}{gb o:Nat}{cur:Array Value}{cs:List Value}(hh:w.heap[gb]?=some (.cells cur T (0,0)))(ho:o+cs.length≤cur.size)(h1:∀u∈cs,u.oneCell'=true)(hi:(P.info? t).isSome=true)(hs:K1 P t=cs.length):
  ∃w',(Instr.storeAt t (.pointer (some ⟨gb,o,none⟩)) (.agg (List.toArray cs))).run P w = .ok () w'∧w'.heap[gb]?=some (.cells (cur.toList.take o++cs++cur.toList.drop (o+cs.length)).toArray T (0,0))∧t8 (fun b=>b=gb) w w':=by
 obtain⟨w',h2,h3,h4⟩:=bn1 (P:=P) gb o cs 0 cur w hh (by omega) h1;refine⟨w',?_,h3,h4⟩;obtain⟨i,hi'⟩:=dw6.1 hi;have hsz:i.size=cs.length:=by rw[←hs,C5 hi']
 unfold Instr.storeAt storeVar;simp only[Instr.sureAddr,dt3,du6,ds6,sizeOf,N3,hi',Value.cells,hsz];simp only[dA6,ne_eq,not_true_eq_false,dy5];exact h2
end
def I2(k:Hp)(a:Addr)(v:Value):Prop:=∃cs,v = .agg (List.toArray cs)∧∀j u,cs[j]?=some u→I5 k (a.add j)=some u
theorem ah3{c d:List Value}(h:(Value.agg (List.toArray c)) = .agg (List.toArray d)):d=c:=by
 simp only[Value.agg.injEq]at h;have:=ds7 Array.toList h;simpa using this.symm
section
variable {α:Type} [A3 α] {h k:Hp} {v:Value} {x:α} {P:Program} {t T:TypeId} {w:World} {a:Addr} {N:Nat→Prop}
theorem I2.mono{k':Hp}(hk:B5 k k'):I2 k a v→I2 k' a v:=fun⟨cs,e,hc⟩=>⟨cs,e,fun j u hj=>F6 hk (hc j u hj)⟩
theorem bg0{es c:List Value}(hc:∀j u,es[j]?=some u→I5 k (a.add j)=some u){o:Nat}(hp:∀j u,c[j]?=some u→es[o+j]?=some u):I2 k (a.add o) (.agg (List.toArray c)):=
 ⟨c,rfl,fun j u hj=>by rw[Addr.add_add'];exact hc _ _ (hp j u hj)⟩
theorem br5{es c:List Value}(hc:∀j u,es[j]?=some u→I5 k (a.add j)=some u)(hp:∀j u,c[j]?=some u→es[0+j]?=some u):I2 k a (.agg (List.toArray c)):=by
 have:=bg0 hc hp
 rwa [K0]at this
theorem I2.whole(ha:I2 k a v)(hv:SV h v x)(ht:H6 P t=true)(hu:(P.underlying t).isSome=true)(hi:(P.info? t).isSome=true)(hs:K1 P t=A3.sz α):
  (∀w,B5 k (i4 w)→(Instr.loadAt t (.pointer (some a))).run P w = .ok v w)∧(∀(S:World→Prop) (w0:World),S w0→(∀w,S w→B5 k (i4 w))→∀K f d w,I1 P S (Instr.loadAt t (.pointer (some a))) K f d w=K (C4 f d v) w):=by
 obtain⟨cs,rfl,hc⟩:=ha;obtain⟨cs2,e,he⟩:=hv;obtain rfl:=ah3 e;have h1:∀w,B5 k (i4 w)→(Instr.loadAt t (.pointer (some a))).run P w = .ok (.agg (List.toArray cs2)) w:=fun w hw=>bj8 ht hu hi (by rw[hs,A3.len he]) fun j u hj=>F6 hw (hc j u hj);exact⟨h1,fun S w0 hS hw K f d w=>D5 hS fun w' hw'=>h1 w' (hw w' hw')⟩
theorem bX9{w:World}{cs:List Value}(hN:∀b,N b→b<w.heap.size):I2 (B7 (w.alloc (.cells (List.toArray cs) T)) N) ⟨w.heap.size,0,none⟩ (.agg (List.toArray cs)):=by
 refine⟨cs,rfl,fun j u hj=>?_⟩;have hn:¬N w.heap.size:=fun hb=>by have:=hN _ hb;omega
 have:I5 (i4 (w.alloc (.cells (List.toArray cs) T))) ((⟨w.heap.size,0,none⟩:Addr).add j)=some u:=by
  rw[←al4,add_lit,du4,dC7];simpa using hj
 rw[add_lit]at this ⊢;unfold I5 at *;simp only at *;rw[D3 hn];exact this
theorem cg7(hv:SV h v x)(hN:∀b,N b→b<w.heap.size):∃a w',(Instr.box T v).run P w = .ok (.pointer (some a)) w'∧o7 w w'∧I2 (B7 w' N) a v:=by
 obtain⟨cs,rfl,he⟩:=hv;exact⟨⟨w.heap.size,0,none⟩,w.alloc (.cells (List.toArray cs) T),rfl,o7.alloc w _,bX9 hN⟩
theorem bW8(hv:SV h v x)(hN:∀b,N b→b<w.heap.size){z:Value}(hz:G0 P T=some z)(hsz:z.cells.size=K1 P T)(hs:K1 P T=A3.sz α):
  ∃a wz w',(Instr.alloc T true (.tuple #[])).run P w = .ok (.pointer (some a)) wz∧(Instr.storeAt T (.pointer (some a)) v).run P wz = .ok () w'∧o7 w w'∧I2 (B7 w' N) a v:=by
 obtain⟨cs,rfl,he⟩:=hv;obtain⟨h1,h2⟩:=aJ7 (P:=P) (w:=w) (T:=T) hz hsz (cs:=List.toArray cs) (by simpa[hs]using A3.len he) (by simpa using A3.one he);exact⟨_,_,_,h1,h2,o7.alloc w _,bX9 hN⟩
end
theorem t8.chain{M N:Nat→Prop}{a b c:World}(h:t8 M a b)(k:t8 N b c)(hN:∀i,i<a.heap.size→N i→M i):t8 M a c:=
 ⟨k.os.trans h.os,k.tape.trans h.tape,k.output.trans h.output,dr7 h.size k.size,fun i hi hm=>(k.block i (dw9 hi h.size) fun hn=>hm (hN i hi hn)).trans (h.block i hi hm)⟩
theorem t8.up{M:Nat→Prop}{a b:World}(h:o7 a b):t8 M a b:=h.weaken fun _ _ h=>h.elim
theorem cL3:H6 prog 2=false:=by kernel_rfl
theorem aS8:K1 prog 3=1:=by kernel_rfl
theorem az5:G0 prog 3=some (.int .i64 0):=by kernel_rfl
theorem F3:H6 prog 3=false:=by kernel_rfl
theorem aF6:K1 prog 4=1:=by kernel_rfl
theorem U1:G0 prog 4=some (.bool false):=by kernel_rfl
theorem ak1:H6 prog 4=false:=by kernel_rfl
theorem df0:K1 prog 9=1:=by kernel_rfl
theorem df6:G0 prog 9=some (.string ⟨#[]⟩):=by kernel_rfl
theorem W4:H6 prog 9=false:=by kernel_rfl
theorem cL2:bE3 prog 9=none:=by kernel_rfl
theorem cC5:bC4 prog 9=true:=by kernel_rfl
theorem cC4:K1 prog 22=1:=by kernel_rfl
theorem bN4:G0 prog 22=some (.slice none 0 0):=by kernel_rfl
theorem N0:H6 prog 22=false:=by kernel_rfl
theorem de7:eqT prog 22=3:=by kernel_rfl
theorem bM8:H6 prog 23=false:=by kernel_rfl
theorem cB6:(prog.info? 25).isSome=true:=by kernel_rfl
theorem bN1:K1 prog 25=2:=by kernel_rfl
theorem cQ2:G0 prog 25=some (.agg #[.slice none 0 0,.slice none 0 0]):=by kernel_rfl
theorem cB3:H6 prog 25=true:=by kernel_rfl
theorem cC8:(prog.underlying 25).isSome=true:=by kernel_rfl
theorem de3:N8 prog 25=some (#[.slice none 0 0,.slice none 0 0],[(0,1),(1,1)]):=by kernel_rfl
theorem de8:K1 prog 30=1:=by kernel_rfl
theorem df3:G0 prog 30=some (.slice none 0 0):=by kernel_rfl
theorem bM9:H6 prog 30=false:=by kernel_rfl
theorem de9:K1 prog 32=1:=by kernel_rfl
theorem df4:G0 prog 32=some (.slice none 0 0):=by kernel_rfl
theorem cP7:H6 prog 32=false:=by kernel_rfl
theorem aB2:(prog.info? 36).isSome=true:=by kernel_rfl
theorem W5:K1 prog 36=4:=by kernel_rfl
theorem bx1:G0 prog 36=some (.agg #[.string ⟨#[]⟩,.int .i64 0,.int .i64 0,.string ⟨#[]⟩]):=by kernel_rfl
theorem aF4:H6 prog 36=true:=by kernel_rfl
theorem aF7:(prog.underlying 36).isSome=true:=by kernel_rfl
theorem cC0:N8 prog 36=some (#[.string ⟨#[]⟩,.int .i64 0,.int .i64 0,.string ⟨#[]⟩],[(0,1),(1,1),(2,1),(3,1)]):=by kernel_rfl
theorem cd8:H6 prog 39=false:=by kernel_rfl
theorem aS6:(prog.info? 41).isSome=true:=by kernel_rfl
theorem ae4:K1 prog 41=4:=by kernel_rfl
theorem cD4:G0 prog 41=some (.agg #[.int .i64 0,.int .i64 0,.string ⟨#[]⟩,.slice none 0 0]):=by kernel_rfl
theorem bc6:H6 prog 41=true:=by kernel_rfl
theorem bc9:(prog.underlying 41).isSome=true:=by kernel_rfl
theorem cC1:N8 prog 41=some (#[.int .i64 0,.int .i64 0,.string ⟨#[]⟩,.slice none 0 0],[(0,1),(1,1),(2,1),(3,1)]):=by kernel_rfl
theorem cd9:H6 prog 42=false:=by kernel_rfl
theorem aB1:H6 prog 43=false:=by kernel_rfl
theorem aK7:(prog.info? 45).isSome=true:=by kernel_rfl
theorem Y1:K1 prog 45=13:=by kernel_rfl
theorem ce3:G0 prog 45=some (.agg #[.int .i64 0,.int .i64 0,.slice none 0 0,.string ⟨#[]⟩,.string ⟨#[]⟩,.int .i64 0,.int .i64 0,.string ⟨#[]⟩,.slice none 0 0,.bool false,.slice none 0 0,.slice none 0 0,.slice none 0 0]):=by kernel_rfl
theorem bc7:H6 prog 45=true:=by kernel_rfl
theorem bd0:(prog.underlying 45).isSome=true:=by kernel_rfl
theorem bx0:N8 prog 45=some (#[.int .i64 0,.int .i64 0,.slice none 0 0,.string ⟨#[]⟩,.string ⟨#[]⟩,.int .i64 0,.int .i64 0,.string ⟨#[]⟩,.slice none 0 0,.bool false,.slice none 0 0,.slice none 0 0,.slice none 0 0],[(0,1),(1,1),(2,1),(3,1),(4,1),(5,4),(9,1),(10,1),(11,1),(12,1)]):=by kernel_rfl
theorem ce0:H6 prog 49=false:=by kernel_rfl
theorem ac8:(prog.info? 51).isSome=true:=by kernel_rfl
theorem I4:K1 prog 51=5:=by kernel_rfl
theorem ce4:G0 prog 51=some (.agg #[.string ⟨#[]⟩,.slice none 0 0,.slice none 0 0,.slice none 0 0,.slice none 0 0]):=by kernel_rfl
theorem ae2:H6 prog 51=true:=by kernel_rfl
theorem ae5:(prog.underlying 51).isSome=true:=by kernel_rfl
theorem cP9:N8 prog 51=some (#[.string ⟨#[]⟩,.slice none 0 0,.slice none 0 0,.slice none 0 0,.slice none 0 0],[(0,1),(1,1),(2,1),(3,1),(4,1)]):=by kernel_rfl
theorem bw8:(prog.info? 57).isSome=true:=by kernel_rfl
theorem ar1:K1 prog 57=16:=by kernel_rfl
theorem cQ3:G0 prog 57=some (.agg #[.int .i64 0,.int .i64 0,.slice none 0 0,.string ⟨#[]⟩,.string ⟨#[]⟩,.int .i64 0,.int .i64 0,.string ⟨#[]⟩,.slice none 0 0,.bool false,.slice none 0 0,.slice none 0 0,.slice none 0 0,.int .i64 0,.int .i64 0,.bool false]):=by kernel_rfl
theorem bN0:H6 prog 57=true:=by kernel_rfl
theorem bN3:(prog.underlying 57).isSome=true:=by kernel_rfl
theorem cQ0:N8 prog 57=some (#[.int .i64 0,.int .i64 0,.slice none 0 0,.string ⟨#[]⟩,.string ⟨#[]⟩,.int .i64 0,.int .i64 0,.string ⟨#[]⟩,.slice none 0 0,.bool false,.slice none 0 0,.slice none 0 0,.slice none 0 0,.int .i64 0,.int .i64 0,.bool false],[(0,13),(13,1),(14,1),(15,1)]):=by kernel_rfl
theorem bw9:(prog.info? 60).isSome=true:=by kernel_rfl
theorem aS9:K1 prog 60=9:=by kernel_rfl
theorem cQ4:G0 prog 60=some (.agg #[.string ⟨#[]⟩,.int .i64 0,.int .i64 0,.string ⟨#[]⟩,.string ⟨#[]⟩,.int .i64 0,.int .i64 0,.string ⟨#[]⟩,.int .i64 0]):=by kernel_rfl
theorem ce1:H6 prog 60=true:=by kernel_rfl
theorem ce2:(prog.underlying 60).isSome=true:=by kernel_rfl
theorem de4:N8 prog 60=some (#[.string ⟨#[]⟩,.int .i64 0,.int .i64 0,.string ⟨#[]⟩,.string ⟨#[]⟩,.int .i64 0,.int .i64 0,.string ⟨#[]⟩,.int .i64 0],[(0,4),(4,4),(8,1)]):=by kernel_rfl
theorem aS7:(prog.info? 68).isSome=true:=by kernel_rfl
theorem aj3:K1 prog 68=2:=by kernel_rfl
theorem df5:G0 prog 68=some (.agg #[.string ⟨#[]⟩,.bool false]):=by kernel_rfl
theorem bc8:H6 prog 68=true:=by kernel_rfl
theorem bd1:(prog.underlying 68).isSome=true:=by kernel_rfl
theorem cC2:N8 prog 68=some (#[.string ⟨#[]⟩,.bool false],[(0,1),(1,1)]):=by kernel_rfl
theorem bn5:H6 prog 78=false:=by kernel_rfl
theorem bn6:H6 prog 89=false:=by kernel_rfl
theorem df1:K1 prog 90=1:=by kernel_rfl
theorem df7:G0 prog 90=some (.slice none 0 0):=by kernel_rfl
theorem cB4:H6 prog 90=false:=by kernel_rfl
theorem df2:K1 prog 91=1:=by kernel_rfl
theorem df8:G0 prog 91=some (.slice none 0 0):=by kernel_rfl
theorem al1:H6 prog 91=false:=by kernel_rfl
theorem de5:N8 prog 93=some (#[.pointer none,.slice none 0 0,.slice none 0 0,.slice none 0 0,.slice none 0 0,.slice none 0 0],[(0,1),(1,1),(2,1),(3,1),(4,1),(5,1)]):=by kernel_rfl
theorem cB7:(prog.info? 97).isSome=true:=by kernel_rfl
theorem bN2:K1 prog 97=3:=by kernel_rfl
theorem df9:G0 prog 97=some (.agg #[.int .i64 0,.int .i64 0,.string ⟨#[]⟩]):=by kernel_rfl
theorem cP8:H6 prog 97=true:=by kernel_rfl
theorem cQ1:(prog.underlying 97).isSome=true:=by kernel_rfl
theorem de6:N8 prog 97=some (#[.int .i64 0,.int .i64 0,.string ⟨#[]⟩],[(0,1),(1,1),(2,1)]):=by kernel_rfl
theorem at1:(prog.info? 101).isSome=true:=by kernel_rfl
theorem S4:K1 prog 101=6:=by kernel_rfl
theorem cC9:G0 prog 101=some (.agg #[.bool false,.string ⟨#[]⟩,.int .i64 0,.int .i64 0,.string ⟨#[]⟩,.slice none 0 0]):=by kernel_rfl
theorem az1:H6 prog 101=true:=by kernel_rfl
theorem az3:(prog.underlying 101).isSome=true:=by kernel_rfl
theorem cB8:N8 prog 101=some (#[.bool false,.string ⟨#[]⟩,.int .i64 0,.int .i64 0,.string ⟨#[]⟩,.slice none 0 0],[(0,1),(1,1),(2,4)]):=by kernel_rfl
theorem cT8:H6 prog 105=false:=by kernel_rfl
theorem cB5:(prog.info? 107).isSome=true:=by kernel_rfl
theorem cC3:K1 prog 107=2:=by kernel_rfl
theorem bW6:G0 prog 107=some (.agg #[.int .i64 0,.int .i64 0]):=by kernel_rfl
theorem cB1:H6 prog 107=true:=by kernel_rfl
theorem cC6:(prog.underlying 107).isSome=true:=by kernel_rfl
theorem bW3:N8 prog 107=some (#[.int .i64 0,.int .i64 0],[(0,1),(1,1)]):=by kernel_rfl
theorem cU8:K1 prog 111=1:=by kernel_rfl
theorem cD0:G0 prog 111=some (.slice none 0 0):=by kernel_rfl
theorem aX4:H6 prog 111=false:=by kernel_rfl
theorem aF5:K1 prog 112=1:=by kernel_rfl
theorem T7:G0 prog 112=some (.slice none 0 0):=by kernel_rfl
theorem R0:H6 prog 112=false:=by kernel_rfl
theorem bV9:K7 prog 112=some 3:=by kernel_rfl
theorem cU7:eqT prog 112=3:=by kernel_rfl
theorem cT9:N8 prog 114=some (#[.slice none 0 0,.slice none 0 0,.slice none 0 0,.slice none 0 0,.slice none 0 0],[(0,2),(2,1),(3,1),(4,1)]):=by kernel_rfl
theorem cU0:N8 prog 116=some (#[.pointer none,.int .i64 0,.string ⟨#[]⟩,.slice none 0 0,.slice none 0 0,.slice none 0 0,.slice none 0 0,.slice none 0 0,.slice none 0 0],[(0,1),(1,1),(2,5),(7,1),(8,1)]):=by kernel_rfl
theorem Z1:(prog.info? 121).isSome=true:=by kernel_rfl
theorem I7:K1 prog 121=17:=by kernel_rfl
theorem bW7:G0 prog 121=some (.agg #[.int .i64 0,.int .i64 0,.slice none 0 0,.string ⟨#[]⟩,.string ⟨#[]⟩,.int .i64 0,.int .i64 0,.string ⟨#[]⟩,.slice none 0 0,.bool false,.slice none 0 0,.slice none 0 0,.slice none 0 0,.int .i64 0,.int .i64 0,.int .i64 0,.int .i64 0]):=by kernel_rfl
theorem ab1:H6 prog 121=true:=by kernel_rfl
theorem ab2:(prog.underlying 121).isSome=true:=by kernel_rfl
theorem cB9:N8 prog 121=some (#[.int .i64 0,.int .i64 0,.slice none 0 0,.string ⟨#[]⟩,.string ⟨#[]⟩,.int .i64 0,.int .i64 0,.string ⟨#[]⟩,.slice none 0 0,.bool false,.slice none 0 0,.slice none 0 0,.slice none 0 0,.int .i64 0,.int .i64 0,.int .i64 0,.int .i64 0],[(0,13),(13,1),(14,1),(15,1),(16,1)]):=by kernel_rfl
theorem az2:H6 prog 126=false:=by kernel_rfl
theorem bW2:(prog.info? 128).isSome=true:=by kernel_rfl
theorem bn8:K1 prog 128=2:=by kernel_rfl
theorem cD1:G0 prog 128=some (.agg #[.int .i64 0,.int .i64 0]):=by kernel_rfl
theorem cB2:H6 prog 128=true:=by kernel_rfl
theorem cC7:(prog.underlying 128).isSome=true:=by kernel_rfl
theorem cU1:N8 prog 128=some (#[.int .i64 0,.int .i64 0],[(0,1),(1,1)]):=by kernel_rfl
theorem bW0:H6 prog 144=false:=by kernel_rfl
theorem bC7:K1 prog 149=1:=by kernel_rfl
theorem aX6:G0 prog 149=some (.slice none 0 0):=by kernel_rfl
theorem aj9:H6 prog 149=false:=by kernel_rfl
theorem cU2:N8 prog 151=some (#[.pointer none,.int .i64 0,.int .i64 0,.slice none 0 0,.slice none 0 0],[(0,1),(1,1),(2,1),(3,1),(4,1)]):=by kernel_rfl
theorem cU9:K1 prog 153=1:=by kernel_rfl
theorem cD2:G0 prog 153=some (.slice none 0 0):=by kernel_rfl
theorem T6:H6 prog 153=false:=by kernel_rfl
theorem bn7:(prog.info? 186).isSome=true:=by kernel_rfl
theorem aN1:K1 prog 186=3:=by kernel_rfl
theorem cD3:G0 prog 186=some (.agg #[.int .i64 0,.int .i64 0,.int .i64 0]):=by kernel_rfl
theorem bW1:H6 prog 186=true:=by kernel_rfl
theorem bW5:(prog.underlying 186).isSome=true:=by kernel_rfl
theorem cU3:N8 prog 186=some (#[.int .i64 0,.int .i64 0,.int .i64 0],[(0,1),(1,1),(2,1)]):=by kernel_rfl
theorem bC6:(prog.info? 189).isSome=true:=by kernel_rfl
theorem ae3:K1 prog 189=2:=by kernel_rfl
theorem aX7:G0 prog 189=some (.agg #[.slice none 0 0,.int .i64 0]):=by kernel_rfl
theorem bC5:H6 prog 189=true:=by kernel_rfl
theorem bC9:(prog.underlying 189).isSome=true:=by kernel_rfl
theorem cU4:N8 prog 189=some (#[.slice none 0 0,.int .i64 0],[(0,1),(1,1)]):=by kernel_rfl
theorem cU5:N8 prog 197=some (#[.int .i64 0],[(0,1)]):=by kernel_rfl
theorem bC8:K1 prog 220=1:=by kernel_rfl
theorem az4:G0 prog 220=some (.int .u64 0):=by kernel_rfl
theorem ak0:H6 prog 220=false:=by kernel_rfl
theorem cU6:N8 prog 234=some (#[.slice none 0 0,.slice none 0 0],[(0,1),(1,1)]):=by kernel_rfl
theorem bW4:K1 prog 275=1:=by kernel_rfl
theorem aX8:G0 prog 275=some (.slice none 0 0):=by kernel_rfl
theorem aX5:H6 prog 275=false:=by kernel_rfl
theorem hm:prog.follows .mixedOrders=true:=by kernel_rfl

theorem TY:(prog.info? 3).isSome=true∧K1 prog 3=1∧(prog.info? 4).isSome=true∧K1 prog 4=1∧(prog.info? 9).isSome=true∧K1 prog 9=1∧K7 prog 9=none∧bC4 prog 9=true∧(prog.info? 22).isSome=true∧K1 prog 22=1∧K7 prog 22=some 9∧K7 prog 23=some 51∧B9 prog 25 0=some (0,22)∧B9 prog 25 1=some (1,23)∧K7 prog 30=some 36∧K7 prog 32=some 60∧(prog.info? 36).isSome=true∧K1 prog 36=4∧B9 prog 36 0=some (0,9)∧B9 prog 36 1=some (1,3)∧B9 prog 36 2=some (2,3)∧B9 prog 36 3=some (3,9)∧K7 prog 39=some 41∧(prog.info? 41).isSome=true∧K1 prog 41=4∧B9 prog 41 0=some (0,3)∧B9 prog 41 1=some (1,2)∧B9 prog 41 2=some (2,9)∧B9 prog 41 3=some (3,39)∧K7 prog 42=some 101∧K7 prog 43=some 45∧(prog.info? 45).isSome=true∧K1 prog 45=13∧B9 prog 45 0=some (0,3)∧B9 prog 45 1=some (1,3)∧B9 prog 45 2=some (2,22)∧B9 prog 45 3=some (3,9)∧B9 prog 45 4=some (4,9)∧B9 prog 45 5=some (5,41)∧B9 prog 45 6=some (9,4)∧B9 prog 45 7=some (10,42)∧B9 prog 45 8=some (11,43)∧B9 prog 45 9=some (12,43)∧K7 prog 49=some 68∧(prog.info? 51).isSome=true∧K1 prog 51=5∧B9 prog 51 0=some (0,9)∧B9 prog 51 1=some (1,49)∧B9 prog 51 2=some (2,22)∧B9 prog 51 3=some (3,43)∧B9 prog 51 4=some (4,22)∧K7 prog 54=some 57∧(prog.info? 57).isSome=true∧K1 prog 57=16∧B9 prog 57 0=some (0,45)∧B9 prog 57 1=some (13,3)∧(prog.info? 60).isSome=true∧K1 prog 60=9∧B9 prog 60 0=some (0,36)∧B9 prog 60 1=some (4,36)∧B9 prog 60 2=some (8,3)∧(prog.info? 68).isSome=true∧K1 prog 68=2∧B9 prog 68 0=some (0,9)∧B9 prog 68 1=some (1,4)∧K7 prog 90=some 126∧K7 prog 91=some 22∧B9 prog 93 0=some (0,89)∧B9 prog 93 1=some (1,90)∧B9 prog 93 2=some (2,91)∧B9 prog 93 3=some (3,91)∧B9 prog 93 4=some (4,91)∧B9 prog 93 5=some (5,91)∧K7 prog 95=some 97∧(prog.info? 97).isSome=true∧K1 prog 97=3∧B9 prog 97 0=some (0,3)∧B9 prog 97 1=some (1,3)∧B9 prog 97 2=some (2,9)∧(prog.info? 101).isSome=true∧K1 prog 101=6∧B9 prog 101 0=some (0,4)∧B9 prog 101 1=some (1,9)∧B9 prog 101 2=some (2,41)∧B9 prog 107 0=some (0,105)∧K7 prog 111=some 121∧(prog.info? 112).isSome=true∧K1 prog 112=1∧K7 prog 112=some 3∧B9 prog 114 0=some (0,25)∧B9 prog 114 1=some (2,111)∧B9 prog 114 2=some (3,112)∧B9 prog 114 3=some (4,112)∧B9 prog 116 0=some (0,78)∧B9 prog 116 2=some (2,51)∧B9 prog 116 3=some (7,30)∧B9 prog 116 4=some (8,32)∧(prog.info? 121).isSome=true∧K1 prog 121=17∧B9 prog 121 0=some (0,45)∧B9 prog 121 1=some (13,3)∧B9 prog 121 3=some (15,3)∧B9 prog 121 4=some (16,3)∧K7 prog 125=some 128∧(prog.info? 126).isSome=true∧K1 prog 126=1∧(prog.info? 128).isSome=true∧K1 prog 128=2∧K7 prog 128=none∧bE3 prog 128=some (2,3)∧K7 prog 144=some 186∧(prog.info? 149).isSome=true∧K1 prog 149=1∧K7 prog 149=some 4∧B9 prog 151 0=some (0,89)∧B9 prog 151 1=some (1,3)∧B9 prog 151 2=some (2,3)∧B9 prog 151 3=some (3,144)∧B9 prog 151 4=some (4,149)∧K7 prog 153=some 112∧K7 prog 166=some 149∧eqT prog 177=2∧(prog.info? 186).isSome=true∧K1 prog 186=3∧B9 prog 186 0=some (0,3)∧B9 prog 186 1=some (1,3)∧B9 prog 186 2=some (2,3)∧B9 prog 189 0=some (0,153)∧B9 prog 189 1=some (1,3)∧B9 prog 197 0=some (0,3)∧(prog.info? 220).isSome=true∧K1 prog 220=1∧B9 prog 234 0=some (0,153)∧B9 prog 234 1=some (1,153)∧K7 prog 243=some 275∧(prog.info? 275).isSome=true∧K1 prog 275=1∧K7 prog 275=some 220:=⟨by kernel_rfl,aS8,by kernel_rfl,aF6,by kernel_rfl,df0,by kernel_rfl,cC5,by kernel_rfl,cC4,by kernel_rfl,by kernel_rfl,by kernel_rfl,by kernel_rfl,by kernel_rfl,by kernel_rfl,aB2,W5,by kernel_rfl,by kernel_rfl,by kernel_rfl,by kernel_rfl,by kernel_rfl,aS6,ae4,by kernel_rfl,by kernel_rfl,by kernel_rfl,by kernel_rfl,by kernel_rfl,by kernel_rfl,aK7,Y1,by kernel_rfl,by kernel_rfl,by kernel_rfl,by kernel_rfl,by kernel_rfl,by kernel_rfl,by kernel_rfl,by kernel_rfl,by kernel_rfl,by kernel_rfl,by kernel_rfl,ac8,I4,by kernel_rfl,by kernel_rfl,by kernel_rfl,by kernel_rfl,by kernel_rfl,by kernel_rfl,bw8,ar1,by kernel_rfl,by kernel_rfl,bw9,aS9,by kernel_rfl,by kernel_rfl,by kernel_rfl,aS7,aj3,by kernel_rfl,by kernel_rfl,by kernel_rfl,by kernel_rfl,by kernel_rfl,by kernel_rfl,by kernel_rfl,by kernel_rfl,by kernel_rfl,by kernel_rfl,by kernel_rfl,cB7,bN2,by kernel_rfl,by kernel_rfl,by kernel_rfl,at1,S4,by kernel_rfl,by kernel_rfl,by kernel_rfl,by kernel_rfl,by kernel_rfl,by kernel_rfl,aF5,bV9,by kernel_rfl,by kernel_rfl,by kernel_rfl,by kernel_rfl,by kernel_rfl,by kernel_rfl,by kernel_rfl,by kernel_rfl,Z1,I7,by kernel_rfl,by kernel_rfl,by kernel_rfl,by kernel_rfl,by kernel_rfl,by kernel_rfl,by kernel_rfl,bW2,bn8,by kernel_rfl,by kernel_rfl,by kernel_rfl,by kernel_rfl,bC7,by kernel_rfl,by kernel_rfl,by kernel_rfl,by kernel_rfl,by kernel_rfl,by kernel_rfl,by kernel_rfl,by kernel_rfl,by kernel_rfl,bn7,aN1,by kernel_rfl,by kernel_rfl,by kernel_rfl,by kernel_rfl,by kernel_rfl,by kernel_rfl,by kernel_rfl,bC8,by kernel_rfl,by kernel_rfl,by kernel_rfl,by kernel_rfl,bW4,by kernel_rfl⟩
theorem da0{l:List Value}(h:l.length=2):∃a b,l=[a,b]:=by
 match l,h with
 | [a,b],_=>exact⟨a,b,rfl⟩
theorem bu1{l:List Value}(h:l.length=4):∃a b c d,l=[a,b,c,d]:=by
 match l,h with
 | [a,b,c,d],_=>exact⟨a,b,c,d,rfl⟩
theorem aE2{l:List Value}(h:l.length=13):∃a b c d e f g i j k m n o,l=[a,b,c,d,e,f,g,i,j,k,m,n,o]:=by
 match l,h with
 | [a,b,c,d,e,f,g,i,j,k,m,n,o],_=>exact⟨a,b,c,d,e,f,g,i,j,k,m,n,o,rfl⟩
theorem cH5{h:Hp}{cs:List Value}{x:Pa}:A3.enc h cs x→cs=([o9 x.name]:List Value)++([.bool x.ref]:List Value):=by
 intro he;exact he
theorem At.pa{h:Hp}{a:Addr}{x:Pa}(ha:At h a x):(∀w,B5 h (i4 w)→N4 prog w 9 a (o9 x.name)∧N4 prog w 4 (a.add 1) (.bool x.ref))∧(∀(S:World→Prop) (w0:World),S w0→(∀w,S w→B5 h (i4 w))→N5 prog S 9 a (o9 x.name)∧N5 prog S 4 (a.add 1) (.bool x.ref)):=by
 obtain⟨cs,he,hc⟩:=ha;obtain rfl:=cH5 he;exact⟨fun w hw=>⟨E0 hc rfl W4 w hw,v8 hc (o:=1) rfl ak1 w hw⟩,fun S w0 hS hw=>⟨R4 hS fun w' hw'=>E0 hc rfl W4 w' (hw w' hw'),R4 hS fun w' hw'=>v8 hc (o:=1) rfl ak1 w' (hw w' hw')⟩⟩
theorem At.pa_v{h:Hp}{a:Addr}{x:Pa}(ha:At h a x):∃sv,SV h sv x∧(∀w,B5 h (i4 w)→N4 prog w 68 a sv)∧(∀(S:World→Prop) (w0:World),S w0→(∀w,S w→B5 h (i4 w))→N5 prog S 68 a sv):=ha.sv2 bc8 bd1 aS7 aj3
theorem bY6{h:Hp}{v:Value}{x:Pa}{w:World}(hv:SV h v x)(hw:B5 h (i4 w)):∃a w',(Instr.box 68 v).run prog w = .ok (.pointer (some a)) w'∧o7 w w'∧At (i4 w') a x:=by6 hv hw
theorem az7{h:Hp}{v:Value}{x:Pa}{w:World}(hv:SV h v x)(hw:B5 h (i4 w)):∃a wz w',(Instr.alloc 68 true (.tuple #[])).run prog w = .ok (.pointer (some a)) wz∧(Instr.storeAt 68 (.pointer (some a)) v).run prog wz = .ok () w'∧o7 w w'∧At (i4 w') a x:=bo0 hv hw df5 rfl aj3
theorem cH7{h:Hp}{cs:List Value}{x:Sp}:A3.enc h cs x→cs=([.int .i64 x.src]:List Value)++([.int .i64 x.dst]:List Value)++([.int .i64 x.kind]:List Value):=by
 intro he;exact he
theorem At.sp{h:Hp}{a:Addr}{x:Sp}(ha:At h a x):(∀w,B5 h (i4 w)→N4 prog w 3 a (.int .i64 x.src)∧N4 prog w 3 (a.add 1) (.int .i64 x.dst)∧N4 prog w 3 (a.add 2) (.int .i64 x.kind))∧(∀(S:World→Prop) (w0:World),S w0→(∀w,S w→B5 h (i4 w))→N5 prog S 3 a (.int .i64 x.src)∧N5 prog S 3 (a.add 1) (.int .i64 x.dst)∧N5 prog S 3 (a.add 2) (.int .i64 x.kind)):=by
 obtain⟨cs,he,hc⟩:=ha;obtain rfl:=cH7 he;exact⟨fun w hw=>⟨E0 hc rfl F3 w hw,v8 hc (o:=1) rfl F3 w hw,v8 hc (o:=2) rfl F3 w hw⟩,fun S w0 hS hw=>⟨R4 hS fun w' hw'=>E0 hc rfl F3 w' (hw w' hw'),R4 hS fun w' hw'=>v8 hc (o:=1) rfl F3 w' (hw w' hw'),R4 hS fun w' hw'=>v8 hc (o:=2) rfl F3 w' (hw w' hw')⟩⟩
theorem At.sp_v{h:Hp}{a:Addr}{x:Sp}(ha:At h a x):∃sv,SV h sv x∧(∀w,B5 h (i4 w)→N4 prog w 186 a sv)∧(∀(S:World→Prop) (w0:World),S w0→(∀w,S w→B5 h (i4 w))→N5 prog S 186 a sv):=ha.sv2 bW1 bW5 bn7 aN1
theorem bY7{h:Hp}{v:Value}{x:Sp}{w:World}(hv:SV h v x)(hw:B5 h (i4 w)):∃a w',(Instr.box 186 v).run prog w = .ok (.pointer (some a)) w'∧o7 w w'∧At (i4 w') a x:=by6 hv hw
theorem cL7{h:Hp}{v:Value}{x:Sp}{w:World}(hv:SV h v x)(hw:B5 h (i4 w)):∃a wz w',(Instr.alloc 186 true (.tuple #[])).run prog w = .ok (.pointer (some a)) wz∧(Instr.storeAt 186 (.pointer (some a)) v).run prog wz = .ok () w'∧o7 w w'∧At (i4 w') a x:=bo0 hv hw cD3 rfl aN1
theorem cH4{h:Hp}{cs:List Value}{x:Fw}:A3.enc h cs x→cs=([.int .i64 x.src]:List Value)++([.int .i64 x.dst]:List Value)++([o9 x.var]:List Value):=by
 intro he;exact he
theorem At.fw{h:Hp}{a:Addr}{x:Fw}(ha:At h a x):(∀w,B5 h (i4 w)→N4 prog w 3 a (.int .i64 x.src)∧N4 prog w 3 (a.add 1) (.int .i64 x.dst)∧N4 prog w 9 (a.add 2) (o9 x.var))∧(∀(S:World→Prop) (w0:World),S w0→(∀w,S w→B5 h (i4 w))→N5 prog S 3 a (.int .i64 x.src)∧N5 prog S 3 (a.add 1) (.int .i64 x.dst)∧N5 prog S 9 (a.add 2) (o9 x.var)):=by
 obtain⟨cs,he,hc⟩:=ha;obtain rfl:=cH4 he;exact⟨fun w hw=>⟨E0 hc rfl F3 w hw,v8 hc (o:=1) rfl F3 w hw,v8 hc (o:=2) rfl W4 w hw⟩,fun S w0 hS hw=>⟨R4 hS fun w' hw'=>E0 hc rfl F3 w' (hw w' hw'),R4 hS fun w' hw'=>v8 hc (o:=1) rfl F3 w' (hw w' hw'),R4 hS fun w' hw'=>v8 hc (o:=2) rfl W4 w' (hw w' hw')⟩⟩
theorem cL5{h:Hp}{v:Value}{x:Fw}{w:World}(hv:SV h v x)(hw:B5 h (i4 w)):∃a wz w',(Instr.alloc 97 true (.tuple #[])).run prog w = .ok (.pointer (some a)) wz∧(Instr.storeAt 97 (.pointer (some a)) v).run prog wz = .ok () w'∧o7 w w'∧At (i4 w') a x:=bo0 hv hw df9 rfl bN2
theorem cH8{h:Hp}{cs:List Value}{x:Vx}:A3.enc h cs x→cs=([o9 x.proc]:List Value)++([.int .i64 x.kind]:List Value)++([.int .i64 x.id]:List Value)++([o9 x.slot]:List Value):=by
 intro he;exact he
theorem At.vx{h:Hp}{a:Addr}{x:Vx}(ha:At h a x):(∀w,B5 h (i4 w)→N4 prog w 9 a (o9 x.proc)∧N4 prog w 3 (a.add 1) (.int .i64 x.kind)∧N4 prog w 3 (a.add 2) (.int .i64 x.id)∧N4 prog w 9 (a.add 3) (o9 x.slot))∧(∀(S:World→Prop) (w0:World),S w0→(∀w,S w→B5 h (i4 w))→N5 prog S 9 a (o9 x.proc)∧N5 prog S 3 (a.add 1) (.int .i64 x.kind)∧N5 prog S 3 (a.add 2) (.int .i64 x.id)∧N5 prog S 9 (a.add 3) (o9 x.slot)):=by
 obtain⟨cs,he,hc⟩:=ha;obtain rfl:=cH8 he;exact⟨fun w hw=>⟨E0 hc rfl W4 w hw,v8 hc (o:=1) rfl F3 w hw,v8 hc (o:=2) rfl F3 w hw,v8 hc (o:=3) rfl W4 w hw⟩,fun S w0 hS hw=>⟨R4 hS fun w' hw'=>E0 hc rfl W4 w' (hw w' hw'),R4 hS fun w' hw'=>v8 hc (o:=1) rfl F3 w' (hw w' hw'),R4 hS fun w' hw'=>v8 hc (o:=2) rfl F3 w' (hw w' hw'),R4 hS fun w' hw'=>v8 hc (o:=3) rfl W4 w' (hw w' hw')⟩⟩
theorem I2.vx_v{h k:Hp}{a:Addr}{v:Value}{x:Vx}(hv:SV h v x)(ha:I2 k a v):(∀w,B5 k (i4 w)→N4 prog w 36 a v)∧(∀(S:World→Prop) (w0:World),S w0→(∀w,S w→B5 k (i4 w))→N5 prog S 36 a v):=ha.whole hv aF4 aF7 aB2 W5
theorem bZ0{h:Hp}{v:Value}{x:Vx}{w:World}(N:Nat→Prop)(hv:SV h v x)(hN:∀b,N b→b<w.heap.size):∃a w',(Instr.box 36 v).run prog w = .ok (.pointer (some a)) w'∧o7 w w'∧I2 (B7 w' N) a v:=cg7 hv hN
theorem ce8{h:Hp}{v:Value}{x:Vx}{w:World}(N:Nat→Prop)(hv:SV h v x)(hN:∀b,N b→b<w.heap.size):∃a wz w',(Instr.alloc 36 true (.tuple #[])).run prog w = .ok (.pointer (some a)) wz∧(Instr.storeAt 36 (.pointer (some a)) v).run prog wz = .ok () w'∧o7 w w'∧I2 (B7 w' N) a v:=bW8 hv hN bx1 rfl W5
theorem At.vx_v{h:Hp}{a:Addr}{x:Vx}(ha:At h a x):∃sv,SV h sv x∧(∀w,B5 h (i4 w)→N4 prog w 36 a sv)∧(∀(S:World→Prop) (w0:World),S w0→(∀w,S w→B5 h (i4 w))→N5 prog S 36 a sv):=ha.sv2 aF4 aF7 aB2 W5
theorem be2{h:Hp}{v:Value}{x:Vx}{w:World}(hv:SV h v x)(hw:B5 h (i4 w)):∃a w',(Instr.box 36 v).run prog w = .ok (.pointer (some a)) w'∧o7 w w'∧At (i4 w') a x:=by6 hv hw
theorem bf1{h:Hp}{v:Value}{x:Vx}{w:World}(hv:SV h v x)(hw:B5 h (i4 w)):∃a wz w',(Instr.alloc 36 true (.tuple #[])).run prog w = .ok (.pointer (some a)) wz∧(Instr.storeAt 36 (.pointer (some a)) v).run prog wz = .ok () w'∧o7 w w'∧At (i4 w') a x:=bo0 hv hw bx1 rfl W5
theorem cH3{h:Hp}{cs:List Value}{x:Eg}:A3.enc h cs x→∃c_src c_dst,cs=c_src++c_dst++([.int .i64 x.kind]:List Value)∧A3.enc h c_src x.src∧A3.enc h c_dst x.dst:=by
 intro he;exact⟨x.src.cells,x.dst.cells,he,rfl,rfl⟩
theorem At.eg{h:Hp}{a:Addr}{x:Eg}(ha:At h a x):At h a x.src∧At h (a.add 4) x.dst∧(∀w,B5 h (i4 w)→N4 prog w 3 (a.add 8) (.int .i64 x.kind))∧(∀(S:World→Prop) (w0:World),S w0→(∀w,S w→B5 h (i4 w))→N5 prog S 3 (a.add 8) (.int .i64 x.kind)):=by
 obtain⟨cs,he,hc⟩:=ha;obtain⟨c_src,c_dst,rfl,h_src,h_dst⟩:=cH3 he;obtain⟨a_src0,a_src1,a_src2,a_src3,rfl⟩:=bu1 (A3.len h_src);obtain⟨a_dst0,a_dst1,a_dst2,a_dst3,rfl⟩:=bu1 (A3.len h_dst);exact⟨aO2 hc h_src (fun j u hj=>by
  match j,hj with
  | 0,hj=>exact hj
  | 1,hj=>exact hj
  | 2,hj=>exact hj
  | 3,hj=>exact hj
  | m+4,hj=>simp at hj),bd9 hc h_dst (fun j u hj=>by
  match j,hj with
  | 0,hj=>exact hj
  | 1,hj=>exact hj
  | 2,hj=>exact hj
  | 3,hj=>exact hj
  | m+4,hj=>simp at hj),fun w hw=>v8 hc (o:=8) rfl F3 w hw,fun S w0 hS hw=>R4 hS fun w' hw'=>v8 hc (o:=8) rfl F3 w' (hw w' hw')⟩
theorem At.eg_v{h:Hp}{a:Addr}{x:Eg}(ha:At h a x):∃sv,SV h sv x∧(∀w,B5 h (i4 w)→N4 prog w 60 a sv)∧(∀(S:World→Prop) (w0:World),S w0→(∀w,S w→B5 h (i4 w))→N5 prog S 60 a sv):=ha.sv2 ce1 ce2 bw9 aS9
theorem ce6{h:Hp}{v:Value}{x:Eg}{w:World}(hv:SV h v x)(hw:B5 h (i4 w)):∃a wz w',(Instr.alloc 60 true (.tuple #[])).run prog w = .ok (.pointer (some a)) wz∧(Instr.storeAt 60 (.pointer (some a)) v).run prog wz = .ok () w'∧o7 w w'∧At (i4 w') a x:=bo0 hv hw cQ4 rfl aS9
theorem bZ8{h:Hp}{cs:List Value}{x:Ex}:A3.enc h cs x→∃v_kids,cs=([.int .i64 x.op]:List Value)++([.int .i64 x.n]:List Value)++([o9 x.name]:List Value)++([v_kids]:List Value)∧R h v_kids x.kids:=by
 intro he;obtain⟨vk,rfl,h1⟩:=bh4.1 he;exact⟨vk,rfl,h1⟩
theorem At.ex{h:Hp}{a:Addr}{x:Ex}(ha:At h a x):∃v_kids,R h v_kids x.kids∧(∀w,B5 h (i4 w)→N4 prog w 3 a (.int .i64 x.op)∧N4 prog w 2 (a.add 1) (.int .i64 x.n)∧N4 prog w 9 (a.add 2) (o9 x.name)∧N4 prog w 39 (a.add 3) v_kids)∧(∀(S:World→Prop) (w0:World),S w0→(∀w,S w→B5 h (i4 w))→N5 prog S 3 a (.int .i64 x.op)∧N5 prog S 2 (a.add 1) (.int .i64 x.n)∧N5 prog S 9 (a.add 2) (o9 x.name)∧N5 prog S 39 (a.add 3) v_kids):=by
 obtain⟨cs,he,hc⟩:=ha;obtain⟨v_kids,rfl,h_kids⟩:=bZ8 he;exact⟨_,h_kids,fun w hw=>⟨E0 hc rfl F3 w hw,v8 hc (o:=1) rfl cL3 w hw,v8 hc (o:=2) rfl W4 w hw,v8 hc (o:=3) rfl cd8 w hw⟩,fun S w0 hS hw=>⟨R4 hS fun w' hw'=>E0 hc rfl F3 w' (hw w' hw'),R4 hS fun w' hw'=>v8 hc (o:=1) rfl cL3 w' (hw w' hw'),R4 hS fun w' hw'=>v8 hc (o:=2) rfl W4 w' (hw w' hw'),R4 hS fun w' hw'=>v8 hc (o:=3) rfl cd8 w' (hw w' hw')⟩⟩
theorem I2.ex{h k:Hp}{a:Addr}{v:Value}{x:Ex}(hv:SV h v x)(ha:I2 k a v):∃v_kids,R h v_kids x.kids∧(∀w,B5 k (i4 w)→N4 prog w 3 a (.int .i64 x.op)∧N4 prog w 2 (a.add 1) (.int .i64 x.n)∧N4 prog w 9 (a.add 2) (o9 x.name)∧N4 prog w 39 (a.add 3) v_kids)∧(∀(S:World→Prop) (w0:World),S w0→(∀w,S w→B5 k (i4 w))→N5 prog S 3 a (.int .i64 x.op)∧N5 prog S 2 (a.add 1) (.int .i64 x.n)∧N5 prog S 9 (a.add 2) (o9 x.name)∧N5 prog S 39 (a.add 3) v_kids):=by
 obtain⟨cs,rfl,he⟩:=hv;obtain⟨cs2,e2,hc⟩:=ha;obtain rfl:=ah3 e2;obtain⟨v_kids,rfl,h_kids⟩:=bZ8 he;exact⟨_,h_kids,fun w hw=>⟨E0 hc rfl F3 w hw,v8 hc (o:=1) rfl cL3 w hw,v8 hc (o:=2) rfl W4 w hw,v8 hc (o:=3) rfl cd8 w hw⟩,fun S w0 hS hw=>⟨R4 hS fun w' hw'=>E0 hc rfl F3 w' (hw w' hw'),R4 hS fun w' hw'=>v8 hc (o:=1) rfl cL3 w' (hw w' hw'),R4 hS fun w' hw'=>v8 hc (o:=2) rfl W4 w' (hw w' hw'),R4 hS fun w' hw'=>v8 hc (o:=3) rfl cd8 w' (hw w' hw')⟩⟩
theorem I2.ex_v{h k:Hp}{a:Addr}{v:Value}{x:Ex}(hv:SV h v x)(ha:I2 k a v):(∀w,B5 k (i4 w)→N4 prog w 41 a v)∧(∀(S:World→Prop) (w0:World),S w0→(∀w,S w→B5 k (i4 w))→N5 prog S 41 a v):=ha.whole hv bc6 bc9 aS6 ae4
theorem be3{h:Hp}{v:Value}{x:Ex}{w:World}(N:Nat→Prop)(hv:SV h v x)(hN:∀b,N b→b<w.heap.size):∃a w',(Instr.box 41 v).run prog w = .ok (.pointer (some a)) w'∧o7 w w'∧I2 (B7 w' N) a v:=cg7 hv hN
theorem cL8{h:Hp}{v:Value}{x:Ex}{w:World}(N:Nat→Prop)(hv:SV h v x)(hN:∀b,N b→b<w.heap.size):∃a wz w',(Instr.alloc 41 true (.tuple #[])).run prog w = .ok (.pointer (some a)) wz∧(Instr.storeAt 41 (.pointer (some a)) v).run prog wz = .ok () w'∧o7 w w'∧I2 (B7 w' N) a v:=bW8 hv hN cD4 rfl ae4
theorem At.ex_v{h:Hp}{a:Addr}{x:Ex}(ha:At h a x):∃sv,SV h sv x∧(∀w,B5 h (i4 w)→N4 prog w 41 a sv)∧(∀(S:World→Prop) (w0:World),S w0→(∀w,S w→B5 h (i4 w))→N5 prog S 41 a sv):=ha.sv2 bc6 bc9 aS6 ae4
theorem ah4{h:Hp}{v:Value}{x:Ex}{w:World}(hv:SV h v x)(hw:B5 h (i4 w)):∃a w',(Instr.box 41 v).run prog w = .ok (.pointer (some a)) w'∧o7 w w'∧At (i4 w') a x:=by6 hv hw
theorem cL4{h:Hp}{v:Value}{x:Ex}{w:World}(hv:SV h v x)(hw:B5 h (i4 w)):∃a wz w',(Instr.alloc 41 true (.tuple #[])).run prog w = .ok (.pointer (some a)) wz∧(Instr.storeAt 41 (.pointer (some a)) v).run prog wz = .ok () w'∧o7 w w'∧At (i4 w') a x:=bo0 hv hw cD4 rfl ae4
theorem bZ7{h:Hp}{cs:List Value}{x:Ar}:A3.enc h cs x→∃c_x,cs=([.bool x.ref]:List Value)++([o9 x.name]:List Value)++c_x∧A3.enc h c_x x.x:=by
 rintro⟨c,rfl,h1⟩;exact⟨c,rfl,h1⟩
theorem At.ar{h:Hp}{a:Addr}{x:Ar}(ha:At h a x):At h (a.add 2) x.x∧(∀w,B5 h (i4 w)→N4 prog w 4 a (.bool x.ref)∧N4 prog w 9 (a.add 1) (o9 x.name))∧(∀(S:World→Prop) (w0:World),S w0→(∀w,S w→B5 h (i4 w))→N5 prog S 4 a (.bool x.ref)∧N5 prog S 9 (a.add 1) (o9 x.name)):=by
 obtain⟨cs,he,hc⟩:=ha;obtain⟨c_x,rfl,h_x⟩:=bZ7 he;obtain⟨a_x0,a_x1,a_x2,a_x3,rfl⟩:=bu1 (A3.len h_x);exact⟨bd9 hc h_x (fun j u hj=>by
  match j,hj with
  | 0,hj=>exact hj
  | 1,hj=>exact hj
  | 2,hj=>exact hj
  | 3,hj=>exact hj
  | m+4,hj=>simp at hj),fun w hw=>⟨E0 hc rfl ak1 w hw,v8 hc (o:=1) rfl W4 w hw⟩,fun S w0 hS hw=>⟨R4 hS fun w' hw'=>E0 hc rfl ak1 w' (hw w' hw'),R4 hS fun w' hw'=>v8 hc (o:=1) rfl W4 w' (hw w' hw')⟩⟩
theorem I2.ar{h k:Hp}{a:Addr}{v:Value}{x:Ar}(hv:SV h v x)(ha:I2 k a v):∃u_x,SV h u_x x.x∧I2 k (a.add 2) u_x∧(∀w,B5 k (i4 w)→N4 prog w 4 a (.bool x.ref)∧N4 prog w 9 (a.add 1) (o9 x.name))∧(∀(S:World→Prop) (w0:World),S w0→(∀w,S w→B5 k (i4 w))→N5 prog S 4 a (.bool x.ref)∧N5 prog S 9 (a.add 1) (o9 x.name)):=by
 obtain⟨cs,rfl,he⟩:=hv;obtain⟨cs2,e2,hc⟩:=ha;obtain rfl:=ah3 e2;obtain⟨c_x,rfl,h_x⟩:=bZ7 he;obtain⟨a_x0,a_x1,a_x2,a_x3,rfl⟩:=bu1 (A3.len h_x);exact⟨_,⟨_,rfl,h_x⟩,bg0 hc (fun j u hj=>by
  match j,hj with
  | 0,hj=>exact hj
  | 1,hj=>exact hj
  | 2,hj=>exact hj
  | 3,hj=>exact hj
  | m+4,hj=>simp at hj),fun w hw=>⟨E0 hc rfl ak1 w hw,v8 hc (o:=1) rfl W4 w hw⟩,fun S w0 hS hw=>⟨R4 hS fun w' hw'=>E0 hc rfl ak1 w' (hw w' hw'),R4 hS fun w' hw'=>v8 hc (o:=1) rfl W4 w' (hw w' hw')⟩⟩
theorem ce7{h:Hp}{v:Value}{x:Ar}{w:World}(N:Nat→Prop)(hv:SV h v x)(hN:∀b,N b→b<w.heap.size):∃a wz w',(Instr.alloc 101 true (.tuple #[])).run prog w = .ok (.pointer (some a)) wz∧(Instr.storeAt 101 (.pointer (some a)) v).run prog wz = .ok () w'∧o7 w w'∧I2 (B7 w' N) a v:=bW8 hv hN cC9 rfl S4
theorem At.ar_v{h:Hp}{a:Addr}{x:Ar}(ha:At h a x):∃sv,SV h sv x∧(∀w,B5 h (i4 w)→N4 prog w 101 a sv)∧(∀(S:World→Prop) (w0:World),S w0→(∀w,S w→B5 h (i4 w))→N5 prog S 101 a sv):=ha.sv2 az1 az3 at1 S4
theorem bY4{h:Hp}{v:Value}{x:Ar}{w:World}(hv:SV h v x)(hw:B5 h (i4 w)):∃a w',(Instr.box 101 v).run prog w = .ok (.pointer (some a)) w'∧o7 w w'∧At (i4 w') a x:=by6 hv hw
theorem aI6{h:Hp}{v:Value}{x:Ar}{w:World}(hv:SV h v x)(hw:B5 h (i4 w)):∃a wz w',(Instr.alloc 101 true (.tuple #[])).run prog w = .ok (.pointer (some a)) wz∧(Instr.storeAt 101 (.pointer (some a)) v).run prog wz = .ok () w'∧o7 w w'∧At (i4 w') a x:=bo0 hv hw cC9 rfl S4
theorem ca1{h:Hp}{cs:List Value}{x:St}:A3.enc h cs x→∃v_labels c_x v_args v_thn v_els,cs=([.int .i64 x.id]:List Value)++([.int .i64 x.kind]:List Value)++([v_labels]:List Value)++([o9 x.name]:List Value)++([o9 x.proc]:List Value)++c_x++([.bool x.has]:List Value)++([v_args]:List Value)++([v_thn]:List Value)++([v_els]:List Value)∧R h v_labels x.labels∧A3.enc h c_x x.x∧R h v_args x.args∧R h v_thn x.thn∧R h v_els x.els:=by
 intro he;obtain⟨vl,cx,va,vt,ve,rfl,h1,h2,h3,h4,h5⟩:=aU4.1 he;exact⟨vl,cx,va,vt,ve,by simp,h1,h2,h3,h4,h5⟩
theorem At.st{h:Hp}{a:Addr}{x:St}(ha:At h a x):∃v_labels v_args v_thn v_els,R h v_labels x.labels∧R h v_args x.args∧R h v_thn x.thn∧R h v_els x.els∧At h (a.add 5) x.x∧(∀w,B5 h (i4 w)→N4 prog w 3 a (.int .i64 x.id)∧N4 prog w 3 (a.add 1) (.int .i64 x.kind)∧N4 prog w 22 (a.add 2) v_labels∧N4 prog w 9 (a.add 3) (o9 x.name)∧N4 prog w 9 (a.add 4) (o9 x.proc)∧N4 prog w 4 (a.add 9) (.bool x.has)∧N4 prog w 42 (a.add 10) v_args∧N4 prog w 43 (a.add 11) v_thn∧N4 prog w 43 (a.add 12) v_els)∧(∀(S:World→Prop) (w0:World),S w0→(∀w,S w→B5 h (i4 w))→N5 prog S 3 a (.int .i64 x.id)∧N5 prog S 3 (a.add 1) (.int .i64 x.kind)∧N5 prog S 22 (a.add 2) v_labels∧N5 prog S 9 (a.add 3) (o9 x.name)∧N5 prog S 9 (a.add 4) (o9 x.proc)∧N5 prog S 4 (a.add 9) (.bool x.has)∧N5 prog S 42 (a.add 10) v_args∧N5 prog S 43 (a.add 11) v_thn∧N5 prog S 43 (a.add 12) v_els):=by
 obtain⟨cs,he,hc⟩:=ha;obtain⟨v_labels,c_x,v_args,v_thn,v_els,rfl,h_labels,h_x,h_args,h_thn,h_els⟩:=ca1 he;obtain⟨a_x0,a_x1,a_x2,a_x3,rfl⟩:=bu1 (A3.len h_x);exact⟨_,_,_,_,h_labels,h_args,h_thn,h_els,bd9 hc h_x (fun j u hj=>by
  match j,hj with
  | 0,hj=>exact hj
  | 1,hj=>exact hj
  | 2,hj=>exact hj
  | 3,hj=>exact hj
  | m+4,hj=>simp at hj),fun w hw=>⟨E0 hc rfl F3 w hw,v8 hc (o:=1) rfl F3 w hw,v8 hc (o:=2) rfl N0 w hw,v8 hc (o:=3) rfl W4 w hw,v8 hc (o:=4) rfl W4 w hw,v8 hc (o:=9) rfl ak1 w hw,v8 hc (o:=10) rfl cd9 w hw,v8 hc (o:=11) rfl aB1 w hw,v8 hc (o:=12) rfl aB1 w hw⟩,fun S w0 hS hw=>⟨R4 hS fun w' hw'=>E0 hc rfl F3 w' (hw w' hw'),R4 hS fun w' hw'=>v8 hc (o:=1) rfl F3 w' (hw w' hw'),R4 hS fun w' hw'=>v8 hc (o:=2) rfl N0 w' (hw w' hw'),R4 hS fun w' hw'=>v8 hc (o:=3) rfl W4 w' (hw w' hw'),R4 hS fun w' hw'=>v8 hc (o:=4) rfl W4 w' (hw w' hw'),R4 hS fun w' hw'=>v8 hc (o:=9) rfl ak1 w' (hw w' hw'),R4 hS fun w' hw'=>v8 hc (o:=10) rfl cd9 w' (hw w' hw'),R4 hS fun w' hw'=>v8 hc (o:=11) rfl aB1 w' (hw w' hw'),R4 hS fun w' hw'=>v8 hc (o:=12) rfl aB1 w' (hw w' hw')⟩⟩
theorem I2.st{h k:Hp}{a:Addr}{v:Value}{x:St}(hv:SV h v x)(ha:I2 k a v):∃v_labels u_x v_args v_thn v_els,R h v_labels x.labels∧SV h u_x x.x∧I2 k (a.add 5) u_x∧R h v_args x.args∧R h v_thn x.thn∧R h v_els x.els∧(∀w,B5 k (i4 w)→N4 prog w 3 a (.int .i64 x.id)∧N4 prog w 3 (a.add 1) (.int .i64 x.kind)∧N4 prog w 22 (a.add 2) v_labels∧N4 prog w 9 (a.add 3) (o9 x.name)∧N4 prog w 9 (a.add 4) (o9 x.proc)∧N4 prog w 4 (a.add 9) (.bool x.has)∧N4 prog w 42 (a.add 10) v_args∧N4 prog w 43 (a.add 11) v_thn∧N4 prog w 43 (a.add 12) v_els)∧(∀(S:World→Prop) (w0:World),S w0→(∀w,S w→B5 k (i4 w))→N5 prog S 3 a (.int .i64 x.id)∧N5 prog S 3 (a.add 1) (.int .i64 x.kind)∧N5 prog S 22 (a.add 2) v_labels∧N5 prog S 9 (a.add 3) (o9 x.name)∧N5 prog S 9 (a.add 4) (o9 x.proc)∧N5 prog S 4 (a.add 9) (.bool x.has)∧N5 prog S 42 (a.add 10) v_args∧N5 prog S 43 (a.add 11) v_thn∧N5 prog S 43 (a.add 12) v_els):=by
 obtain⟨cs,rfl,he⟩:=hv;obtain⟨cs2,e2,hc⟩:=ha;obtain rfl:=ah3 e2;obtain⟨v_labels,c_x,v_args,v_thn,v_els,rfl,h_labels,h_x,h_args,h_thn,h_els⟩:=ca1 he;obtain⟨a_x0,a_x1,a_x2,a_x3,rfl⟩:=bu1 (A3.len h_x);exact⟨_,_,_,_,_,h_labels,⟨_,rfl,h_x⟩,bg0 hc (fun j u hj=>by
  match j,hj with
  | 0,hj=>exact hj
  | 1,hj=>exact hj
  | 2,hj=>exact hj
  | 3,hj=>exact hj
  | m+4,hj=>simp at hj),h_args,h_thn,h_els,fun w hw=>⟨E0 hc rfl F3 w hw,v8 hc (o:=1) rfl F3 w hw,v8 hc (o:=2) rfl N0 w hw,v8 hc (o:=3) rfl W4 w hw,v8 hc (o:=4) rfl W4 w hw,v8 hc (o:=9) rfl ak1 w hw,v8 hc (o:=10) rfl cd9 w hw,v8 hc (o:=11) rfl aB1 w hw,v8 hc (o:=12) rfl aB1 w hw⟩,fun S w0 hS hw=>⟨R4 hS fun w' hw'=>E0 hc rfl F3 w' (hw w' hw'),R4 hS fun w' hw'=>v8 hc (o:=1) rfl F3 w' (hw w' hw'),R4 hS fun w' hw'=>v8 hc (o:=2) rfl N0 w' (hw w' hw'),R4 hS fun w' hw'=>v8 hc (o:=3) rfl W4 w' (hw w' hw'),R4 hS fun w' hw'=>v8 hc (o:=4) rfl W4 w' (hw w' hw'),R4 hS fun w' hw'=>v8 hc (o:=9) rfl ak1 w' (hw w' hw'),R4 hS fun w' hw'=>v8 hc (o:=10) rfl cd9 w' (hw w' hw'),R4 hS fun w' hw'=>v8 hc (o:=11) rfl aB1 w' (hw w' hw'),R4 hS fun w' hw'=>v8 hc (o:=12) rfl aB1 w' (hw w' hw')⟩⟩
theorem I2.st_v{h k:Hp}{a:Addr}{v:Value}{x:St}(hv:SV h v x)(ha:I2 k a v):(∀w,B5 k (i4 w)→N4 prog w 45 a v)∧(∀(S:World→Prop) (w0:World),S w0→(∀w,S w→B5 k (i4 w))→N5 prog S 45 a v):=ha.whole hv bc7 bd0 aK7 Y1
theorem bY9{h:Hp}{v:Value}{x:St}{w:World}(N:Nat→Prop)(hv:SV h v x)(hN:∀b,N b→b<w.heap.size):∃a w',(Instr.box 45 v).run prog w = .ok (.pointer (some a)) w'∧o7 w w'∧I2 (B7 w' N) a v:=cg7 hv hN
theorem cL9{h:Hp}{v:Value}{x:St}{w:World}(N:Nat→Prop)(hv:SV h v x)(hN:∀b,N b→b<w.heap.size):∃a wz w',(Instr.alloc 45 true (.tuple #[])).run prog w = .ok (.pointer (some a)) wz∧(Instr.storeAt 45 (.pointer (some a)) v).run prog wz = .ok () w'∧o7 w w'∧I2 (B7 w' N) a v:=bW8 hv hN ce3 rfl Y1
theorem At.st_v{h:Hp}{a:Addr}{x:St}(ha:At h a x):∃sv,SV h sv x∧(∀w,B5 h (i4 w)→N4 prog w 45 a sv)∧(∀(S:World→Prop) (w0:World),S w0→(∀w,S w→B5 h (i4 w))→N5 prog S 45 a sv):=ha.sv2 bc7 bd0 aK7 Y1
theorem ah5{h:Hp}{v:Value}{x:St}{w:World}(hv:SV h v x)(hw:B5 h (i4 w)):∃a w',(Instr.box 45 v).run prog w = .ok (.pointer (some a)) w'∧o7 w w'∧At (i4 w') a x:=by6 hv hw
theorem aI7{h:Hp}{v:Value}{x:St}{w:World}(hv:SV h v x)(hw:B5 h (i4 w)):∃a wz w',(Instr.alloc 45 true (.tuple #[])).run prog w = .ok (.pointer (some a)) wz∧(Instr.storeAt 45 (.pointer (some a)) v).run prog wz = .ok () w'∧o7 w w'∧At (i4 w') a x:=bo0 hv hw ce3 rfl Y1
theorem ca0{h:Hp}{cs:List Value}{x:Pr}:A3.enc h cs x→∃v_params v_vars v_body v_fin,cs=([o9 x.name]:List Value)++([v_params]:List Value)++([v_vars]:List Value)++([v_body]:List Value)++([v_fin]:List Value)∧R h v_params x.params∧R h v_vars x.vars∧R h v_body x.body∧R h v_fin x.fin:=by
 rintro⟨v1,v2,v3,v4,rfl,h1,h2,h3,h4⟩;exact⟨v1,v2,v3,v4,rfl,h1,h2,h3,h4⟩
theorem At.pr{h:Hp}{a:Addr}{x:Pr}(ha:At h a x):∃v_params v_vars v_body v_fin,R h v_params x.params∧R h v_vars x.vars∧R h v_body x.body∧R h v_fin x.fin∧(∀w,B5 h (i4 w)→N4 prog w 9 a (o9 x.name)∧N4 prog w 49 (a.add 1) v_params∧N4 prog w 22 (a.add 2) v_vars∧N4 prog w 43 (a.add 3) v_body∧N4 prog w 22 (a.add 4) v_fin)∧(∀(S:World→Prop) (w0:World),S w0→(∀w,S w→B5 h (i4 w))→N5 prog S 9 a (o9 x.name)∧N5 prog S 49 (a.add 1) v_params∧N5 prog S 22 (a.add 2) v_vars∧N5 prog S 43 (a.add 3) v_body∧N5 prog S 22 (a.add 4) v_fin):=by
 obtain⟨cs,he,hc⟩:=ha;obtain⟨v_params,v_vars,v_body,v_fin,rfl,h_params,h_vars,h_body,h_fin⟩:=ca0 he;exact⟨_,_,_,_,h_params,h_vars,h_body,h_fin,fun w hw=>⟨E0 hc rfl W4 w hw,v8 hc (o:=1) rfl ce0 w hw,v8 hc (o:=2) rfl N0 w hw,v8 hc (o:=3) rfl aB1 w hw,v8 hc (o:=4) rfl N0 w hw⟩,fun S w0 hS hw=>⟨R4 hS fun w' hw'=>E0 hc rfl W4 w' (hw w' hw'),R4 hS fun w' hw'=>v8 hc (o:=1) rfl ce0 w' (hw w' hw'),R4 hS fun w' hw'=>v8 hc (o:=2) rfl N0 w' (hw w' hw'),R4 hS fun w' hw'=>v8 hc (o:=3) rfl aB1 w' (hw w' hw'),R4 hS fun w' hw'=>v8 hc (o:=4) rfl N0 w' (hw w' hw')⟩⟩
theorem I2.pr{h k:Hp}{a:Addr}{v:Value}{x:Pr}(hv:SV h v x)(ha:I2 k a v):∃v_params v_vars v_body v_fin,R h v_params x.params∧R h v_vars x.vars∧R h v_body x.body∧R h v_fin x.fin∧(∀w,B5 k (i4 w)→N4 prog w 9 a (o9 x.name)∧N4 prog w 49 (a.add 1) v_params∧N4 prog w 22 (a.add 2) v_vars∧N4 prog w 43 (a.add 3) v_body∧N4 prog w 22 (a.add 4) v_fin)∧(∀(S:World→Prop) (w0:World),S w0→(∀w,S w→B5 k (i4 w))→N5 prog S 9 a (o9 x.name)∧N5 prog S 49 (a.add 1) v_params∧N5 prog S 22 (a.add 2) v_vars∧N5 prog S 43 (a.add 3) v_body∧N5 prog S 22 (a.add 4) v_fin):=by
 obtain⟨cs,rfl,he⟩:=hv;obtain⟨cs2,e2,hc⟩:=ha;obtain rfl:=ah3 e2;obtain⟨v_params,v_vars,v_body,v_fin,rfl,h_params,h_vars,h_body,h_fin⟩:=ca0 he;exact⟨_,_,_,_,h_params,h_vars,h_body,h_fin,fun w hw=>⟨E0 hc rfl W4 w hw,v8 hc (o:=1) rfl ce0 w hw,v8 hc (o:=2) rfl N0 w hw,v8 hc (o:=3) rfl aB1 w hw,v8 hc (o:=4) rfl N0 w hw⟩,fun S w0 hS hw=>⟨R4 hS fun w' hw'=>E0 hc rfl W4 w' (hw w' hw'),R4 hS fun w' hw'=>v8 hc (o:=1) rfl ce0 w' (hw w' hw'),R4 hS fun w' hw'=>v8 hc (o:=2) rfl N0 w' (hw w' hw'),R4 hS fun w' hw'=>v8 hc (o:=3) rfl aB1 w' (hw w' hw'),R4 hS fun w' hw'=>v8 hc (o:=4) rfl N0 w' (hw w' hw')⟩⟩
theorem I2.pr_v{h k:Hp}{a:Addr}{v:Value}{x:Pr}(hv:SV h v x)(ha:I2 k a v):(∀w,B5 k (i4 w)→N4 prog w 51 a v)∧(∀(S:World→Prop) (w0:World),S w0→(∀w,S w→B5 k (i4 w))→N5 prog S 51 a v):=ha.whole hv ae2 ae5 ac8 I4
theorem bY8{h:Hp}{v:Value}{x:Pr}{w:World}(N:Nat→Prop)(hv:SV h v x)(hN:∀b,N b→b<w.heap.size):∃a w',(Instr.box 51 v).run prog w = .ok (.pointer (some a)) w'∧o7 w w'∧I2 (B7 w' N) a v:=cg7 hv hN
theorem am3{h:Hp}{v:Value}{x:Pr}{w:World}(N:Nat→Prop)(hv:SV h v x)(hN:∀b,N b→b<w.heap.size):∃a wz w',(Instr.alloc 51 true (.tuple #[])).run prog w = .ok (.pointer (some a)) wz∧(Instr.storeAt 51 (.pointer (some a)) v).run prog wz = .ok () w'∧o7 w w'∧I2 (B7 w' N) a v:=bW8 hv hN ce4 rfl I4
theorem be1{h:Hp}{v:Value}{x:Pr}{w:World}(hv:SV h v x)(hw:B5 h (i4 w)):∃a w',(Instr.box 51 v).run prog w = .ok (.pointer (some a)) w'∧o7 w w'∧At (i4 w') a x:=by6 hv hw
theorem az8{h:Hp}{v:Value}{x:Pr}{w:World}(hv:SV h v x)(hw:B5 h (i4 w)):∃a wz w',(Instr.alloc 51 true (.tuple #[])).run prog w = .ok (.pointer (some a)) wz∧(Instr.storeAt 51 (.pointer (some a)) v).run prog wz = .ok () w'∧o7 w w'∧At (i4 w') a x:=bo0 hv hw ce4 rfl I4
theorem bz4{h:Hp}{cs:List Value}{x:Pg}:A3.enc h cs x→∃v_globals v_procs,cs=([v_globals]:List Value)++([v_procs]:List Value)∧R h v_globals x.globals∧R h v_procs x.procs:=by
 rintro⟨v1,v2,rfl,h1,h2⟩;exact⟨v1,v2,rfl,h1,h2⟩
theorem At.pg{h:Hp}{a:Addr}{x:Pg}(ha:At h a x):∃v_globals v_procs,R h v_globals x.globals∧R h v_procs x.procs∧(∀w,B5 h (i4 w)→N4 prog w 22 a v_globals∧N4 prog w 23 (a.add 1) v_procs)∧(∀(S:World→Prop) (w0:World),S w0→(∀w,S w→B5 h (i4 w))→N5 prog S 22 a v_globals∧N5 prog S 23 (a.add 1) v_procs):=by
 obtain⟨cs,he,hc⟩:=ha;obtain⟨v_globals,v_procs,rfl,h_globals,h_procs⟩:=bz4 he;exact⟨_,_,h_globals,h_procs,fun w hw=>⟨E0 hc rfl N0 w hw,v8 hc (o:=1) rfl bM8 w hw⟩,fun S w0 hS hw=>⟨R4 hS fun w' hw'=>E0 hc rfl N0 w' (hw w' hw'),R4 hS fun w' hw'=>v8 hc (o:=1) rfl bM8 w' (hw w' hw')⟩⟩
theorem I2.pg{h k:Hp}{a:Addr}{v:Value}{x:Pg}(hv:SV h v x)(ha:I2 k a v):∃v_globals v_procs,R h v_globals x.globals∧R h v_procs x.procs∧(∀w,B5 k (i4 w)→N4 prog w 22 a v_globals∧N4 prog w 23 (a.add 1) v_procs)∧(∀(S:World→Prop) (w0:World),S w0→(∀w,S w→B5 k (i4 w))→N5 prog S 22 a v_globals∧N5 prog S 23 (a.add 1) v_procs):=by
 obtain⟨cs,rfl,he⟩:=hv;obtain⟨cs2,e2,hc⟩:=ha;obtain rfl:=ah3 e2;obtain⟨v_globals,v_procs,rfl,h_globals,h_procs⟩:=bz4 he;exact⟨_,_,h_globals,h_procs,fun w hw=>⟨E0 hc rfl N0 w hw,v8 hc (o:=1) rfl bM8 w hw⟩,fun S w0 hS hw=>⟨R4 hS fun w' hw'=>E0 hc rfl N0 w' (hw w' hw'),R4 hS fun w' hw'=>v8 hc (o:=1) rfl bM8 w' (hw w' hw')⟩⟩
theorem I2.pg_v{h k:Hp}{a:Addr}{v:Value}{x:Pg}(hv:SV h v x)(ha:I2 k a v):(∀w,B5 k (i4 w)→N4 prog w 25 a v)∧(∀(S:World→Prop) (w0:World),S w0→(∀w,S w→B5 k (i4 w))→N5 prog S 25 a v):=ha.whole hv cB3 cC8 cB6 bN1
theorem W7{h:Hp}{v:Value}{x:Pg}{w:World}(N:Nat→Prop)(hv:SV h v x)(hN:∀b,N b→b<w.heap.size):∃a w',(Instr.box 25 v).run prog w = .ok (.pointer (some a)) w'∧o7 w w'∧I2 (B7 w' N) a v:=cg7 hv hN
theorem At.pg_v{h:Hp}{a:Addr}{x:Pg}(ha:At h a x):∃sv,SV h sv x∧(∀w,B5 h (i4 w)→N4 prog w 25 a sv)∧(∀(S:World→Prop) (w0:World),S w0→(∀w,S w→B5 h (i4 w))→N5 prog S 25 a sv):=ha.sv2 cB3 cC8 cB6 bN1
theorem P7{h:Hp}{v:Value}{x:Pg}{w:World}(hv:SV h v x)(hw:B5 h (i4 w)):∃a w',(Instr.box 25 v).run prog w = .ok (.pointer (some a)) w'∧o7 w w'∧At (i4 w') a x:=by6 hv hw
theorem cL6{h:Hp}{v:Value}{x:Pg}{w:World}(hv:SV h v x)(hw:B5 h (i4 w)):∃a wz w',(Instr.alloc 25 true (.tuple #[])).run prog w = .ok (.pointer (some a)) wz∧(Instr.storeAt 25 (.pointer (some a)) v).run prog wz = .ok () w'∧o7 w w'∧At (i4 w') a x:=bo0 hv hw cQ2 rfl bN1
theorem aG7{h:Hp}{cs:List Value}{x:It}:A3.enc h cs x→∃c_s,cs=c_s++([.int .i64 x.proc]:List Value)++([.int .i64 x.up]:List Value)++([.int .i64 x.next]:List Value)++([.int .i64 x.loop]:List Value)∧A3.enc h c_s x.s:=by
 rintro⟨c,rfl,h1⟩;exact⟨c,by simp,h1⟩
theorem At.it{h:Hp}{a:Addr}{x:It}(ha:At h a x):At h a x.s∧(∀w,B5 h (i4 w)→N4 prog w 3 (a.add 13) (.int .i64 x.proc)∧N4 prog w 3 (a.add 14) (.int .i64 x.up)∧N4 prog w 3 (a.add 15) (.int .i64 x.next)∧N4 prog w 3 (a.add 16) (.int .i64 x.loop))∧(∀(S:World→Prop) (w0:World),S w0→(∀w,S w→B5 h (i4 w))→N5 prog S 3 (a.add 13) (.int .i64 x.proc)∧N5 prog S 3 (a.add 14) (.int .i64 x.up)∧N5 prog S 3 (a.add 15) (.int .i64 x.next)∧N5 prog S 3 (a.add 16) (.int .i64 x.loop)):=by
 obtain⟨cs,he,hc⟩:=ha;obtain⟨c_s,rfl,h_s⟩:=aG7 he;obtain⟨a_s0,a_s1,a_s2,a_s3,a_s4,a_s5,a_s6,a_s7,a_s8,a_s9,a_s10,a_s11,a_s12,rfl⟩:=aE2 (A3.len h_s);exact⟨aO2 hc h_s (fun j u hj=>by
  match j,hj with
  | 0,hj=>exact hj
  | 1,hj=>exact hj
  | 2,hj=>exact hj
  | 3,hj=>exact hj
  | 4,hj=>exact hj
  | 5,hj=>exact hj
  | 6,hj=>exact hj
  | 7,hj=>exact hj
  | 8,hj=>exact hj
  | 9,hj=>exact hj
  | 10,hj=>exact hj
  | 11,hj=>exact hj
  | 12,hj=>exact hj
  | m+13,hj=>simp at hj),fun w hw=>⟨v8 hc (o:=13) rfl F3 w hw,v8 hc (o:=14) rfl F3 w hw,v8 hc (o:=15) rfl F3 w hw,v8 hc (o:=16) rfl F3 w hw⟩,fun S w0 hS hw=>⟨R4 hS fun w' hw'=>v8 hc (o:=13) rfl F3 w' (hw w' hw'),R4 hS fun w' hw'=>v8 hc (o:=14) rfl F3 w' (hw w' hw'),R4 hS fun w' hw'=>v8 hc (o:=15) rfl F3 w' (hw w' hw'),R4 hS fun w' hw'=>v8 hc (o:=16) rfl F3 w' (hw w' hw')⟩⟩
theorem I2.it{h k:Hp}{a:Addr}{v:Value}{x:It}(hv:SV h v x)(ha:I2 k a v):∃u_s,SV h u_s x.s∧I2 k a u_s∧(∀w,B5 k (i4 w)→N4 prog w 3 (a.add 13) (.int .i64 x.proc)∧N4 prog w 3 (a.add 14) (.int .i64 x.up)∧N4 prog w 3 (a.add 15) (.int .i64 x.next)∧N4 prog w 3 (a.add 16) (.int .i64 x.loop))∧(∀(S:World→Prop) (w0:World),S w0→(∀w,S w→B5 k (i4 w))→N5 prog S 3 (a.add 13) (.int .i64 x.proc)∧N5 prog S 3 (a.add 14) (.int .i64 x.up)∧N5 prog S 3 (a.add 15) (.int .i64 x.next)∧N5 prog S 3 (a.add 16) (.int .i64 x.loop)):=by
 obtain⟨cs,rfl,he⟩:=hv;obtain⟨cs2,e2,hc⟩:=ha;obtain rfl:=ah3 e2;obtain⟨c_s,rfl,h_s⟩:=aG7 he;obtain⟨a_s0,a_s1,a_s2,a_s3,a_s4,a_s5,a_s6,a_s7,a_s8,a_s9,a_s10,a_s11,a_s12,rfl⟩:=aE2 (A3.len h_s);exact⟨_,⟨_,rfl,h_s⟩,br5 hc (fun j u hj=>by
  match j,hj with
  | 0,hj=>exact hj
  | 1,hj=>exact hj
  | 2,hj=>exact hj
  | 3,hj=>exact hj
  | 4,hj=>exact hj
  | 5,hj=>exact hj
  | 6,hj=>exact hj
  | 7,hj=>exact hj
  | 8,hj=>exact hj
  | 9,hj=>exact hj
  | 10,hj=>exact hj
  | 11,hj=>exact hj
  | 12,hj=>exact hj
  | m+13,hj=>simp at hj),fun w hw=>⟨v8 hc (o:=13) rfl F3 w hw,v8 hc (o:=14) rfl F3 w hw,v8 hc (o:=15) rfl F3 w hw,v8 hc (o:=16) rfl F3 w hw⟩,fun S w0 hS hw=>⟨R4 hS fun w' hw'=>v8 hc (o:=13) rfl F3 w' (hw w' hw'),R4 hS fun w' hw'=>v8 hc (o:=14) rfl F3 w' (hw w' hw'),R4 hS fun w' hw'=>v8 hc (o:=15) rfl F3 w' (hw w' hw'),R4 hS fun w' hw'=>v8 hc (o:=16) rfl F3 w' (hw w' hw')⟩⟩
theorem I2.it_v{h k:Hp}{a:Addr}{v:Value}{x:It}(hv:SV h v x)(ha:I2 k a v):(∀w,B5 k (i4 w)→N4 prog w 121 a v)∧(∀(S:World→Prop) (w0:World),S w0→(∀w,S w→B5 k (i4 w))→N5 prog S 121 a v):=ha.whole hv ab1 ab2 Z1 I7
theorem cG2{h:Hp}{v:Value}{x:It}{w:World}(N:Nat→Prop)(hv:SV h v x)(hN:∀b,N b→b<w.heap.size):∃a w',(Instr.box 121 v).run prog w = .ok (.pointer (some a)) w'∧o7 w w'∧I2 (B7 w' N) a v:=cg7 hv hN
theorem aI8{h:Hp}{v:Value}{x:It}{w:World}(N:Nat→Prop)(hv:SV h v x)(hN:∀b,N b→b<w.heap.size):∃a wz w',(Instr.alloc 121 true (.tuple #[])).run prog w = .ok (.pointer (some a)) wz∧(Instr.storeAt 121 (.pointer (some a)) v).run prog wz = .ok () w'∧o7 w w'∧I2 (B7 w' N) a v:=bW8 hv hN bW7 rfl I7
theorem bY5{h:Hp}{v:Value}{x:It}{w:World}(hv:SV h v x)(hw:B5 h (i4 w)):∃a w',(Instr.box 121 v).run prog w = .ok (.pointer (some a)) w'∧o7 w w'∧At (i4 w') a x:=by6 hv hw
theorem az6{h:Hp}{v:Value}{x:It}{w:World}(hv:SV h v x)(hw:B5 h (i4 w)):∃a wz w',(Instr.alloc 121 true (.tuple #[])).run prog w = .ok (.pointer (some a)) wz∧(Instr.storeAt 121 (.pointer (some a)) v).run prog wz = .ok () w'∧o7 w w'∧At (i4 w') a x:=bo0 hv hw bW7 rfl I7
theorem cH6{h:Hp}{cs:List Value}{x:Sh}:A3.enc h cs x→∃c_p v_l v_lo v_hi,cs=c_p++([v_l]:List Value)++([v_lo]:List Value)++([v_hi]:List Value)∧A3.enc h c_p x.p∧R h v_l x.l∧R h v_lo x.lo∧R h v_hi x.hi:=by
 rintro⟨c,v1,v2,v3,rfl,h1,h2,h3,h4⟩;exact⟨c,v1,v2,v3,by simp,h1,h2,h3,h4⟩
theorem At.sh{h:Hp}{a:Addr}{x:Sh}(ha:At h a x):∃v_l v_lo v_hi,R h v_l x.l∧R h v_lo x.lo∧R h v_hi x.hi∧At h a x.p∧(∀w,B5 h (i4 w)→N4 prog w 111 (a.add 2) v_l∧N4 prog w 112 (a.add 3) v_lo∧N4 prog w 112 (a.add 4) v_hi)∧(∀(S:World→Prop) (w0:World),S w0→(∀w,S w→B5 h (i4 w))→N5 prog S 111 (a.add 2) v_l∧N5 prog S 112 (a.add 3) v_lo∧N5 prog S 112 (a.add 4) v_hi):=by
 obtain⟨cs,he,hc⟩:=ha;obtain⟨c_p,v_l,v_lo,v_hi,rfl,h_p,h_l,h_lo,h_hi⟩:=cH6 he;obtain⟨a_p0,a_p1,rfl⟩:=da0 (A3.len h_p);exact⟨_,_,_,h_l,h_lo,h_hi,aO2 hc h_p (fun j u hj=>by
  match j,hj with
  | 0,hj=>exact hj
  | 1,hj=>exact hj
  | m+2,hj=>simp at hj),fun w hw=>⟨v8 hc (o:=2) rfl aX4 w hw,v8 hc (o:=3) rfl R0 w hw,v8 hc (o:=4) rfl R0 w hw⟩,fun S w0 hS hw=>⟨R4 hS fun w' hw'=>v8 hc (o:=2) rfl aX4 w' (hw w' hw'),R4 hS fun w' hw'=>v8 hc (o:=3) rfl R0 w' (hw w' hw'),R4 hS fun w' hw'=>v8 hc (o:=4) rfl R0 w' (hw w' hw')⟩⟩
structure Im where
 s:St
 deep:Int
 up:Int
 els:Bool
instance:A3 Im where
 sz:=16
 pos:=by omega
 enc h cs p:=∃c,cs=c++[.int .i64 p.deep,.int .i64 p.up,.bool p.els]∧A3.enc h c p.s
 len:=by rintro h cs a ⟨c,rfl,h1⟩;have h4:c.length=13:=A3.len h1;simp[h4]
 mono:=by rintro h k cs a hk ⟨c,rfl,h1⟩;exact⟨c,rfl,A3.mono hk h1⟩
 one:=by
  rintro h cs a ⟨c,rfl,h1⟩ v hv;simp only[ds4,dt1,dw3,dC5]at hv;rcases hv with hv|rfl|rfl|rfl
  ·exact A3.one h1 v hv
  all_goals rfl
theorem bZ9{h:Hp}{cs:List Value}{x:Im}:A3.enc h cs x→∃c_s,cs=c_s++([.int .i64 x.deep]:List Value)++([.int .i64 x.up]:List Value)++([.bool x.els]:List Value)∧A3.enc h c_s x.s:=by
 rintro⟨c,rfl,h1⟩;exact⟨c,by simp,h1⟩
theorem At.im{h:Hp}{a:Addr}{x:Im}(ha:At h a x):At h a x.s∧(∀w,B5 h (i4 w)→N4 prog w 3 (a.add 13) (.int .i64 x.deep)∧N4 prog w 3 (a.add 14) (.int .i64 x.up)∧N4 prog w 4 (a.add 15) (.bool x.els))∧(∀(S:World→Prop) (w0:World),S w0→(∀w,S w→B5 h (i4 w))→N5 prog S 3 (a.add 13) (.int .i64 x.deep)∧N5 prog S 3 (a.add 14) (.int .i64 x.up)∧N5 prog S 4 (a.add 15) (.bool x.els)):=by
 obtain⟨cs,he,hc⟩:=ha;obtain⟨c_s,rfl,h_s⟩:=bZ9 he;obtain⟨a_s0,a_s1,a_s2,a_s3,a_s4,a_s5,a_s6,a_s7,a_s8,a_s9,a_s10,a_s11,a_s12,rfl⟩:=aE2 (A3.len h_s);exact⟨aO2 hc h_s (fun j u hj=>by
  match j,hj with
  | 0,hj=>exact hj
  | 1,hj=>exact hj
  | 2,hj=>exact hj
  | 3,hj=>exact hj
  | 4,hj=>exact hj
  | 5,hj=>exact hj
  | 6,hj=>exact hj
  | 7,hj=>exact hj
  | 8,hj=>exact hj
  | 9,hj=>exact hj
  | 10,hj=>exact hj
  | 11,hj=>exact hj
  | 12,hj=>exact hj
  | m+13,hj=>simp at hj),fun w hw=>⟨v8 hc (o:=13) rfl F3 w hw,v8 hc (o:=14) rfl F3 w hw,v8 hc (o:=15) rfl ak1 w hw⟩,fun S w0 hS hw=>⟨R4 hS fun w' hw'=>v8 hc (o:=13) rfl F3 w' (hw w' hw'),R4 hS fun w' hw'=>v8 hc (o:=14) rfl F3 w' (hw w' hw'),R4 hS fun w' hw'=>v8 hc (o:=15) rfl ak1 w' (hw w' hw')⟩⟩
theorem I2.im{h k:Hp}{a:Addr}{v:Value}{x:Im}(hv:SV h v x)(ha:I2 k a v):∃u_s,SV h u_s x.s∧I2 k a u_s∧(∀w,B5 k (i4 w)→N4 prog w 3 (a.add 13) (.int .i64 x.deep)∧N4 prog w 3 (a.add 14) (.int .i64 x.up)∧N4 prog w 4 (a.add 15) (.bool x.els))∧(∀(S:World→Prop) (w0:World),S w0→(∀w,S w→B5 k (i4 w))→N5 prog S 3 (a.add 13) (.int .i64 x.deep)∧N5 prog S 3 (a.add 14) (.int .i64 x.up)∧N5 prog S 4 (a.add 15) (.bool x.els)):=by
 obtain⟨cs,rfl,he⟩:=hv;obtain⟨cs2,e2,hc⟩:=ha;obtain rfl:=ah3 e2;obtain⟨c_s,rfl,h_s⟩:=bZ9 he;obtain⟨a_s0,a_s1,a_s2,a_s3,a_s4,a_s5,a_s6,a_s7,a_s8,a_s9,a_s10,a_s11,a_s12,rfl⟩:=aE2 (A3.len h_s);exact⟨_,⟨_,rfl,h_s⟩,br5 hc (fun j u hj=>by
  match j,hj with
  | 0,hj=>exact hj
  | 1,hj=>exact hj
  | 2,hj=>exact hj
  | 3,hj=>exact hj
  | 4,hj=>exact hj
  | 5,hj=>exact hj
  | 6,hj=>exact hj
  | 7,hj=>exact hj
  | 8,hj=>exact hj
  | 9,hj=>exact hj
  | 10,hj=>exact hj
  | 11,hj=>exact hj
  | 12,hj=>exact hj
  | m+13,hj=>simp at hj),fun w hw=>⟨v8 hc (o:=13) rfl F3 w hw,v8 hc (o:=14) rfl F3 w hw,v8 hc (o:=15) rfl ak1 w hw⟩,fun S w0 hS hw=>⟨R4 hS fun w' hw'=>v8 hc (o:=13) rfl F3 w' (hw w' hw'),R4 hS fun w' hw'=>v8 hc (o:=14) rfl F3 w' (hw w' hw'),R4 hS fun w' hw'=>v8 hc (o:=15) rfl ak1 w' (hw w' hw')⟩⟩
theorem I2.im_v{h k:Hp}{a:Addr}{v:Value}{x:Im}(hv:SV h v x)(ha:I2 k a v):(∀w,B5 k (i4 w)→N4 prog w 57 a v)∧(∀(S:World→Prop) (w0:World),S w0→(∀w,S w→B5 k (i4 w))→N5 prog S 57 a v):=ha.whole hv bN0 bN3 bw8 ar1
theorem bD0{h:Hp}{v:Value}{x:Im}{w:World}(N:Nat→Prop)(hv:SV h v x)(hN:∀b,N b→b<w.heap.size):∃a wz w',(Instr.alloc 57 true (.tuple #[])).run prog w = .ok (.pointer (some a)) wz∧(Instr.storeAt 57 (.pointer (some a)) v).run prog wz = .ok () w'∧o7 w w'∧I2 (B7 w' N) a v:=bW8 hv hN cQ3 rfl ar1
section
variable {P:Program} {w:World} {h:Hp} {t T sz by_:Nat} {v:Value}
theorem ag3{α:Type}[A3 α]{e:TypeId}(hs:E7 P t T sz by_=true)(hsz:A3.sz α=sz){xs ys:List α}(ho:B0 h w T v xs){u:Value}(hu:R h u ys)
  (hl:xs.length+ys.length≤1000000000000) (hb:(xs.length+ys.length)*by_≤140737488355328) (hw:B5 h (i4 w)) :
  ∃v' w',(Builtin.append_ #[t,t] e #[v,u]).run P w = .ok v' w'∧B0 h w' T v' (xs++ys)∧t8 (A4 v) w w'∧D7 w v v':=by
 obtain⟨h1,⟨z,hz,hzs⟩,h3,h4,h5,h6⟩:=Q0 hs;obtain⟨i,hi,hiz⟩:=A0 hz;have hby:i.bytes=by_:=by rw[←h4,au2 hi]
 have hsi:i.size=sz:=by rw[←h3,C5 hi]
 obtain⟨a,n,c,he,hn,hnc,es,hes,hce⟩:=hu;simp at he;subst he;have ht:=L7 h1;by_cases hy:ys=[]
 ·subst hy;refine⟨v,w,?_,by simpa using ho,t8.refl _,fun b hb=>.inl hb⟩;have hn0:n=0:=by simpa using hn
  subst hn0;rcases ho with⟨rfl,rfl⟩|⟨b,c',cur,rfl,k1,k2,k3,k4,k5,k6⟩
  ·cases a<;>simp[Builtin.append_,run_underlying ht,sizeOf,typeInfo,hi,Builtin.lenOf,Builtin.firstCells,loadCells,loadCellsFrom]
  ·cases a<;>simp[Builtin.append_,run_underlying ht,sizeOf,typeInfo,hi,Builtin.lenOf,Builtin.firstCells,loadCells,loadCellsFrom,k3,storeCells]
 ·have hne:es≠[]:=by
   intro e;have:=J9 hes;rw[e]at this;have hp:0<ys.length:=List.length_pos_iff.2 hy;have:=A3.pos (α:=α);have:=Nat.mul_pos hp this;simp at *;omega
  obtain⟨x0,hx0⟩:∃x0,es[0]?=some x0:=by
   cases es with
   | nil=>exact absurd rfl hne
   | cons x _=>exact⟨x,rfl⟩
  obtain⟨ad,rfl,_⟩:=hce 0 x0 hx0;exact aM4 (e:=e) ht hi hiz (by rw[hsi,hsz]) (by rw[hzs,hsi]) ho (ad:=ad) hn hes (fun j u hj=>by
   obtain⟨ad',e',hc⟩:=hce j u hj;obtain rfl:=ds8 e';exact F6 hw hc) hy (by simp only[maxLen];omega) (by rw[hby];exact hb) hw
theorem da1{α:Type}[A3 α](hs:E7 P t T sz by_=true)(hw:B5 h (i4 w)):
  ∃v w',(Instr.buildSlice t 0 #[]).run P w = .ok v w'∧B0 h w' T v ([]:List α)∧o7 w w'∧(∀b,A4 v b→w.heap.size≤b):=by
 obtain⟨h1,⟨z,hz,hzs⟩,h3,h4,h5,h6⟩:=Q0 hs;obtain⟨i,hi,hiz⟩:=A0 hz;refine⟨.slice (some ⟨w.heap.size,0,none⟩) 0 0,w.alloc (.cells #[] T),?_,.inr ⟨w.heap.size,0,#[],rfl,ax2 hw (ds5 _),dv4 w _,by simp,by simp,by simp,by simp[N1]⟩,o7.alloc _ _,fun b hb=>by simp[A4,Value.ownBlock]at hb;omega⟩;unfold Instr.buildSlice;simp only[dt3,F2,L7 h1,ds6,N6 (show(P.info? T).isSome=true by rw[hi];rfl),Sem.run_ite,Nat.zero_mul,du6];rw[if_neg (by decide),if_pos trivial];have e0:∀(g:Nat→Value),(Array.range 0).map g=#[]:=fun g=>by simp
 simp only[e0,Instr.fill];rfl
end
section
variable {P:Program} {h k:Hp} {w:World} {t T sz by_:Nat} {v u:Value}
theorem aj1{α:Type}[I8 α]{e:TypeId}(hs:E7 P t T 1 by_=true){xs ys:List α}(ho:B0 h w T v xs)(hu:R k u ys)(hk:B5 k (i4 w))(h63:xs.length+ys.length≤1000000000000)(hb:(xs.length+ys.length)*by_≤140737488355328)(hw:B5 h (i4 w)):
  ∃v' w',(Builtin.append_ #[t,t] e #[v,u]).run P w = .ok v' w'∧B0 h w' T v' (xs++ys)∧t8 (A4 v) w w'∧D7 w v v':=by
 obtain⟨h1,⟨z,hz,hzs⟩,h3,h4,h5,h6⟩:=Q0 hs;obtain⟨i,hi,hiz⟩:=A0 hz;have hby:i.bytes=by_:=by rw[←h4,au2 hi]
 have hsi:i.size=1:=by rw[←h3,C5 hi]
 by_cases hy:ys=[]
 ·subst hy;obtain⟨a,n,c,he,hn,hnc,es,hes,hce⟩:=hu;have hu':R h u ([]:List α):=⟨a,n,c,he,hn,hnc,[],rfl,fun j u hj=>by simp at hj⟩;exact ag3 hs rfl ho hu' h63 hb hw
 ·obtain⟨a,n,c,he,hn,hnc,es,hes,hce⟩:=hu;simp at he;subst he;have hne:es≠[]:=by
   intro e;have:=J9 hes;rw[e]at this;have hp:0<ys.length:=List.length_pos_iff.2 hy;have h7:(A3.sz α)=1:=rfl;rw[h7]at this;simp at this;omega
  obtain⟨x0,hx0⟩:∃x0,es[0]?=some x0:=by
   cases es with
   | nil=>exact absurd rfl hne
   | cons x _=>exact⟨x,rfl⟩
  obtain⟨ad,rfl,_⟩:=hce 0 x0 hx0;exact aM4 (e:=e) (L7 h1) hi hiz (by rw[hsi];rfl) (by rw[hzs,hsi]) ho (ad:=ad) hn (aU5 hes) (fun j u hj=>by
   obtain⟨ad',e',hc⟩:=hce j u hj;obtain rfl:=ds8 e';exact F6 hk hc) hy (by simp only[maxLen];omega) (by rw[hby];exact hb) hw
end
section
variable {P:Program} {K:Fr→World→Prop} {f:Fr} {w:World} {d:Option Nat} {ty:TypeId} {pos:String} {aft:Array Edge} {S:World→Prop}
def bg3(P:Program)(g:Value)(args:List Value)(w:World)(K:Fr→World→Prop)(f:Fr)(d:Option Nat):Prop:=match g with
 | .func (.func k) first cap=>at5 P k (first.toList++args++cap.toList) w K f d
 | _=>False
theorem cY9{k:Nat}{first cap:Array Value}{args:List Value}:bg3 P (.func (.func k) first cap) args w K f d=at5 P k (first.toList++args++cap.toList) w K f d:=propext dy2
theorem db0{j:Nat}{asz:Array Operand}{ts:Array TypeId}:B1 P none ⟨d,.call {callee:=.value (.tmp j),args:=asz,argTypes:=ts},ty,pos,aft,none⟩ K f w=bg3 P (f j) (asz.toList.map (ev f)) w K f d:=by
 simp only[B1,as3,Y9,bd5,ev,aK2,bg3]
 all_goals (generalize f j=g;cases g<;>try rfl)
theorem da7{j:Nat}{asz:Array Operand}{ts:Array TypeId}:B1 P (some S) ⟨d,.call {callee:=.value (.tmp j),args:=asz,argTypes:=ts},ty,pos,aft,none⟩ K f w=bg3 P (f j) (asz.toList.map (ev f)) w (F1 S K) f d:=by
 simp only[B1,as3,Y9,bd5,ev,aK2,bg3]
 all_goals (generalize f j=g;cases g<;>try rfl)
end
theorem cZ2{P:Program}{b d:Code}{Q:Exit→Fr→World→Prop}{f:Fr}{w:World}(keep:List Nat)(I:Fr→World→Prop)(hkp:keep.all (fun i=>!(wrC b).contains i)=true)
  (h1:CW P b (W1 I Q) f w) (h2:∀f' w',(∀i∈keep,f' i=f i)→I f' w'→CW P d Q f' w'):CW P (.seq b d) Q f w:=by
 rw[bf3];refine co6 b (W1 I Q) _ f w (fun e f' w' hf h=>?_) h1;have hk':∀i∈keep,f' i=f i:=fun i hi=>hf i fun hm=>by
  have:=dx6.1 hkp i hi;simp[hm]at this
 cases e
 case normal=>exact h2 f' w' hk' h
 all_goals exact h
def ad5(c:UInt8):Bool:=decide (97≤c.toNat)&&decide (c.toNat≤122)
def aL8(c:UInt8):Bool:=decide (48≤c.toNat)&&decide (c.toNat≤57)
def Y4(c:UInt8):Bool:=ad5 c||aL8 c
def ak2:List A7:=[ofA #[103,108,111,98,97,108],ofA #[112,114,111,99],ofA #[118,97,114],ofA #[114,101,102],ofA #[105,102],ofA #[101,108,115,101],ofA #[119,104,105,108,101],ofA #[98,114,101,97,107],ofA #[99,111,110,116,105,110,117,101],ofA #[114,101,116,117,114,110],ofA #[103,111,116,111],ofA #[114,101,97,100],ofA #[112,114,105,110,116]]
def bo2(s:A7):Bool:=ak2.contains s
def K8(s:A7):Bool:=match s.b with
 | []=>false
 | c::l=>decide (l.length<8)&&ad5 c&&l.all Y4 && !bo2 s
def O0(l:List A7):Bool:=l.all K8
def ac1(op:Int):Int:=if op=1∨op=2 then 0 else if op=3∨op=4 then 1 else if 5≤op∧op≤17 then 2 else -1
def P3:Nat→Ex→Bool
 | 0,_=>false
 | n+1,x=>if(x.kids.length:Int)≠ac1 x.op then false
   else if x.op=1 then decide (0≤x.n)&&decide (x.name=e0)
   else if x.op=2 then decide (x.n=0)&&K8 x.name
   else if x.n≠0∨x.name≠e0 then false
   else x.kids.all (P3 n)
def bv1(x:Ex):Bool:=decide (x.op=0)&&decide (x.n=0)&&decide (x.name=e0)&&decide (x.kids.length=0)
def T3(s:A7)(b:Bool):Bool:=(b&&K8 s)||(!b&&decide (s=e0))
def Z2(x:Ex)(b:Bool):Bool:=(b&&P3 20 x)||(!b&&bv1 x)
def aH0(l:List Ar):Bool:=l.all fun a=>T3 a.name a.ref&&Z2 a.x (!a.ref)
structure Fl where
 name:Bool
 proc:Bool
 x:Bool
 has:Bool
 thn:Bool
 els:Bool
def R6(s:St):Option Fl:=
 if s.kind=1 then some ⟨true,false,true,s.has,false,false⟩
 else if s.kind=2∨s.kind=10 then some ⟨true,false,false,s.has,false,false⟩
 else if s.kind=3 then some ⟨false,false,true,s.has,false,false⟩
 else if s.kind=4 then some ⟨decide (s.name≠e0),true,false,s.has,false,false⟩
 else if s.kind=5 then some ⟨false,false,true,s.has,true,true⟩
 else if s.kind=6 then some ⟨false,false,true,s.has,true,false⟩
 else if s.kind=9 then some ⟨false,false,s.has,false,false,false⟩
 else if s.kind=7∨s.kind=8 then some ⟨false,false,false,s.has,false,false⟩
 else none
def R5(s:St):Bool:=match R6 s with
 | none=>false
 | some k=>!(k.has||(!k.thn&&decide (0<s.thn.length))||(!k.els&&decide (0<s.els.length))||(!decide (s.kind=4)&&decide (0<s.args.length))) &&
   T3 s.name k.name&&T3 s.proc k.proc&&Z2 s.x k.x&&aH0 s.args
def G8:Nat→List St→Int→Option Int
 | 0,l,n=>if l.length=0 then some n else none
 | d+1,l,n=>l.foldlM (fun n s=>if n+1>200∨s.id≠n+1∨O0 s.labels=false∨R5 s=false then none else(G8 d s.thn (n+1)).bind fun m=>G8 d s.els m) n
def R3(f:Pr)(n:Int):Option Int:=
 if f.params.length>8∨f.vars.length>16∨K8 f.name=false∨O0 f.vars=false∨O0 f.fin=false∨(f.params.all fun a=>K8 a.name)=false then none else G8 12 f.body n
def J6(p:Pg):Bool:=decide (p.globals.length≤16)&&decide (p.procs.length≤16)&&O0 p.globals&&(p.procs.foldlM (fun n f=>R3 f n) 0).isSome
mutual
def ah6:Ex→List A7→List A7
 | .mk op _ name kids,out=>al7 kids (if op=2∧out.contains name=false then out++[name]else out)
def al7:List Ex→List A7→List A7
 | [],out=>out
 | x::xs,out=>al7 xs (ah6 x out)
end
def aa7(x:Ex):List A7:=if P3 20 x then ah6 x []else[]
mutual
def V8:St→Nat
 | .mk _ _ _ _ _ _ _ _ thn els=>1+A5 thn+A5 els
def A5:List St→Nat
 | []=>0
 | t::l=>V8 t+A5 l
end
theorem aq8(t:St):V8 t=1+A5 t.thn+A5 t.els:=by
 cases t;simp only[V8,St.thn,St.els]
theorem bw4(t:St):0<V8 t:=by rw[aq8];omega
theorem bP9:∀{l:List St} {t:St},t∈l→V8 t≤A5 l
 | s::l,t,h=>by
  rw[A5];rcases dt1.1 h with rfl|h
  ·omega
  ·have:=bP9 h;omega
theorem aL7:∀(l m:List St),A5 (l++m)=A5 l+A5 m
 | [],m=>by simp[A5]
 | s::l,m=>by rw[dC0,A5,A5,aL7 l m];omega
theorem Q8:∀(l:List St),l.length≤A5 l
 | []=>by simp
 | s::l=>by have:=Q8 l;have:=bw4 s;rw[A5,dt2];omega
def wtT(s:A7):Nat:=1+s.b.length
def aw2:List A7→Nat
 | []=>0
 | s::l=>wtT s+aw2 l
mutual
def S6:Ex→Nat
 | .mk _ _ name kids=>wtT name+ar3 kids
def ar3:List Ex→Nat
 | []=>0
 | x::l=>S6 x+ar3 l
end
def ak3(a:Ar):Nat:=S6 a.x+wtT a.name
def Z6:List Ar→Nat
 | []=>0
 | a::l=>ak3 a+Z6 l
mutual
def O6:St→Nat
 | .mk _ _ labels name proc x _ args thn els=>S6 x+aw2 labels+wtT name+wtT proc+Z6 args+G3 thn+G3 els
def G3:List St→Nat
 | []=>0
 | x::l=>O6 x+G3 l
end
def bo6:List Pa→Nat
 | []=>0
 | a::l=>wtT a.name+bo6 l
def U2(f:Pr):Nat:=wtT f.name+aw2 f.vars+aw2 f.fin+bo6 f.params+G3 f.body
def aB3:List Pr→Nat
 | []=>0
 | f::l=>U2 f+aB3 l
def D1(p:Pg):Nat:=aw2 p.globals+aB3 p.procs
theorem Q7:∀(l:List A7),l.length≤aw2 l
 | []=>by simp[aw2]
 | s::l=>by have:=Q7 l;simp only[aw2,wtT,dt2];omega
theorem aG0(x:Ex):1≤S6 x:=by cases x;simp only[S6,wtT];omega
theorem bx6:∀(l:List Ex),l.length≤ar3 l
 | []=>by simp[ar3]
 | s::l=>by have:=bx6 l;have:=aG0 s;simp only[ar3,dt2];omega
theorem aY3:∀{l:List Ex} {s:Ex},s∈l→S6 s≤ar3 l
 | t::l,s,h=>by
  simp only[ar3];rcases dt1.1 h with rfl|h
  ·omega
  ·have:=aY3 h;omega
theorem bD3(x:Ex):S6 x=wtT x.name+ar3 x.kids:=by cases x;simp only[S6,Ex.name,Ex.kids]
theorem ag9:∀(l:List Ar),l.length≤Z6 l
 | []=>by simp[Z6]
 | s::l=>by have:=ag9 l;have:=aG0 s.x;simp only[Z6,ak3,dt2];omega
theorem aI9:∀{l:List Ar} {s:Ar},s∈l→ak3 s≤Z6 l
 | t::l,s,h=>by
  simp only[Z6];rcases dt1.1 h with rfl|h
  ·omega
  ·have:=aI9 h;omega
theorem P2(s:St):O6 s=S6 s.x+aw2 s.labels+wtT s.name+wtT s.proc+Z6 s.args+G3 s.thn+G3 s.els:=by
 cases s;simp only[O6,St.x,St.labels,St.name,St.proc,St.args,St.thn,St.els]
theorem bN7(s:St):3≤O6 s:=by rw[P2];have:=aG0 s.x;simp only[wtT];omega
theorem by1:∀(l:List St),3*l.length≤G3 l
 | []=>by simp[G3]
 | s::l=>by have:=by1 l;have:=bN7 s;simp only[G3,dt2];omega
theorem ah2:∀{l:List St} {s:St},s∈l→O6 s≤G3 l
 | t::l,s,h=>by
  simp only[G3];rcases dt1.1 h with rfl|h
  ·omega
  ·have:=ah2 h;omega
theorem ah0:∀(l:List Pa),l.length≤bo6 l
 | []=>by simp[bo6]
 | s::l=>by have:=ah0 l;simp only[bo6,wtT,dt2];omega
theorem ac9:∀(l:List Pr),l.length≤aB3 l
 | []=>by simp[aB3]
 | s::l=>by have:=ac9 l;simp only[aB3,U2,wtT,dt2];omega
theorem ah1:∀{l:List Pr} {s:Pr},s∈l→U2 s≤aB3 l
 | t::l,s,h=>by
  simp only[aB3];rcases dt1.1 h with rfl|h
  ·omega
  ·have:=ah1 h;omega
mutual
theorem by0:∀(s:St),3*V8 s≤O6 s
 | .mk _ _ labels name proc x _ args thn els=>by
  have h1:=ar4 thn;have h2:=ar4 els;have h3:=aG0 x;simp only[V8,O6,wtT];omega
theorem ar4:∀(l:List St),3*A5 l≤G3 l
 | []=>by simp[A5,G3]
 | s::l=>by
  have h1:=by0 s;have h2:=ar4 l;simp only[A5,G3];omega
end
def dB2:=@Bool.eq_false_iff
def dD1:=@Bool.or_true
def dD0:=@Bool.true_or
def dq9:=@List.forall_mem_cons
def dr5:=@List.getElem_mem
def dr8:=@Nat.zero_le
def dv1:=@decide_eq_decide
theorem zJ{a b:Prop}(x:a)(y:b):a∧b:=⟨x,y⟩
def n7:=zJ (zJ (zJ (zJ (zJ (zJ @bf3 @dh0) (zJ @dg3 (zJ @cW8 @dg6))) (zJ (zJ @dg7 @dg4) (zJ @dg5 (zJ @dk4 @dk0)))) (zJ (zJ (zJ @dd9 @dk1) (zJ @dk2 (zJ @cX9 @cV4))) (zJ (zJ @cY0 @cY1) (zJ @di7 (zJ @di6 @dh2))))) (zJ (zJ (zJ (zJ @dk6 @do4) (zJ @cW6 (zJ @dj6 @cW7))) (zJ (zJ @dj7 @dm8) (zJ @dp0 (zJ @cJ8 @db8)))) (zJ (zJ (zJ @cJ9 @db9) (zJ @dc0 (zJ @cT3 @cO5))) (zJ (zJ @cO4 @db7) (zJ @dn0 (zJ @dm9 @cT2)))))) (zJ (zJ (zJ (zJ (zJ @dn2 @dn1) (zJ @dj4 (zJ @cF0 @da9))) (zJ (zJ @dm4 @cJ6) (zJ @cW5 (zJ @cS8 @dl9)))) (zJ (zJ (zJ @dm5 @cW4) (zJ @dj3 (zJ @db1 @dj2))) (zJ (zJ @ev.eq_1 @ev.eq_2) (zJ @ev.eq_3 (zJ @ev.eq_4 @C4.eq_1))))) (zJ (zJ (zJ (zJ @C4.eq_2 @do2) (zJ @dm6 (zJ @dn4 @dn5))) (zJ (zJ @List.map_cons.{0,0} @List.map_nil.{0,0}) (zJ @List.map_toArray.{0,0} (zJ @bE1.eq_1 @bE1.eq_2)))) (zJ (zJ (zJ @cS0 @di4) (zJ @di5 (zJ @cv3.eq_1 @List.getElem?_toArray.{0}))) (zJ (zJ @List.getElem?_cons_zero.{0} (zJ @List.getElem?_cons_succ.{0} @Option.bind_some.{0,0})) (zJ @Option.some.injEq.{0} (zJ @dx4 @Bool.true_eq_false))))))
def n8:=zJ (zJ (zJ (zJ (zJ @db0 (zJ @da7 @cY9)) (zJ @Option.map_some.{0,0} (zJ @Option.map_none.{0,0} @Int.toNat_zero))) (zJ (zJ @Option.isNone_none.{0} (zJ @Option.isNone_some.{0} @K0)) (zJ @bz7.eq_1 (zJ @bz7.eq_2 @cG6.eq_1)))) (zJ (zJ (zJ @aZ0.eq_1 (zJ @aZ0.eq_2 @cx3.eq_1)) (zJ @cx2.eq_1 (zJ @TY @Option.isSome_some.{0}))) (zJ (zJ @dy1 (zJ @Bool.and_true @dA7)) (zJ @dt5 (zJ @dl6 @Int.cast_ofNat_Int))))) (zJ (zJ (zJ (zJ @decide_true (zJ @add_lit @du4)) (zJ @Nat.zero_mul (zJ @Nat.one_mul @Bool.not_true))) (zJ (zJ @Bool.not_false (zJ @dl7 @cZ9)) (zJ @dh9 (zJ @dh8 @dh7)))) (zJ (zJ (zJ @dh6 (zJ @dh5 @di2)) (zJ @dh3 (zJ @di3 @cX8))) (zJ (zJ @cX7 (zJ @dh4 @di1)) (zJ (zJ @bY2 @cG1) (zJ @di0 @do1)))))
theorem bj9(c:UInt8)(w:World):p7 prog 208 #[.int .u8 c.toNat] w fun u w'=>(u = .bool (ad5 c)∧w'=w):=by
 refine p8 [.int .u8 c.toNat] func208 rfl ?_;unfold ad5;have h1:decide ((97:Int)≤(c.toNat:Int))=decide (97≤c.toNat):=dv1.2 (by omega);have h2:decide ((c.toNat:Int)≤(122:Int))=decide (c.toNat≤122):=dv1.2 (by omega);cases hb:decide (97≤c.toNat)
 ·simp only[n7,n8,simprocAttr,h1,hb];refine o6 results208 ?_;simp only[p6,simprocAttr];exact⟨by trivial,by trivial⟩
 ·simp only[n7,n8,simprocAttr,h1,h2,hb];refine o6 results208 ?_;simp only[p6,simprocAttr];exact⟨by simp,by trivial⟩
theorem ci3(c:UInt8)(w:World):p7 prog 248 #[.int .u8 c.toNat] w fun u w'=>(u = .bool (aL8 c)∧w'=w):=by
 refine p8 [.int .u8 c.toNat] func248 rfl ?_;unfold aL8;have h1:decide ((48:Int)≤(c.toNat:Int))=decide (48≤c.toNat):=dv1.2 (by omega);have h2:decide ((c.toNat:Int)≤(57:Int))=decide (c.toNat≤57):=dv1.2 (by omega);cases hb:decide (48≤c.toNat)
 ·simp only[n7,n8,simprocAttr,h1,hb];refine o6 results248 ?_;simp only[p6,simprocAttr];exact⟨by trivial,by trivial⟩
 ·simp only[n7,n8,simprocAttr,h1,h2,hb];refine o6 results248 ?_;simp only[p6,simprocAttr];exact⟨by simp,by trivial⟩
theorem cq0(s:A7)(w:World):p7 prog 210 #[o9 s] w fun u w'=>(u = .bool (bo2 s)∧w'=w):=by
 refine p8 [o9 s] func210 rfl ?_;have hw:bo2 s=ak2.any fun x=>decide (s=x):=by
  unfold bo2;rw[←List.any_beq]
  congr 1
 simp only[ak2,List.any_cons,List.any_nil]at hw;simp only[n7,n8,simprocAttr];refine m8 (fun h1=>?_) (fun h1=>?_)
 ·simp only[n7,simprocAttr,h1];refine o6 results210 ?_;simp only[p6,simprocAttr];exact⟨by rw[hw];simp only[h1,dD0],by trivial⟩
 simp only[n7,n8,simprocAttr];refine m8 (fun h2=>?_) (fun h2=>?_)
 ·simp only[n7,simprocAttr,h2];refine o6 results210 ?_;simp only[p6,simprocAttr];exact⟨by rw[hw];simp only[h2,dD0,dD1],by trivial⟩
 simp only[n7,n8,simprocAttr];refine m8 (fun h3=>?_) (fun h3=>?_)
 ·simp only[n7,simprocAttr,h3];refine o6 results210 ?_;simp only[p6,simprocAttr];exact⟨by rw[hw];simp only[h3,dD0,dD1],by trivial⟩
 simp only[n7,n8,simprocAttr];refine m8 (fun h4=>?_) (fun h4=>?_)
 ·simp only[n7,simprocAttr,h4];refine o6 results210 ?_;simp only[p6,simprocAttr];exact⟨by rw[hw];simp only[h4,dD0,dD1],by trivial⟩
 simp only[n7,n8,simprocAttr];refine m8 (fun h5=>?_) (fun h5=>?_)
 ·simp only[n7,simprocAttr,h5];refine o6 results210 ?_;simp only[p6,simprocAttr];exact⟨by rw[hw];simp only[h5,dD0,dD1],by trivial⟩
 simp only[n7,n8,simprocAttr];refine m8 (fun h6=>?_) (fun h6=>?_)
 ·simp only[n7,simprocAttr,h6];refine o6 results210 ?_;simp only[p6,simprocAttr];exact⟨by rw[hw];simp only[h6,dD0,dD1],by trivial⟩
 simp only[n7,n8,simprocAttr];refine m8 (fun h7=>?_) (fun h7=>?_)
 ·simp only[n7,simprocAttr,h7];refine o6 results210 ?_;simp only[p6,simprocAttr];exact⟨by rw[hw];simp only[h7,dD0,dD1],by trivial⟩
 simp only[n7,n8,simprocAttr];refine m8 (fun h8=>?_) (fun h8=>?_)
 ·simp only[n7,simprocAttr,h8];refine o6 results210 ?_;simp only[p6,simprocAttr];exact⟨by rw[hw];simp only[h8,dD0,dD1],by trivial⟩
 simp only[n7,n8,simprocAttr];refine m8 (fun h9=>?_) (fun h9=>?_)
 ·simp only[n7,simprocAttr,h9];refine o6 results210 ?_;simp only[p6,simprocAttr];exact⟨by rw[hw];simp only[h9,dD0,dD1],by trivial⟩
 simp only[n7,n8,simprocAttr];refine m8 (fun h10=>?_) (fun h10=>?_)
 ·simp only[n7,simprocAttr,h10];refine o6 results210 ?_;simp only[p6,simprocAttr];exact⟨by rw[hw];simp only[h10,dD0,dD1],by trivial⟩
 simp only[n7,n8,simprocAttr];refine m8 (fun h11=>?_) (fun h11=>?_)
 ·simp only[n7,simprocAttr,h11];refine o6 results210 ?_;simp only[p6,simprocAttr];exact⟨by rw[hw];simp only[h11,dD0,dD1],by trivial⟩
 simp only[n7,n8,simprocAttr];refine m8 (fun h12=>?_) (fun h12=>?_)
 ·simp only[n7,simprocAttr,h12];refine o6 results210 ?_;simp only[p6,simprocAttr];exact⟨by rw[hw];simp only[h12,dD0,dD1],by trivial⟩
 simp only[n7,n8,simprocAttr];refine m8 (fun h13=>?_) (fun h13=>?_)
 ·simp only[n7,simprocAttr];refine o6 results210 ?_;simp only[p6,simprocAttr];exact⟨by rw[hw];simp only[h13,dD0,dD1],by trivial⟩
 ·simp only[n7,simprocAttr];refine o6 results210 ?_;simp only[p6,simprocAttr];exact⟨by rw[hw];simp only[h1,h2,h3,h4,h5,h6,h7,h8,h9,h10,h11,h12,h13,Bool.or_false],by trivial⟩
theorem bZ2{s:A7}{k:Nat}(hk:k<s.b.length):∃c,chr s k=some c∧s.b.take (k+1)=s.b.take k++[c]∧c∈s.b:=
 ⟨_,dq7 hk,dr6 hk,dr5 hk⟩
theorem cK6(s:A7)(w:World)(hl:s.b.length≤1000000):p7 prog 209 #[o9 s,.int .i64 0] w fun u w'=>(∃k:Nat,u = .int .i64 k∧decide (k=s.b.length)=s.b.all Y4∧w'=w):=by
 refine p8 [o9 s,.int .i64 0] func209 rfl ?_;simp only[n7,n8,simprocAttr];refine n9 [0] (σ:=Nat) (fun k f w'=>f 1 = .int .i64 k∧k≤s.b.length∧(s.b.take k).all Y4=true∧w'=w) (fun k=>s.b.length-k) 0 ?_ ?_
 ·simp only[p6,simprocAttr];exact⟨by trivial,dr8 _,by simp,by trivial⟩
 ·rintro k f w' hk ⟨h1,hkl,hall,rfl⟩;simp only[dq9,p6,simprocAttr]at hk;obtain⟨g0,_⟩:=hk;by_cases hlt:k<s.b.length
  ·have hd:decide ((k:Int)<(s.b.length:Nat))=true:=by simpa using hlt
   obtain⟨c,hc,htk,hmem⟩:=bZ2 hlt;have hix:=cb0 (P:=prog) (t:=9) (k:=.i64) cC5 cL2 hc;simp only[n7,n8,simprocAttr,g0,h1,hd,hix];refine z7 (bj9 c _) ?_;rintro u w1 ⟨rfl,rfl⟩;cases hlet:ad5 c
   ·simp only[n7,simprocAttr,g0,h1,hix];refine z7 (ci3 c _) ?_;rintro u w2 ⟨rfl,rfl⟩;cases hdig:aL8 c
    ·simp only[n7,simprocAttr,h1];refine o6 results209 ?_;simp only[p6,simprocAttr];refine⟨k,by trivial,?_,by trivial⟩;have h2:s.b.all Y4=false:=by
      rw[dB2];intro h3;have:=dx6.1 h3 c hmem;simp[Y4,hlet,hdig]at this
     rw[h2];simp;omega
    ·simp only[n7,n8,simprocAttr,h1];refine⟨k+1,by omega,by rw[A8 k (by omega)],by omega,?_,by trivial⟩;rw[htk,List.all_append,hall];simp[Y4,hdig]
   ·simp only[n7,n8,simprocAttr,h1];refine⟨k+1,by omega,by rw[A8 k (by omega)],by omega,?_,by trivial⟩;rw[htk,List.all_append,hall];simp[Y4,hlet]
  ·have hd:decide ((k:Int)<(s.b.length:Nat))=false:=by simpa using hlt
   have hke:k=s.b.length:=by omega
   simp only[n7,n8,simprocAttr,g0,h1,hd];refine o6 results209 ?_;simp only[p6,simprocAttr];refine⟨k,by trivial,?_,by trivial⟩;subst hke;rw[ds2]at hall;rw[hall];simp
theorem aC0(s:A7)(w:World):p7 prog 142 #[o9 s] w fun u w'=>(u = .bool (K8 s)∧w'=w):=by
 refine p8 [o9 s] func142 rfl ?_;cases hs:s.b with
 | nil=>
  have hl:s.b.length=0:=by rw[hs];rfl
  have h1:decide (((s.b.length:Nat):Int)<1)=true:=by rw[hl];rfl
  simp only[n7,n8,simprocAttr,h1];refine o6 results142 ?_;simp only[p6,simprocAttr];exact⟨by rw[K8,hs],by trivial⟩
 | cons c l=>
  have hl:s.b.length=l.length+1:=by rw[hs];rfl
  have hnf:K8 s=(decide (l.length<8)&&ad5 c&&l.all Y4 && !bo2 s):=by rw[K8,hs]
  have hall:s.b.all Y4=(Y4 c&&l.all Y4):=by rw[hs];rfl
  have h1:decide (((s.b.length:Nat):Int)<1)=false:=by rw[hl];simp;omega
  have hc:chr s 0=some c:=by unfold chr;rw[hs];rfl
  have hix:U6 prog 9 (o9 s) (.int .i64 0)=some (.int .u8 (c.toNat:Int)):=cb0 (k:=.i64) (i:=0) cC5 cL2 hc;cases h2:decide ((8:Int)<((s.b.length:Nat):Int))
  ·have hl8:l.length<8:=by simp at h2;omega
   simp only[n7,n8,simprocAttr,h1,h2,hix];refine z7 (bj9 c _) ?_;rintro u w1 ⟨rfl,rfl⟩;cases hlet:ad5 c
   ·simp only[n7,n8,simprocAttr];refine o6 results142 ?_;simp only[p6,simprocAttr];exact⟨by rw[hnf,hlet];simp,by trivial⟩
   ·simp only[n7,n8,simprocAttr];refine z7 (cK6 s _ (by omega)) ?_;rintro u w2 ⟨k,rfl,hk,rfl⟩;have hk2:decide ((k:Int)=((s.b.length:Nat):Int))=l.all Y4:=by
     rw[hall,show Y4 c=true by simp[Y4,hlet],dy1]at hk;rw[←hk];exact dv1.2 (by omega)
    cases ha:l.all Y4
    ·rw[ha]at hk2;simp only[n7,n8,simprocAttr,hk2];refine o6 results142 ?_;simp only[p6,simprocAttr];exact⟨by rw[hnf,ha];simp,by trivial⟩
    ·rw[ha]at hk2;simp only[n7,n8,simprocAttr,hk2];refine z7 (cq0 s _) ?_;rintro u w3 ⟨rfl,rfl⟩;simp only[n7,n8,simprocAttr];refine o6 results142 ?_;simp only[p6,simprocAttr];exact⟨by rw[hnf,ha,hlet];simp[hl8],by trivial⟩
  ·simp only[n7,n8,simprocAttr,h1,h2];refine o6 results142 ?_;simp only[p6,simprocAttr];exact⟨by rw[hnf,show decide (l.length<8)=false by simp at h2 ⊢;omega];rfl,by trivial⟩
def dB6:=@List.sum_cons
def D2:=zJ (zJ (zJ (zJ @dh1 @dk5) (zJ @dj1 @cW3)) (zJ (zJ @cS7 @dl8) (zJ @cE8 @da6))) (zJ (zJ (zJ @dm3 @cJ4) (zJ @cW2 @dj0)) (zJ (zJ @da8 @di9) (zJ @List.drop_succ_cons.{0} @List.drop_zero.{0})))
theorem aC7(l:List St){k:Nat}(hk:k<l.length):A5 (l.take (k+1))=A5 (l.take k)+V8 l[k]:=by
 rw[dr6 hk,aL7];simp[A5]
theorem ap1(l:List St)(k:Nat):A5 (l.take k)≤A5 l:=by
 have:=aL7 (l.take k) (l.drop k);rw[dv5]at this;omega
theorem bm5:∀(m:Nat) (t:St) (v:Value) (w:World),V8 t≤m→SV (i4 w) v t→O6 t≤1000000→p7 prog 182 #[v] w fun u w'=>(u = .int .i64 (V8 t:Nat)∧o7 w w')
 | 0,t,v,w,hsm,_,_=>absurd (bw4 t) (by omega)
 | m+1,t,v,w,hsm,hv,hwt=>by
  refine p8 [v] func182 rfl ?_;obtain⟨a,w1,hbx,hx,ha⟩:=ah5 hv (d7 _);obtain⟨vl,va,vt,ve,hl,hra,ht,he,hatx,ld,sd⟩:=ha.st;have l1:=ld w1 (d7 _);have hS1:=ht.isS;have hn1:=ht.vlen;have hS2:=he.isS;have hn2:=he.vlen;have hsz:=by0 t;have heq:=aq8 t;have hwe:=P2 t;have hc1:=Q8 t.thn;have hc2:=Q8 t.els;simp only[n7,n8,simprocAttr,hbx,l1,hS1,hn1];refine n9 [1,9,10] (σ:=Nat) (fun k f w'=>f 11 = .int .i64 k∧k≤t.thn.length∧f 3 = .int .i64 ((1+A5 (t.thn.take k):Nat):Int)∧o7 w1 w') (fun k=>t.thn.length-k) 0 ?_ ?_
  ·simp only[p6,simprocAttr];exact⟨by trivial,dr8 _,by simp[A5],t8.refl _⟩
  ·rintro k f w2 hk ⟨h11,hkl,h3,hx2⟩;simp only[dq9,p6,simprocAttr]at hk;obtain⟨e1,e9,e10,_⟩:=hk;simp only[n7,n8,simprocAttr,h11,e10];refine m8 (fun hc=>?_) (fun hc=>?_)
   ·have hlt:k<t.thn.length:=by simpa using hc
    have hin:=ht.inS hlt;obtain⟨sv,hsv,hld⟩:=E4 (P:=prog) (t:=45) ht (b7 hx2) (dq7 hlt) bc7 bd0 aK7 Y1;rw[Y1]at hld;have htk:=aC7 t.thn hlt;have hle1:=ap1 t.thn (k+1);have hwm:=ah2 (dr5 hlt);generalize t.thn[k]=s at hsv htk hwm;obtain⟨b,wz,w3,hal,hst,hx3,hat⟩:=aI7 (hsv.mono (b7 hx2)) (d7 _);obtain⟨ss,hss,lss,_⟩:=hat.st_v;have l3:=lss w3 (d7 _);simp only[n7,n8,z6,simprocAttr,h11,e9,hin,hld,hal,hst,l3,h3];refine B2 (bm5 m s ss w3 (by omega) hss (by omega)) (fun w4 hx4=>?_);simp only[n7,n8,simprocAttr,h11];exact⟨k+1,by omega,by rw[A8 k (by omega)],by omega,by rw[K6 _ (by omega)];congr 1;omega,hx2.trans (hx3.trans hx4)⟩
   ·have hge:k=t.thn.length:=by simp at hc;omega
    subst hge;rw[ds2]at h3;have l2:=ld w2 (b7 hx2);simp only[n7,n8,simprocAttr,e1,l2,hS2,hn2];refine n9 [1,21,22] (σ:=Nat) (fun k f w'=>f 23 = .int .i64 k∧k≤t.els.length∧f 3 = .int .i64 ((1+A5 t.thn+A5 (t.els.take k):Nat):Int)∧o7 w1 w') (fun k=>t.els.length-k) 0 ?_ ?_
    ·simp only[p6,simprocAttr];exact⟨by trivial,dr8 _,by simp[A5,h3],hx2⟩
    ·rintro k f w2 hk ⟨h23,hkl,h3,hx2⟩;simp only[dq9,p6,simprocAttr]at hk;obtain⟨e1,e21,e22,_⟩:=hk;simp only[n7,n8,simprocAttr,h23,e22];refine m8 (fun hc=>?_) (fun hc=>?_)
     ·have hlt:k<t.els.length:=by simpa using hc
      have hin:=he.inS hlt;obtain⟨sv,hsv,hld⟩:=E4 (P:=prog) (t:=45) he (b7 hx2) (dq7 hlt) bc7 bd0 aK7 Y1;rw[Y1]at hld;have htk:=aC7 t.els hlt;have hle1:=ap1 t.els (k+1);have hwm:=ah2 (dr5 hlt);generalize t.els[k]=s at hsv htk hwm;obtain⟨b,wz,w3,hal,hst,hx3,hat⟩:=aI7 (hsv.mono (b7 hx2)) (d7 _);obtain⟨ss,hss,lss,_⟩:=hat.st_v;have l3:=lss w3 (d7 _);simp only[n7,n8,z6,simprocAttr,h23,e21,hin,hld,hal,hst,l3,h3];refine B2 (bm5 m s ss w3 (by omega) hss (by omega)) (fun w4 hx4=>?_);simp only[n7,n8,simprocAttr,h23];exact⟨k+1,by omega,by rw[A8 k (by omega)],by omega,by rw[K6 _ (by omega)];congr 1;omega,hx2.trans (hx3.trans hx4)⟩
     ·have hge:k=t.els.length:=by simp at hc;omega
      subst hge;rw[ds2]at h3;simp only[n7,simprocAttr,h3];refine o6 results182 ?_;simp only[p6,simprocAttr];exact⟨by rw[heq],hx.trans hx2⟩
theorem ci1:∀(m:Nat) (l:List St) (v:Value) (w:World),A5 l≤m→R (i4 w) v l→G3 l≤1000000→p7 prog 54 #[v] w fun u w'=>(u = .int .i64 (A5 l:Nat)∧o7 w w'):=by
 intro m
 induction m with
 | zero=>
  intro l v w hsm hv hwt;have hl0:l.length=0:=by have:=Q8 l;omega
  refine p8 [v] func54 rfl ?_;have hS:=hv.isS;have hn:=hv.vlen;simp only[n7,n8,simprocAttr,hS,hn];refine n9 [7,8] (σ:=Nat) (fun k f w'=>f 9 = .int .i64 0∧f 3 = .int .i64 ((l.length:Nat):Int)∧w'=w) (fun k=>0) 0 ?_ ?_
  ·simp only[p6,simprocAttr];exact⟨by trivial,by trivial,by trivial⟩
  ·rintro k f w2 hk ⟨h9,h3,rfl⟩;simp only[dq9,p6,simprocAttr]at hk;obtain⟨e7,e8,_⟩:=hk;have d0:decide ((0:Int)<((l.length:Nat):Int))=false:=by rw[hl0];decide
   simp only[n7,n8,simprocAttr,h9,e8,d0,h3];refine o6 results54 ?_;simp only[p6,simprocAttr];exact⟨by rw[List.eq_nil_of_length_eq_zero hl0];rfl,t8.refl _⟩
 | succ m ih=>
  intro l v w hsm hv hwt;refine p8 [v] func54 rfl ?_;have hS:=hv.isS;have hn:=hv.vlen;have hwsz:=ar4 l;have hcl:=Q8 l;simp only[n7,n8,simprocAttr,hS,hn];refine n9 [0,7,8] (σ:=Nat) (fun k f w'=>f 9 = .int .i64 k∧k≤l.length∧f 3 = .int .i64 ((l.length+A5 (l.take k)-k:Nat):Int)∧o7 w w') (fun k=>l.length-k) 0 ?_ ?_
  ·simp only[p6,simprocAttr];exact⟨by trivial,dr8 _,by simp[A5],t8.refl _⟩
  ·rintro k f w2 hk ⟨h9,hkl,h3,hx2⟩;simp only[dq9,p6,simprocAttr]at hk;obtain⟨e0,e7,e8,_⟩:=hk;have hlk:=Q8 (l.take k);rw[ds3,dy0 hkl]at hlk;simp only[n7,n8,simprocAttr,h9,e8];refine m8 (fun hc=>?_) (fun hc=>?_)
   ·have hlt:k<l.length:=by simpa using hc
    have hin:=hv.inS hlt;have hat:=(hv.at_ (dq7 hlt));have htk:=aC7 l hlt;have hle1:=ap1 l (k+1);have hwm:=ah2 (dr5 hlt);generalize l[k]=t at hat htk hwm;have heq:=aq8 t;have hwe:=P2 t;obtain⟨vl,va,vt,ve,hl',hra,ht,he,hatx,ld,sd⟩:=hat.st;have hxd:=hx2.trans (o7.drew w2);have s2:=sd (fun w'=>o7 w2.drew w') w2.drew (t8.refl _) (fun w' h=>b7 (hxd.trans h));have hz:A3.sz St=13:=rfl;rw[hz]at s2;simp only[n7,simprocAttr,h9];refine C0 (fun w'=>o7 w2.drew w') 16 (A9 [0,1,2,3,4,5,7,8,9,10,11,6,12,13,14,15]) ?_;simp only[D2,A9,n7,n8,z6,simprocAttr,e0,h3,hin,s2];refine B2 (ih t.thn vt _ (by omega) (A3.mono (b7 hxd) ht) (by omega)) (fun w3 hx3=>?_);simp only[D2,n7,simprocAttr,F1];refine⟨hx3,?_⟩;refine B2 (ih t.els ve _ (by omega) (A3.mono (b7 (hxd.trans hx3)) he) (by omega)) (fun w4 hx4=>?_);have hw1:IntKind.i64.wrap (((A5 t.thn:Nat):Int)+((A5 t.els:Nat):Int))=((A5 t.thn+A5 t.els:Nat):Int):=by rw[K6 _ (by omega)];omega
    have hw2:IntKind.i64.wrap (((l.length+A5 (l.take k)-k:Nat):Int)+((A5 t.thn+A5 t.els:Nat):Int))=((l.length+A5 (l.take (k+1))-(k+1):Nat):Int):=by rw[K6 _ (by omega)];omega
    simp only[D2,n7,n8,simprocAttr,F1,hw1,hw2,h9];refine⟨hx3.trans hx4,?_⟩;exact⟨k+1,by omega,by rw[A8 k (by omega)],by omega,by trivial,hxd.trans (hx3.trans hx4)⟩
   ·have hge:k=l.length:=by simp at hc;omega
    subst hge;rw[ds2]at h3;simp only[n7,simprocAttr,h3];refine o6 results54 ?_;simp only[p6,simprocAttr];exact⟨by congr 1;congr 1;omega,hx2⟩
def bp5(p:Pg):Nat:=(p.procs.map fun f=>A5 f.body).sum
theorem be4:∀(l:List Pr),3*(l.map fun f=>A5 f.body).sum≤aB3 l
 | []=>by simp[aB3]
 | f::l=>by
  have h1:=be4 l;have h2:=ar4 f.body;simp only[dv6,dB6,aB3,U2];omega
theorem cf3(v:Value)(p:Pg)(w:World)(hv:SV (i4 w) v p)(hwt:D1 p≤1000000):p7 prog 36 #[v] w fun u w'=>(u = .int .i64 (bp5 p:Nat)∧o7 w w'):=by
 refine p8 [v] func36 rfl ?_;obtain⟨a,w1,hbx,hx,ha⟩:=P7 hv (d7 _);obtain⟨vg,vp,hg,hp,ld,sd⟩:=ha.pg;have l1:=ld w1 (d7 _);have hS:=hp.isS;have hn:=hp.vlen;have hpl:=ac9 p.procs;have hcp:=be4 p.procs;unfold D1 at hwt;simp only[n7,n8,simprocAttr,hbx,l1,hS,hn];refine n9 [1,7,8] (σ:=Nat) (fun k f w'=>f 9 = .int .i64 k∧k≤p.procs.length∧f 3 = .int .i64 ((((p.procs.take k).map fun f=>A5 f.body).sum:Nat):Int)∧o7 w1 w') (fun k=>p.procs.length-k) 0 ?_ ?_
 ·simp only[p6,simprocAttr];exact⟨by trivial,dr8 _,by simp,t8.refl _⟩
 ·rintro k f w2 hk ⟨h9,hkl,h3,hx2⟩;simp only[dq9,p6,simprocAttr]at hk;obtain⟨e1,e7,e8,_⟩:=hk;simp only[n7,n8,simprocAttr,h9,e8];refine m8 (fun hc=>?_) (fun hc=>?_)
  ·have hlt:k<p.procs.length:=by simpa using hc
   have hin:=hp.inS hlt;obtain⟨sv,hsv,hld⟩:=E4 (P:=prog) (t:=51) hp (b7 hx2) (dq7 hlt) ae2 ae5 ac8 I4;rw[I4]at hld;have htk:((p.procs.take (k+1)).map fun f=>A5 f.body).sum=((p.procs.take k).map fun f=>A5 f.body).sum+A5 p.procs[k].body:=by
    rw[dr6 hlt,du1,List.sum_append];simp
   have hle1:((p.procs.take (k+1)).map fun f=>A5 f.body).sum≤(p.procs.map fun f=>A5 f.body).sum:=by
    conv=>rhs;rw[←dv5 (k+1) p.procs,du1,List.sum_append]
    omega
   have hwm:=ah1 (dr5 hlt);generalize p.procs[k]=q at hsv htk hwm;obtain⟨b,wz,w3,hal,hst,hx3,hat⟩:=az8 (hsv.mono (b7 hx2)) (d7 _);obtain⟨_,_,vb,_,_,_,hrb,_,ldq,_⟩:=hat.pr;have l3:=ldq w3 (d7 _);simp only[n7,n8,z6,simprocAttr,h9,e7,hin,hld,hal,hst,l3,h3];refine B2 (ci1 _ q.body vb w3 (ds5 _) hrb (by unfold U2 at hwm;omega)) (fun w4 hx4=>?_);simp only[n7,n8,simprocAttr,h9];exact⟨k+1,by omega,by rw[A8 k (by omega)],by omega,by rw[K6 _ (by omega)];congr 1;omega,hx2.trans (hx3.trans hx4)⟩
  ·have hge:k=p.procs.length:=by simp at hc;omega
   subst hge;rw[ds2]at h3;simp only[n7,simprocAttr,h3];refine o6 results36 ?_;simp only[p6,simprocAttr];exact⟨by trivial,hx.trans hx2⟩
def bH8(x:A7):List A7→List A7
 | []=>[x]
 | y::l=>if ltS y x then y::bH8 x l else x::y::l
def S8:List A7→List A7
 | []=>[]
 | x::l=>bH8 x (S8 l)
def I6{α:Type}[DecidableEq α]:List α→List α
 | []=>[]
 | [x]=>[x]
 | x::y::l=>if x=y then I6 (y::l)else x::I6 (y::l)
def C9(l:List A7):List A7:=I6 (S8 l)
mutual
def V4:St→Nat→Int→Int→Int→Int→List It
 | .mk id kind labels name proc x has args thn els,k,pr,up,nx,lp=>
  let me:Int:=k+1
  let nx':=if kind=6 then me else nx
  let lp':=if kind=6 then me else lp
  let a:=C2 thn (k+1) pr me nx' lp'
  ⟨.mk id kind labels name proc x has args thn els,pr,up,nx,lp⟩::(a++C2 els (k+1+a.length) pr me nx' lp')
def C2:List St→Nat→Int→Int→Int→Int→List It
 | [],_,_,_,_,_=>[]
 | t::l,k,pr,up,nx,lp=>
  let a:=V4 t k pr up (if l.length=0 then nx else k+1+V8 t) lp
  a++C2 l (k+a.length) pr up nx lp
end
def E6(s:Sh)(i:Nat)(f:Pr):Sh:=
 let a:=C2 f.body s.l.length i 0 (-1) 0
 ⟨s.p,s.l++a,s.lo++[(s.l.length:Int)+1],s.hi++[(s.l.length:Int)+a.length+1]⟩
def F4(s:Sh):Nat→List Pr→Sh
 | _,[]=>s
 | i,f::l=>F4 (E6 s i f) (i+1) l
def b9(p:Pg):Sh:=F4 ⟨p,[],[],[]⟩ 0 p.procs
def V1(l:List Int)(i:Int):Int:=l.getD i.toNat 0
def Sh.of(s:Sh)(i:Int):List It:=(s.l.take (V1 s.hi i-1).toNat).drop (V1 s.lo i-1).toNat
def V5{α:Type}(p:α→Bool):Nat→List α→Int
 | _,[]=>-1
 | i,x::l=>if p x then i else V5 p (i+1) l
def S5(procs:List Pr)(n:A7):Int:=V5 (fun f=>decide (f.name=n)) 0 procs
def Sh.pr(s:Sh)(n:A7):Int:=S5 s.p.procs n
def cm4:St:=.mk 0 0 [] e0 e0 (.mk 0 0 e0 []) false [] [] []
def dm1:It:=⟨cm4,0,0,0,0⟩
def bq6:Pr:=⟨e0,[],[],[],[]⟩
def Sh.it(s:Sh)(id:Int):It:=s.l.getD (id-1).toNat dm1
def Sh.fn(s:Sh)(i:Int):Pr:=s.p.procs.getD i.toNat bq6
def Sh.first(s:Sh)(i:Int):Int:=if V1 s.lo i<V1 s.hi i then V1 s.lo i else -1
def Sh.at(s:Sh)(i:Int)(lb:A7):Option Int:=match(s.of i).find? fun it=>it.s.labels.contains lb with
 | some it=>some it.s.id
 | none=>if(s.fn i).fin.contains lb then some (-1)else none
def J3(a:Ar):List A7:=(if a.ref then[a.name]else[])++aa7 a.x
def L4(t:St):List A7:=(if t.kind≠10∧t.name≠e0 then[t.name]else[])++aa7 t.x++t.args.flatMap J3
def aA5(p:Pg)(f:Pr)(n:A7):Int:=match f.params.find? fun a=>decide (a.name=n)with
 | some a=>if a.ref then 3 else 2
 | none=>if f.vars.contains n then 4 else if p.globals.contains n then 1 else 0
def bd7(f:Pr):List A7:=f.params.map (·.name)++f.vars
def Z0(l:List A7):Bool:=!decide l.Nodup
def R2:A7:=ofA #[109,97,105,110]
def ad4(p:Pg)(f:Pr)(procs:List A7)(t:St):Bool:=(L4 t).all (fun n=>!decide (aA5 p f n=0))&&(!decide (t.kind=4)||(!decide (t.proc=R2)&&procs.contains t.proc))
def X3(p:Pg)(procs:List A7)(f:Pr)(l:List It):Option (Int×Int):=
 if Z0 (bd7 f)||(bd7 f).any (fun n=>p.globals.contains n)then some (5,0)
 else match l.find? fun it=>!ad4 p f procs it.s with
  | some it=>some (5,it.s.id)
  | none=>none
def M0(p:Pg)(s:Sh)(procs:List A7):Nat→List Pr→Option (Int×Int)
 | _,[]=>none
 | i,f::l=>match X3 p procs f (s.of i)with
   | some e=>some e
   | none=>M0 p s procs (i+1) l
def O5(p:Pg):Int×Int:=
 if J6 p=false then(1,0)
 else let procs:=p.procs.map (·.name);let first:=S5 p.procs R2
  if Z0 p.globals||Z0 procs||decide (first<0)||decide (0<(p.procs.getD first.toNat bq6).params.length)then(5,0)
  else(M0 p (b9 p) procs 0 p.procs).getD (0,0)
def bl9(l:List Pa)(a:List Ar):Bool:=decide (l.length=a.length)&&(l.zip a).all fun x=>x.1.ref==x.2.ref
def ad3(p:Pg)(s:St):Bool:=decide (s.kind=4)&&(match p.procs.find? fun f=>decide (f.name=s.proc)with
 | some f=>bl9 f.params s.args
 | none=>false)
def Y5(p:Pg):Int×Int:=if(O5 p).1≠0 then(1,0)else match(b9 p).l.find? fun it=>decide (it.s.kind=4) && !ad3 p it.s with
 | some it=>(6,it.s.id)
 | none=>(0,0)
def ap6:List A7→List A7→Option (List A7)
 | seen,[]=>some seen
 | seen,n::l=>if seen.contains n then none else ap6 (seen++[n]) l
def ap8(s:Sh)(it:It):Bool:=if it.s.kind=7∨it.s.kind=8 then !decide (it.loop=0)else if it.s.kind=10 then(s.at it.proc it.s.name).isSome else true
def as0(s:Sh):List A7→List It→List A7 ⊕ Int
 | seen,[]=>.inl seen
 | seen,it::l=>match ap6 seen it.s.labels with
   | none=>.inr it.s.id
   | some seen'=>if ap8 s it then as0 s seen' l else .inr it.s.id
def ap7(s:Sh)(f:Pr)(l:List It):Option (Int×Int):=match as0 s [] l with
 | .inr id=>some (7,id)
 | .inl seen=>match ap6 seen f.fin with
   | none=>some (7,0)
   | some _=>none
def P6(s:Sh):Nat→List Pr→Option (Int×Int)
 | _,[]=>none
 | i,f::l=>match ap7 s f (s.of i)with
   | some e=>some e
   | none=>P6 s (i+1) l
def aA4(p:Pg):Int×Int:=if(O5 p).1≠0 then(1,0)else(P6 (b9 p) 0 p.procs).getD (0,0)
def ao5(s:Sh)(n:A7):List A7:=C9 (((s.of (s.pr n)).filter fun it=>decide (it.s.kind=4)).map (·.s.proc))
def aj5(out:List A7):List A7→List A7
 | []=>out
 | n::l=>aj5 (if out.contains n then out else out++[n]) l
def af2(g:A7→List A7):Nat→Nat→List A7→List A7
 | 0,_,out=>out
 | m+1,i,out=>match out[i]? with
   | none=>out
   | some n=>af2 g m (i+1) (aj5 out (g n))
def bp0(s:Sh)(n:A7):List A7:=S8 (af2 (ao5 s) (s.p.procs.length+1) 0 [n])
def aV2(p:Pg)(n:A7):Bool:=decide ((O5 p).1=0)&&p.procs.any fun f=>decide (f.name=n)
def W2(p:Pg)(n:A7):List A7:=if aV2 p n then
  let s:=b9 p
  C9 ((bp0 s n).flatMap fun m=>(s.of (s.pr m)).flatMap fun it=>(L4 it.s).filter fun v=>p.globals.contains v)
 else[]
def as4(name:A7)(touched:List A7):List A7→List Ar→Bool
 | _,[]=>true
 | seen,a::l=>if a.ref then(if seen.contains a.name||decide (a.name=name)||touched.contains a.name then false else as4 name touched (seen++[a.name]) l)else as4 name touched seen l
def ad9(s:St)(touched:List A7):Bool:=as4 s.name touched [] s.args
def aC3(p:Pg):Int×Int:=if(Y5 p).1≠0 then(1,0)else match(b9 p).l.find? fun it=>decide (it.s.kind=4) && !ad9 it.s (W2 p it.s.proc)with
 | some it=>(8,it.s.id)
 | none=>(0,0)
def aL5(p:Pg):Int×Int:=
 if J6 p=false then(1,0)
 else if(O5 p).1≠0 then O5 p
 else if(Y5 p).1≠0 then Y5 p
 else if(aA4 p).1≠0 then aA4 p
 else aC3 p
def ab0(p:Pg):Bool:=decide ((aL5 p).1=0)
theorem ap5{α:Type}(p:α→Bool):∀(l:List α) (i k:Nat) (hk:k<l.length),(∀j (hj:j<k),p (l[j]'(by omega))=false)→p l[k]=true→V5 p i l=(i+k:Nat)
 | [],i,k,hk,_,_=>by simp at hk
 | x::l,i,0,hk,h1,h2=>by
  have h2':p x=true:=h2;rw[V5,if_pos h2'];rfl
 | x::l,i,k+1,hk,h1,h2=>by
  have h0:p x=false:=h1 0 (by omega);rw[V5,if_neg (by rw[h0];simp),ap5 p l (i+1) k (by simpa using hk) (fun j hj=>h1 (j+1) (by omega)) h2]
  congr 1;omega
theorem au8{α:Type}(p:α→Bool):∀(l:List α) (i:Nat),(∀x∈l,p x=false)→V5 p i l = -1
 | [],i,_=>rfl
 | x::l,i,h=>by
  rw[V5,if_neg (by rw[h x (by simp)];simp)];exact au8 p l (i+1) fun y hy=>h y (dx9 _ hy)
theorem au6{α:Type}(p:α→Bool):∀(l:List α) (i:Nat),decide (0≤V5 p i l)=l.any p
 | [],i=>rfl
 | x::l,i=>by
  rw[V5,List.any_cons];cases hp:p x
  ·rw[if_neg (by simp),au6 p l];rfl
  ·rw[if_pos rfl];simp
theorem au7{α:Type}(p:α→Bool):∀(l:List α) (i:Nat),0≤V5 p i l→∃k,V5 p i l=(i+k:Nat)∧∃x,l[k]?=some x∧p x=true
 | [],i,h=>by simp[V5]at h
 | x::l,i,h=>by
  rw[V5]at h ⊢;cases hp:p x
  ·rw[hp,if_neg (by simp)]at h;rw[if_neg (by simp)];obtain⟨k,h1,y,h2,h3⟩:=au7 p l (i+1) h;exact⟨k+1,by rw[h1];congr 1;omega,y,by simpa using h2,h3⟩
  ·rw[if_pos rfl];exact⟨0,by simp,x,rfl,hp⟩
theorem dd1:E7 prog 111 121 17 240=true:=by kernel_rfl
theorem cP2:E7 prog 112 3 1 8=true:=by kernel_rfl
structure ShS (h:Hp) (w:World) (gb:Nat) (vg vp vL vLo vHi:Value) (L:List It) (lo hi:List Int):Prop where
 free:h gb=none
 cell:w.heap[gb]?=some (.cells #[vg,vp,vL,vLo,vHi] 114 (0,0))
 oL:B0 h w 121 vL L
 oLo:B0 h w 3 vLo lo
 oHi:B0 h w 3 vHi hi
 d1:∀b,A4 vL b→b≠gb∧¬A4 vLo b∧¬A4 vHi b
 d2:∀b,A4 vLo b→b≠gb∧¬A4 vHi b
 d3:∀b,A4 vHi b→b≠gb
section
variable {h:Hp} {w:World} {gb:Nat} {vg vp vL vLo vHi:Value} {L:List It} {lo hi:List Int}
theorem ShS.lt(s:ShS h w gb vg vp vL vLo vHi L lo hi):gb<w.heap.size:=(dr3.1 s.cell).1
theorem ShS.mod{M:Nat→Prop}{w':World}(s:ShS h w gb vg vp vL vLo vHi L lo hi)(hm:t8 M w w')(h0:¬M gb)(h1:∀b,A4 vL b→¬M b)(h2:∀b,A4 vLo b→¬M b)(h3:∀b,A4 vHi b→¬M b):ShS h w' gb vg vp vL vLo vHi L lo hi:=
 ⟨s.free,(hm.block gb s.lt h0).trans s.cell,s.oL.mod hm h1,s.oLo.mod hm h2,s.oHi.mod hm h3,s.d1,s.d2,s.d3⟩
theorem ShS.ext{w':World}(s:ShS h w gb vg vp vL vLo vHi L lo hi)(hx:o7 w w'):ShS h w' gb vg vp vL vLo vHi L lo hi:=
 s.mod hx id (fun _ _=>id) (fun _ _=>id) (fun _ _=>id)
theorem ShS.setL{w1 w2:World}{vL':Value}{L':List It}(s:ShS h w gb vg vp vL vLo vHi L lo hi)(h1:t8 (A4 vL) w w1)(ho:B0 h w1 121 vL' L')(hv:D7 w vL vL')
  (h2:t8 (fun b=>b=gb) w1 w2) (hc:w2.heap[gb]?=some (.cells #[vg,vp,vL',vLo,vHi] 114 (0,0))):ShS h w2 gb vg vp vL' vLo vHi L' lo hi:=by
 have hne:∀b,A4 vL' b→b≠gb∧¬A4 vLo b∧¬A4 vHi b:=fun b hb=>by
  rcases hv b hb with k|k
  ·exact s.d1 b k
  ·exact⟨fun e=>by have:=s.lt;omega,fun e=>by have:=s.oLo.lt e;omega,fun e=>by have:=s.oHi.lt e;omega⟩
 refine⟨s.free,hc,ho.mod h2 fun b hb=>(hne b hb).1,(s.oLo.mod h1 fun b hb hb2=>(s.d1 b hb2).2.1 hb).mod h2 fun b hb=>(s.d2 b hb).1,(s.oHi.mod h1 fun b hb hb2=>(s.d1 b hb2).2.2 hb).mod h2 fun b hb=>s.d3 b hb,hne,s.d2,s.d3⟩
theorem ShS.setLo{w1 w2:World}{v':Value}{lo':List Int}(s:ShS h w gb vg vp vL vLo vHi L lo hi)(h1:t8 (A4 vLo) w w1)(ho:B0 h w1 3 v' lo')(hv:D7 w vLo v')
  (h2:t8 (fun b=>b=gb) w1 w2) (hc:w2.heap[gb]?=some (.cells #[vg,vp,vL,v',vHi] 114 (0,0))):ShS h w2 gb vg vp vL v' vHi L lo' hi:=by
 have hne:∀b,A4 v' b→b≠gb∧¬A4 vL b∧¬A4 vHi b:=fun b hb=>by
  rcases hv b hb with k|k
  ·exact⟨(s.d2 b k).1,fun e=>(s.d1 b e).2.1 k,(s.d2 b k).2⟩
  ·exact⟨fun e=>by have:=s.lt;omega,fun e=>by have:=s.oL.lt e;omega,fun e=>by have:=s.oHi.lt e;omega⟩
 refine⟨s.free,hc,(s.oL.mod h1 fun b hb hb2=>(s.d1 b hb).2.1 hb2).mod h2 fun b hb=>(s.d1 b hb).1,ho.mod h2 fun b hb=>(hne b hb).1,(s.oHi.mod h1 fun b hb hb2=>(s.d2 b hb2).2 hb).mod h2 fun b hb=>s.d3 b hb,fun b hb=>⟨(s.d1 b hb).1,fun e=>(hne b e).2.1 hb,(s.d1 b hb).2.2⟩,fun b hb=>⟨(hne b hb).1,(hne b hb).2.2⟩,s.d3⟩
theorem ShS.setHi{w1 w2:World}{v':Value}{hi':List Int}(s:ShS h w gb vg vp vL vLo vHi L lo hi)(h1:t8 (A4 vHi) w w1)(ho:B0 h w1 3 v' hi')(hv:D7 w vHi v')
  (h2:t8 (fun b=>b=gb) w1 w2) (hc:w2.heap[gb]?=some (.cells #[vg,vp,vL,vLo,v'] 114 (0,0))):ShS h w2 gb vg vp vL vLo v' L lo hi':=by
 have hne:∀b,A4 v' b→b≠gb∧¬A4 vL b∧¬A4 vLo b:=fun b hb=>by
  rcases hv b hb with k|k
  ·exact⟨s.d3 b k,fun e=>(s.d1 b e).2.2 k,fun e=>(s.d2 b e).2 k⟩
  ·exact⟨fun e=>by have:=s.lt;omega,fun e=>by have:=s.oL.lt e;omega,fun e=>by have:=s.oLo.lt e;omega⟩
 refine⟨s.free,hc,(s.oL.mod h1 fun b hb hb2=>(s.d1 b hb).2.2 hb2).mod h2 fun b hb=>(s.d1 b hb).1,(s.oLo.mod h1 fun b hb hb2=>(s.d2 b hb).2 hb2).mod h2 fun b hb=>(s.d2 b hb).1,ho.mod h2 fun b hb=>(hne b hb).1,fun b hb=>⟨(s.d1 b hb).1,(s.d1 b hb).2.1,fun e=>(hne b e).2.1 hb⟩,fun b hb=>⟨(s.d2 b hb).1,fun e=>(hne b e).2.2 hb⟩,fun b hb=>(hne b hb).1⟩
end
def U8(h:Hp)(w:World)(tb:Nat)(x:It):Prop:=∃cs:List Value,w.heap[tb]?=some (.cells (List.toArray cs) 121 (0,0))∧A3.enc h cs x
section
variable {h:Hp} {w:World} {tb:Nat} {x:It}
theorem U8.mod{M:Nat→Prop}{w':World}(ht:U8 h w tb x)(hm:t8 M w w')(h0:¬M tb):U8 h w' tb x:=by
 obtain⟨cs,h1,h2⟩:=ht;exact⟨cs,(hm.block tb (dr3.1 h1).1 h0).trans h1,h2⟩
theorem U8.lt(ht:U8 h w tb x):tb<w.heap.size:=by
 obtain⟨cs,h1,h2⟩:=ht;exact(dr3.1 h1).1
theorem U8.new{v:Value}(hv:SV h v x):∃tb wz w',(Instr.alloc 121 true (.tuple #[])).run prog w = .ok (.pointer (some ⟨tb,0,none⟩)) wz∧(Instr.storeAt 121 (.pointer (some ⟨tb,0,none⟩)) v).run prog wz = .ok () w'∧o7 w w'∧w.heap.size≤tb∧U8 h w' tb x:=by
 obtain⟨cs,rfl,he⟩:=hv;obtain⟨h1,h2⟩:=aJ7 (P:=prog) (w:=w) (T:=121) bW7 rfl (cs:=List.toArray cs) (by rw[I7];simpa using(show cs.length=17 from A3.len he)) (by simpa using A3.one he);exact⟨w.heap.size,_,_,h1,h2,o7.alloc _ _,ds5 _,cs,dv4 w _,he⟩
theorem U8.ld(ht:U8 h w tb x):∃v,SV h v x∧(∀w',w'.heap[tb]?=w.heap[tb]?→(Instr.loadAt 121 (.pointer (some ⟨tb,0,none⟩))).run prog w' = .ok v w'∧(Instr.loadAt 3 (.pointer (some ⟨tb,15,none⟩))).run prog w' = .ok (.int .i64 x.next) w'):=by
 obtain⟨cs,h1,h2⟩:=ht;refine⟨.agg (List.toArray cs),⟨cs,rfl,h2⟩,fun w' hw=>⟨?_,?_⟩⟩
 ·exact S9 (hw.trans h1) ab1 ab2 Z1 (by rw[I7];simpa using(show cs.length=17 from A3.len h2).symm)
 ·obtain⟨c,rfl,hc⟩:=aG7 h2;obtain⟨a1,a2,a3,a4,a5,a6,a7,a8,a9,a10,a11,a12,a13,rfl⟩:=aE2 (A3.len hc);exact E9 (hw.trans h1) rfl F3
theorem U8.setS{v:Value}{s:St}(ht:U8 h w tb x)(hs:SV h v s):∃w',(Instr.storeAt 45 (.pointer (some ⟨tb,0,none⟩)) v).run prog w = .ok () w'∧U8 h w' tb ⟨s,x.proc,x.up,x.next,x.loop⟩∧t8 (fun b=>b=tb) w w':=by
 obtain⟨cs,h1,h2⟩:=ht;obtain⟨ds,rfl,h3⟩:=hs;obtain⟨c,rfl,hc⟩:=aG7 h2;have hl:c.length=13:=A3.len hc;have hl2:ds.length=13:=A3.len h3;obtain⟨w',k1,k2,k3⟩:=bY3 (P:=prog) (t:=45) (o:=0) (cs:=ds) h1 (by simp[hl,hl2]) (A3.one h3) aK7 (by rw[Y1,hl2]);refine⟨w',k1,⟨_,k2,?_⟩,k3⟩;refine⟨ds,?_,h3⟩;simp only[dC6,dB0,du4,hl2]
 congr 1
 simp only[dt4];rw[←hl,List.drop_left];simp
theorem U8.setN(n:Int)(ht:U8 h w tb x):∃w',(Instr.storeAt 3 (.pointer (some ⟨tb,15,none⟩)) (.int .i64 n)).run prog w = .ok () w'∧U8 h w' tb ⟨x.s,x.proc,x.up,n,x.loop⟩∧t8 (fun b=>b=tb) w w':=by
 obtain⟨cs,h1,h2⟩:=ht;obtain⟨c,rfl,hc⟩:=aG7 h2;obtain⟨a1,a2,a3,a4,a5,a6,a7,a8,a9,a10,a11,a12,a13,rfl⟩:=aE2 (A3.len hc);obtain⟨w',k1,k2,k3⟩:=aj6 (P:=prog) (t:=3) (i:=15) (x:=.int .i64 n) h1 (by simp) rfl rfl (A0 az5).choose_spec.1 (by rw[←C5 (A0 az5).choose_spec.1];exact aS8);exact⟨w',k1,⟨_,k2,_,rfl,hc⟩,k3⟩
theorem U8.setLp(n:Int)(ht:U8 h w tb x):∃w',(Instr.storeAt 3 (.pointer (some ⟨tb,16,none⟩)) (.int .i64 n)).run prog w = .ok () w'∧U8 h w' tb ⟨x.s,x.proc,x.up,x.next,n⟩∧t8 (fun b=>b=tb) w w':=by
 obtain⟨cs,h1,h2⟩:=ht;obtain⟨c,rfl,hc⟩:=aG7 h2;obtain⟨a1,a2,a3,a4,a5,a6,a7,a8,a9,a10,a11,a12,a13,rfl⟩:=aE2 (A3.len hc);obtain⟨w',k1,k2,k3⟩:=aj6 (P:=prog) (t:=3) (i:=16) (x:=.int .i64 n) h1 (by simp) rfl rfl (A0 az5).choose_spec.1 (by rw[←C5 (A0 az5).choose_spec.1];exact aS8);exact⟨w',k1,⟨_,k2,_,rfl,hc⟩,k3⟩
end
theorem bF4(h:Hp):A3.enc h [.int .i64 0,.int .i64 0,.slice none 0 0,o9 e0,o9 e0,.int .i64 0,.int .i64 0,o9 e0,.slice none 0 0,.bool false,.slice none 0 0,.slice none 0 0,.slice none 0 0] cm4:=by
 refine aU4.2 ⟨.slice none 0 0,[.int .i64 0,.int .i64 0,o9 e0,.slice none 0 0],.slice none 0 0,.slice none 0 0,.slice none 0 0,rfl,aB4 h,bh4.2 ⟨.slice none 0 0,rfl,aB4 h⟩,aB4 h,aB4 h,aB4 h⟩
theorem ch1(h:Hp)(a b c d:Int):∃v,B8 prog 121 [(1,.int .i64 a),(2,.int .i64 b),(3,.int .i64 c),(4,.int .i64 d)]=some v∧SV h v (⟨cm4,a,b,c,d⟩:It):=by
 refine⟨_,by simp[B8,cB9,J5,Instr.fill,Value.cells];rfl,_,rfl,_,rfl,bF4 h⟩
theorem ch0(h:Hp)(a c:Int):∃v,B8 prog 121 [(1,.int .i64 a),(3,.int .i64 c)]=some v∧SV h v (⟨cm4,a,0,c,0⟩:It):=by
 refine⟨_,by simp[B8,cB9,J5,Instr.fill,Value.cells];rfl,_,rfl,_,rfl,bF4 h⟩
end Go.Proofs.YtcbnbgpphippoaaGreat
