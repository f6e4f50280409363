/- pdgSlots.proved: for every input the law returns true. No condition. Part 1 of 6. -/
import Derived.Calls
import Derived.IntWalk
import Derived.KernelRfl
import Derived.Laws.AppendOwn
import Derived.Laws.CopyRow
import Derived.Laws.Entries
import Derived.Laws.Sem
import Derived.Laws.Strings
import Derived.Orders
import Derived.OrdersHeld
import Derived.StillTail
import Derived.Test.YtcbnbgpphippoaaGreatProg
set_option maxRecDepth 1000000
set_option maxHeartbeats 8000000
set_option linter.unusedVariables false
set_option linter.unusedSimpArgs false
set_option linter.unnecessarySimpa false
set_option linter.defProp false
namespace Go.Proofs.YtcbnbgpphippoaaGreat
open Go Tryz
def dn1:=@Array.getElem?_eq_some_iff
def do6:=@Bool.and_eq_true
def dt7:=@Bool.false_eq_true
def dy8:=@Bool.or_eq_true
def dt1:=@List.all_eq_true
def dw5:=@List.getElem?_drop
def do7:=@List.length_cons
def dy9:=@List.mem_of_mem_drop
def dw1:=@Nat.add_assoc
def dn9:=@Nat.le_refl
def dq4:=@Nat.lt_or_ge
def dq8:=@decide_eq_true_eq
def du7:=@if_false
def ds9:=@if_true
abbrev Fr:=Nat→Value
def aa0(a:Act):Fr:=fun i=>a.tmps.getD i undef
def p6(f:Fr)(d:Nat)(v:Value):Fr:=fun i=>if i=d then v else f i
theorem dk0{f:Fr}{d:Nat}{v:Value}{i:Nat}:p6 f d v i=if i=d then v else f i:=rfl
def C5(f:Fr):Option Nat→Value→Fr
 | some d,v=>p6 f d v
 | none,_=>f
def okd(n:Nat):Option Nat→Bool
 | some d=>decide (d<n)
 | none=>true
def ev(f:Fr):Operand→Value
 | .tmp t=>f t
 | .const v=>v
 | .global g=>.pointer (some ⟨g,0,none⟩)
 | .func g=>.func (.func g) #[] #[]
theorem bx0(a:Act):a.eval=ev (aa0 a):=by
 funext x;cases x<;>rfl
theorem aO4(a:Act)(d:Option Nat)(v:Value):(a.put d v).tmps.size=a.tmps.size:=by
 cases d<;>simp[Act.put]
theorem ax3(a:Act)(d:Option Nat)(v:Value):(a.put d v).defers=a.defers:=by
 cases d<;>simp[Act.put]
theorem aM3(a:Act)(d:Option Nat)(v:Value)(h:okd a.tmps.size d=true):aa0 (a.put d v)=C5 (aa0 a) d v:=by
 cases d with
 | none=>rfl
 | some d=>
  have hd:d<a.tmps.size:=by simpa[okd]using h
  funext i
  simp only[aa0,Act.put,C5,p6,Array.getD_eq_getD_getElem?,Array.getElem?_setIfInBounds];by_cases hi:i=d
  ·subst hi;simp[hd]
  ·have:¬d=i:=fun e=>hi e.symm;simp[hi,this]
def aG8(ops:Array Oper)(f:Fr)(j:Nat):Option Bool:=
 match(ops[j]?).bind (·.dst)with
 | some d=>match f d with
   | .bool b=>some b
   | _=>none
 | none=>none
theorem am2(ops:Array Oper)(a:Act):yielded ops a.tmps=aG8 ops (aa0 a):=by
 funext j
 unfold yielded aG8;cases h:(ops[j]?).bind (·.dst)with
 | none=>simp
 | some d=>
  simp only[Option.bind_some,aa0,Array.getD_eq_getD_getElem?];cases h2:a.tmps[d]? with
  | none=>simp[undef]
  | some v=>cases v<;>rfl
def N5(P:Program)(o:Oper)(K:Fr→World→Prop)(f:Fr)(w:World):Prop:=
 match(execOp (ev f) o).run P w with
 | .ok (.value v) w'=>K (C5 f o.dst v) w'
 | .ok .skip w'=>K (C5 f o.dst undef) w'
 | .ok (.enter g args) w'=>Calls P g args w' fun e w''=>∃v,e = .returned v∧K (C5 f o.dst v) w''
 | _=>False
theorem ag1{P:Program}{o:Oper}{K K':Fr→World→Prop}{f:Fr}{w:World}(h:∀f w,K f w→K' f w)(hs:N5 P o K f w):N5 P o K' f w:=by
 unfold N5 at *;generalize(execOp (ev f) o).run P w=r at *;cases r with
 | halt x w'=>exact hs
 | ok n w'=>
  cases n
  case value v=>exact h _ _ hs
  case skip=>exact h _ _ hs
  case enter g args=>exact Calls.mono hs fun e w'' ⟨v,he,hk⟩=>⟨v,he,h _ _ hk⟩
  all_goals exact hs
def bj9(P:Program)(S:World→Prop)(o:Oper)(f:Fr)(v:Value):Prop:=
 ∀w,S w→(execOp (ev f) o).run P w = .ok (.value v) w
def lft(n:Nat)(Q:Exit→Fr→World→Prop):Exit→Act→World→Prop:=fun e a w=>
 a.tmps.size=n∧a.defers=[]∧Q e (aa0 a) w
theorem ba0{P:Program}{o:Oper}{K:Fr→World→Prop}{a:Act}{w:World}{n:Nat}{Q:Exit→Act→World→Prop}
  {K':Act→World→Prop} (hn:a.tmps.size=n) (hd:a.defers=[]) (ho:okd n o.dst=true)
  (hK:∀a' w',a'.tmps.size=n→a'.defers=[]→K (aa0 a') w'→K' a' w') (hs:N5 P o K (aa0 a) w):o.wp P a w K' Q:=by
 unfold N5 at hs;unfold Oper.wp;rw[bx0];generalize(execOp (ev (aa0 a)) o).run P w=r at *;have key:∀v w',K (C5 (aa0 a) o.dst v) w'→K' (a.put o.dst v) w':=fun v w' h=>
  hK _ _ (by rw[aO4];exact hn) (by rw[ax3];exact hd) (by rw[aM3 _ _ _ (by rw[hn];exact ho)];exact h)
 cases r with
 | halt x w'=>exact hs.elim
 | ok n w'=>
  cases n
  case value v=>exact key _ _ hs
  case skip=>exact key _ _ hs
  case enter g args=>exact Calls.mono hs fun e w'' ⟨v,he,hk⟩=>by subst he;exact key _ _ hk
  all_goals exact hs.elim
def Run(P:Program)(ops:Array Oper):List Oper→(Fr→World→Prop)→Fr→World→Prop
 | [],K,f,w=>K f w
 | o::l,K,f,w=>if Region.wanted o (aG8 ops f)then N5 P o (Run P ops l K) f w else Run P ops l K (C5 f o.dst undef) w
def co9(n:Nat)(ops:Array Oper):Bool:=ops.all fun o=>okd n o.dst
theorem as5{P:Program}{ops:Array Oper}{n:Nat}{Q:Exit→Fr→World→Prop}:∀(l:List Oper) (a:Act) (w:World),(∀o∈l,okd n o.dst=true) →
  a.tmps.size=n→a.defers=[]→Run P ops l (Q .normal) (aa0 a) w→wpList P ops (lft n Q) l a w
 | [],a,w,_,hn,hd,h=>⟨hn,hd,h⟩
 | o::l,a,w,ho,hn,hd,h=>by
  unfold Run at h;unfold wpList;rw[am2];split
  ·rename_i hw;rw[if_pos hw]at h;exact .inl (ba0 hn hd (ho o (by simp)) (fun a' w' hn' hd' h'=>as5 l a' w' (fun o' h''=>ho o' (by simp[h''])) hn' hd' h') h)
  ·rename_i hw;rw[if_neg hw]at h;exact as5 l _ _ (fun o' h''=>ho o' (by simp[h''])) (by rw[aO4];exact hn) (by rw[ax3];exact hd)
    (by rw[aM3 _ _ _ (by rw[hn];exact ho o (by simp))];exact h)
def flt:Op→Bool
 | .move _ | .assign _ | .pick .. | .load .. | .nilCheck _ | .binOp .. | .unOp .. | .convert .. | .makeFunc .. | .slice .. | .fieldAddr .. | .field .. | .indexAddr .. | .index .. | .lookup .. | .extract ..=>true
 | .call {callee:=.builtin b,..}=>match b with
   | .len | .cap | .min | .max=>true
   | _=>false
 | _=>false
inductive aA7 where
 | nil
 | op (i:Nat) (r:aA7)
 | fork (rs:List Nat) (k:Nat→aA7)
def aq7(P:Program)(ops:Array Oper)(S:World→Prop):aA7→(Fr→World→Prop)→Fr→World→Prop
 | .nil,K,f,w=>K f w
 | .op i l,K,f,w=>
  match ops[i]? with
  | none=>False
  | some o=>
   if Region.wanted o (aG8 ops f)then
    if flt o.op then ∃v,bj9 P S o f v∧aq7 P ops S l K (C5 f o.dst v) w
    else N5 P o (fun f' w'=>S w'∧aq7 P ops S l K f' w') f w
   else aq7 P ops S l K (C5 f o.dst undef) w
 | .fork rs k,K,f,w=>∀i∈rs,
   match ops[i]? with
   | none=>False
   | some o=>
    if Region.wanted o (aG8 ops f)then N5 P o (fun f' w'=>S w'∧aq7 P ops S (k i) K f' w') f w
    else aq7 P ops S (k i) K (C5 f o.dst undef) w
def aN7(ops:Array Oper)(n:Nat):Nat→aA7→Array Bool→Bool
 | 0,.nil,listed=>Region.seqB .any ops (ops.size-n) n listed
 | m+1,.op i l,listed=>decide (i<n)&&(match ops[i]? with
   | none=>false
   | some o=>(if flt o.op then(Region.ready .any ops listed).contains i&&Region.free .any ops listed i else decide (Region.ready .any ops listed=[i]))) &&
  aN7 ops n m l (listed.setIfInBounds i true)
 | m+1,.fork rs k,listed=>decide (Region.ready .any ops listed=rs) && !rs.isEmpty&&rs.all fun i=>decide (i<n)&&aN7 ops n m (k i) (listed.setIfInBounds i true)
 | _,_,_=>false
def bI0(ops:Array Oper)(n:Nat)(ord:aA7):Bool:=
 Region.noSelect ops&&(decide (n=ops.size)||(decide (n<ops.size)&&Region.sinkB .any ops n&&Region.chainB .any ops n)) &&
 aN7 ops n n ord (Array.replicate ops.size false)
section
variable {P:Program} {ops:Array Oper} {Q:Exit→Act→World→Prop} {S:World→Prop}
def aK8(P:Program)(ops:Array Oper)(Q:Exit→Act→World→Prop)(S:World→Prop)(n:Nat):Nat→Array Bool→Act→World→Prop
 | 0,listed,a,w=>Region.ready .any ops listed=[]∧Q .normal a w
 | fuel+1,listed,a,w=>
  (Region.ready .any ops listed=[]→Q .normal a w) ∧
  ∀i∈Region.ready .any ops listed,wpOp P ops Q i (fun a' w'=>(i<n→S w')∧aK8 P ops Q S n fuel (listed.setIfInBounds i true) a' w') a w
theorem bl5{n:Nat}:∀(fuel:Nat) (listed:Array Bool) (a:Act) (w:World),aK8 P ops Q S n fuel listed a w→wpAny P .any ops Q fuel listed a w
 | 0,_,_,_,h=>h
 | fuel+1,_,_,_,h=>⟨h.1,fun i hi=>wpOp_mono (fun a' w' h'=>bl5 fuel _ a' w' h'.2) (h.2 i hi)⟩
theorem bA8{n i:Nat}{oi:Oper}{v:Value}(hi:ops[i]?=some oi)(hsel:∀(j:Nat) (o:Oper) cs b,ops[j]?=some o→o.op ≠ .select cs b)
  (hQ:∀c a w,Q (.panic c) (a.put oi.dst v) w→Q (.panic c) a w) (hin:i<n)
  (htw:∀listed,HeadInv .any ops n listed→listed.getD i true=false→∀t,n≤t→t∉Region.ready .any ops listed) :
  ∀(fuel:Nat) (listed:Array Bool) (a:Act) (w:World),HeadInv .any ops n listed →
   (∀j oj,ops[j]?=some oj→j≠i→listed.getD j true=false→(∀e∈oj.after,Region.binds .any e=true→e.on≠i)→oi.apart ops oj=true) →
   i∈Region.ready .any ops listed→YieldsIf P ops S oi v a→S w →
   aK8 P ops Q S n fuel (listed.setIfInBounds i true) (a.put oi.dst v) w→aK8 P ops Q S n (fuel+1) listed a w:=by
 intro fuel
 induction fuel with
 | zero=>
  intro listed a w _ _ hr hy hS H;refine⟨fun h=>(by rw[h]at hr;cases hr),fun j hj=>?_⟩;by_cases hji:j=i
  ·subst hji;exact hy.wpOp hi hS ⟨fun _=>hS,H⟩
  ·have:=ready_mono hj hji;rw[H.1]at this;cases this
 | succ fuel ih=>
  intro listed a w inv hfree hr hy hS H;refine⟨fun h=>(by rw[h]at hr;cases hr),fun j hj=>?_⟩;by_cases hji:j=i
  ·subst hji;exact hy.wpOp hi hS ⟨fun _=>hS,H⟩
  ·have h1:=H.2 j (ready_mono hj hji);obtain⟨hjun,oj,hoj,hall⟩:=mem_ready.1 hj;have hiun:=(mem_ready.1 hr).1;have hjn:j<n:=by
    rcases dq4 j n with h|h
    ·exact h
    ·exact absurd hj (htw listed inv hiun j h)
   have hnot:∀e∈oj.after,Region.binds .any e=true→e.on≠i:=fun e he hb heq=>by
    have h1:=hall e he hb;rw[heq,getD_both hiun]at h1;cases h1
   have h2:=wpOp_putIf hoj (hfree j oj hoj hji hjun hnot) (fun cs b=>hsel i oi cs b hi) (fun cs b=>hsel j oj cs b hoj) hQ hy h1;have hfree':∀k ok,ops[k]?=some ok→k≠i→(listed.setIfInBounds j true).getD k true=false →
     (∀e∈ok.after,Region.binds .any e=true→e.on≠i)→oi.apart ops ok=true:=fun k ok hk hki hun hno=>by
    refine hfree k ok hk hki ?_ hno;by_cases hjk:j=k
    ·subst hjk;exact hjun
    ·rw[getD_set_ne true hjk]at hun;exact hun
   refine wpOp_mono (fun a' w' h3=>⟨h3.2.1,ih (listed.setIfInBounds j true) a' w' (inv.set hj hjn) hfree' (ready_mono hr (Ne.symm hji)) h3.1 (h3.2.1 hjn) ?_⟩) h2;rw[Array.setIfInBounds_comm _ _ hji];exact h3.2.2
theorem as6{o:Oper}{i n:Nat}{K:Fr→World→Prop}{a:Act}{w:World}{K':Act→World→Prop}(hi:ops[i]?=some o)
  (hn:a.tmps.size=n) (hd:a.defers=[]) (ho:okd n o.dst=true) (hK:∀a' w',a'.tmps.size=n→a'.defers=[]→K (aa0 a') w'→K' a' w')
  (h:if Region.wanted o (aG8 ops (aa0 a))then N5 P o K (aa0 a) w else K (C5 (aa0 a) o.dst undef) w):wpOp P ops Q i K' a w:=by
 unfold wpOp;simp only[hi];rw[am2];split
 ·rename_i hw;rw[if_pos hw]at h;exact .inl (ba0 hn hd ho hK h)
 ·rename_i hw;rw[if_neg hw]at h;exact hK _ _ (by rw[aO4];exact hn) (by rw[ax3];exact hd) (by rw[aM3 _ _ _ (by rw[hn];exact ho)];exact h)
theorem aI1{n N:Nat}{Q:Exit→Fr→World→Prop}:∀(l:List Oper) (k:Nat) (listed:Array Bool) (a:Act) (w:World),(∀j,l[j]?=ops[k+j]?)→n≤k →
  (∀o∈l,okd N o.dst=true)→a.tmps.size=N→a.defers=[] →
  Region.seqB .any ops l.length k listed=true→Run P ops l (Q .normal) (aa0 a) w→aK8 P ops (lft N Q) S n l.length listed a w
 | [],_,_,_,_,_,_,_,hn,hd,hB,h=>⟨by simpa[Region.seqB]using hB,hn,hd,h⟩
 | o::l,k,listed,a,w,hl,hk,ho,hn,hd,hB,h=>by
  have h0:ops[k]?=some o:=by simpa using(hl 0).symm
  simp only[do7,Region.seqB,do6,dq8]at hB;refine⟨fun h1=>(by rw[hB.1]at h1;cases h1),fun i hi=>?_⟩;rw[hB.1]at hi;have hik:i=k:=by simpa using hi
  subst hik;refine as6 h0 hn hd (ho o (by simp)) (K:=Run P ops l (Q .normal)) (fun a' w' hn' hd' h'=>⟨fun h=>by omega,?_⟩) (by unfold Run at h;exact h);exact aI1 l (i+1) _ a' w' (fun j=>by have:=hl (j+1);simpa[dw1,Nat.add_comm 1 j]using this) (by omega) (fun o' h''=>ho o' (by simp[h''])) hn' hd' hB.2 h'
theorem bl4{n N:Nat}{Q:Exit→Fr→World→Prop}(hQ:∀c f w,¬Q (.panic c) f w)(hs:Region.noSelect ops=true)
  (htw:∀i,i<n→∀listed,HeadInv .any ops n listed→listed.getD i true=false→∀t,n≤t→t∉Region.ready .any ops listed) (hdst:∀o∈ops.toList,okd N o.dst=true) :
  ∀(m:Nat) (l:aA7) (listed:Array Bool) (a:Act) (w:World),HeadInv .any ops n listed→a.tmps.size=N→a.defers=[]→S w→aN7 ops n m l listed=true →
   aq7 P ops S l (Run P ops (ops.toList.drop n) (Q .normal)) (aa0 a) w→aK8 P ops (lft N Q) S n (m+(ops.size-n)) listed a w:=by
 have hmem:∀{i:Nat} {o:Oper},ops[i]?=some o→okd N o.dst=true:=by
  intro i o ho;have:=Array.mem_of_getElem? ho;exact hdst o (by simpa using this)
 intro m
 induction m with
 | zero=>
  intro l listed a w inv ha hd _ hB h;cases l
  case nil=>
   have:=aI1 (S:=S) (n:=n) (N:=N) (Q:=Q) (P:=P) (ops:=ops) (ops.toList.drop n) n listed a w (fun j=>by simp[dw5]) (dn9 _)
    (fun o ho=>hdst o (dy9 ho)) ha hd (by simpa[aN7]using hB) h
   simpa using this
  all_goals (simp[aN7]at hB)
 | succ m ih=>
  intro l listed a w inv ha hd hS hB h;have e1:m+1+(ops.size-n)=(m+(ops.size-n))+1:=by omega
  rw[e1];cases l
  case nil=>simp[aN7]at hB
  case op i l=>
   simp only[aN7,do6,dq8]at hB;obtain⟨⟨hin,hB1⟩,hB2⟩:=hB;simp only[aq7]at h;cases hoi:ops[i]? with
   | none=>simp[hoi]at h
   | some o=>
    simp only[hoi]at h hB1;have hod:=hmem hoi;by_cases hf:flt o.op=true
    ·simp only[hf,ds9,do6]at h hB1;have hr:i∈Region.ready .any ops listed:=by simpa using hB1.1
     have step:∀v,YieldsIf P ops S o v a→aq7 P ops S l (Run P ops (ops.toList.drop n) (Q .normal)) (C5 (aa0 a) o.dst v) w →
       aK8 P ops (lft N Q) S n ((m+(ops.size-n))+1) listed a w:=fun v hy hK=>
      bA8 hoi (Region.noSelect_spec hs) (fun c a w hh=>absurd hh.2.2 (hQ _ _ _)) hin (htw i hin) _ listed a w inv (Region.free_spec hoi hB1.2) hr hy hS
       (ih l _ _ w (inv.set hr hin) (by rw[aO4];exact ha) (by rw[ax3];exact hd) hS hB2 (by rw[aM3 _ _ _ (by rw[ha];exact hod)];exact hK))
     by_cases hw:Region.wanted o (aG8 ops (aa0 a))=true
     ·rw[if_pos hw]at h;obtain⟨v,hv,hK⟩:=h;refine step v (.inl ⟨by rw[am2];exact hw,fun w' hw'=>?_⟩) hK;rw[bx0];exact hv w' hw'
     ·rw[if_neg hw]at h;exact step undef (.inr ⟨by rw[am2];simpa using hw,rfl⟩) h
    ·simp only[hf,dt7,du7,dq8]at h hB1;have hr:i∈Region.ready .any ops listed:=by rw[hB1];simp
     refine⟨fun h1=>(by rw[hB1]at h1;cases h1),fun j hj=>?_⟩;rw[hB1]at hj;have hji:j=i:=by simpa using hj
     subst hji;refine as6 hoi ha hd hod (K:=fun f' w'=>S w'∧aq7 P ops S l (Run P ops (ops.toList.drop n) (Q .normal)) f' w') (fun a' w' ha' hd' h'=>⟨fun _=>h'.1,?_⟩) ?_
     ·exact ih l _ a' w' (inv.set hr hin) ha' hd' h'.1 hB2 h'.2
     ·split
      ·rename_i hw;rw[if_pos hw]at h;exact h
      ·rename_i hw;rw[if_neg hw]at h;exact⟨hS,h⟩
  case fork rs k=>
   simp only[aN7,do6,dq8,dt1]at hB;obtain⟨⟨hrs,hne⟩,hall⟩:=hB;simp only[aq7]at h;refine⟨fun h1=>(by rw[hrs]at h1;subst h1;simp at hne),fun i hi=>?_⟩;have hi':i∈rs:=by rw[hrs]at hi;exact hi
   have h2:=h i hi';obtain⟨hin,hB2⟩:=hall i hi';cases hoi:ops[i]? with
   | none=>simp[hoi]at h2
   | some o=>
    simp only[hoi]at h2;refine as6 hoi ha hd (hmem hoi) (K:=fun f' w'=>S w'∧aq7 P ops S (k i) (Run P ops (ops.toList.drop n) (Q .normal)) f' w') (fun a' w' ha' hd' h'=>⟨fun _=>h'.1,?_⟩) ?_
    ·exact ih (k i) _ a' w' (inv.set hi hin) ha' hd' h'.1 hB2 h'.2
    ·split
     ·rename_i hw;rw[if_pos hw]at h2;exact h2
     ·rename_i hw;rw[if_neg hw]at h2;exact⟨hS,h2⟩
theorem bl6{id n N:Nat}{ord:aA7}{Q:Exit→Fr→World→Prop}{a:Act}{w:World}(hm:P.follows .mixedOrders=true)(hQ:∀c f w,¬Q (.panic c) f w)
  (hok:bI0 ops n ord=true) (hdst:co9 N ops=true) (ha:a.tmps.size=N) (hd:a.defers=[]) (hS:S w.drew)
  (h:aq7 P ops S ord (Run P ops (ops.toList.drop n) (Q .normal)) (aa0 a) w.drew):(Code.region id ops true).wp P (lft N Q) a w:=by
 simp only[bI0,do6]at hok;obtain⟨⟨hs,hsz⟩,hord⟩:=hok;have hn:n≤ops.size:=by
  simp only[dy8,dq8,do6]at hsz;omega
 have inv0:HeadInv .any ops n (Array.replicate ops.size false):=
  ⟨by simp,fun j oj _ hl=>(by rw[getD_replicate_false]at hl;cases hl),fun t _ ht=>getD_in (by simpa using ht) (getD_replicate_false _ _)⟩
 have htw:∀i,i<n→∀listed,HeadInv .any ops n listed→listed.getD i true=false→∀t,n≤t→t∉Region.ready .any ops listed:=by
  intro i hi listed inv hun t ht hr;simp only[dy8,dq8,do6]at hsz;rcases hsz with h1|⟨⟨h1,h2⟩,h3⟩
  ·obtain⟨_,ot,hot,_⟩:=mem_ready.1 hr;have:=(dn1.1 hot).1;omega
  ·exact tail_waits h2 h3 h1 inv _ i rfl hi hun t ht hr
 refine wp_region_any hm (bl5 (S:=S) (n:=n) _ _ _ _ ?_);have hd':∀o∈ops.toList,okd N o.dst=true:=by
  intro o ho;have:=Array.all_eq_true'.1 hdst o (by simpa using ho);exact this
 have:=bl4 (S:=S) hQ hs htw hd' n ord _ a w.drew inv0 ha hd hS hord h
 rwa [show n+(ops.size-n)=ops.size by omega]at this
end
def du3:=@List.getElem?_eq_none
def dr3:=@List.map_cons
def ds2:=@Option.isSome_iff_exists
def dt2:=@Option.map_some
def do2:=@Option.some.inj
def dx8:=@Option.some.injEq
def do1:=@Result.andThen_ok
def do9:=@Sem.run_bind
def dq0:=@Sem.run_pure
def K6(P:Program)(t:TypeId):Option TypeId:=match P.underlying t with
 | some (.slice e)=>some e
 | _=>none
def bA0(P:Program)(t:TypeId):Bool:=match P.underlying t with
 | some .string=>true
 | _=>false
def bB9(P:Program)(t:TypeId):Option (Nat×TypeId):=match P.underlying t with
 | some (.array n e)=>some (n,e)
 | _=>none
def K1(P:Program)(t:TypeId):Nat:=((P.info? t).map (·.size)).getD 0
def G3(P:Program)(t:TypeId):Option Value:=(P.info? t).bind (·.zero)
def co0(P:Program)(t:TypeId):Nat:=((P.info? t).map (·.bytes)).getD 0
def H9(P:Program)(t:TypeId):Bool:=match P.underlying t with
 | some (.struct _)=>true
 | some (.array _ _)=>true
 | none=>true
 | _=>false
def B9(P:Program)(s:TypeId)(i:Nat):Option (Nat×TypeId):=match P.underlying s with
 | some (.struct fs)=>match fs[i]? with
   | some fl=>if K1 P fl.type=0 then none else some (fl.offset,fl.type)
   | none=>none
 | _=>none
def eqT(P:Program)(t:TypeId):Nat:=match P.underlying t with
 | some .bool=>1
 | some (.pointer _)=>2
 | some (.slice _)=>3
 | some (.map _ _)=>4
 | some (.func _ _ _)=>5
 | some (.interface _)=>6
 | _=>0
def cE6(P:Program)(t:TypeId):Option IntKind:=match P.underlying t with
 | some (.int k)=>some k
 | _=>none
def N9(P:Program)(t:TypeId):Option (Array Value×List (Nat×Nat)):=match(P.info? t).bind (·.zero),P.underlying t with
 | some z,some (.struct fs)=>if fs.toList.all (fun fl=>(P.info? fl.type).isSome)then some (z.cells,fs.toList.map fun fl=>(fl.offset,K1 P fl.type))else none
 | some z,some (.array n e)=>if(P.info? e).isSome then some (z.cells,(List.range n).map fun i=>(i*K1 P e,K1 P e))else none
 | _,_=>none
def isS:Value→Bool
 | .slice _ _ _=>true
 | _=>false
def vlen:Value→Nat
 | .slice _ n _=>n
 | _=>0
def bG9:Value→Bool
 | .slice none _ _=>true
 | _=>false
def vcap:Value→Nat
 | .slice _ _ c=>c
 | _=>0
def inS:Value→Nat→Bool
 | .slice (some _) n _,k=>decide (k<n)
 | _,_=>false
def G9:Value→Nat→Addr
 | .slice (some a) _ _,k=>a.add k
 | _,_=>default
def reS(v:Value)(l h sz:Nat):Value:=match v with
 | .slice a _ cap=>.slice (if cap=l then a else a.map (·.add (l*sz))) (h-l) (cap-l)
 | _=>undef
def E4(op:BinOp)(k:IntKind)(a b:Int):Option Value:=match op with
 | .add=>some (.int k (k.wrap (a+b)))
 | .sub=>some (.int k (k.wrap (a-b)))
 | .mul=>some (.int k (k.wrap (a*b)))
 | .quo=>if b=0 then none else some (.int k (k.wrap (a.tdiv b)))
 | .rem=>if b=0 then none else some (.int k (a.tmod b))
 | .eql=>some (.bool (a==b))
 | .neq=>some (.bool (a != b))
 | .lss=>some (.bool (a<b))
 | .leq=>some (.bool (a≤b))
 | .gtr=>some (.bool (a>b))
 | .geq=>some (.bool (a≥b))
 | .and=>some (.int k (k.wrap (BitVec.ofInt k.bits a &&& BitVec.ofInt k.bits b).toNat))
 | .or=>some (.int k (k.wrap (BitVec.ofInt k.bits a ||| BitVec.ofInt k.bits b).toNat))
 | .xor=>some (.int k (k.wrap (BitVec.ofInt k.bits a ^^^ BitVec.ofInt k.bits b).toNat))
 | .andNot=>some (.int k (k.wrap (BitVec.ofInt k.bits a &&& ~~~BitVec.ofInt k.bits b).toNat))
 | _=>none
def B5(P:Program)(op:BinOp)(t:TypeId):Value→Value→Option Value
 | .int k a,.int k' b=>match op with
   | .shl=>if b<0 then none else some (.int k (k.wrap (a*2 ^ (min b.toNat k.bits))))
   | .shr=>if b<0 then none else some (.int k (a.fdiv (2 ^ (min b.toNat k.bits))))
   | _=>if k=k' then E4 op k a b else none
 | .string a,.string b=>match op with
   | .eql=>some (.bool (a.toList==b.toList))
   | .neq=>some (.bool !(a.toList==b.toList))
   | .lss=>some (.bool (Op.bytesLess a.toList b.toList))
   | .leq=>some (.bool (Op.bytesLess a.toList b.toList||a.toList==b.toList))
   | .gtr=>some (.bool !(Op.bytesLess a.toList b.toList||a.toList==b.toList))
   | .geq=>some (.bool !(Op.bytesLess a.toList b.toList))
   | .add=>if((a.size+b.size:Nat):Int)>IntKind.i64.max then none else some (.string (a++b))
   | _=>none
 | .bool a,.bool b=>match op with
   | .eql=>if eqT P t=1 then some (.bool (a==b))else none
   | .neq=>if eqT P t=1 then some (.bool !(a==b))else none
   | _=>none
 | .pointer a,.pointer none=>match op with
   | .eql=>if eqT P t=2 then some (.bool a.isNone)else none
   | .neq=>if eqT P t=2 then some (.bool !a.isNone)else none
   | _=>none
 | a,.slice none 0 0=>match op with
   | .eql=>if isS a&&eqT P t==3 then some (.bool (bG9 a))else none
   | .neq=>if isS a&&eqT P t==3 then some (.bool !(bG9 a))else none
   | _=>none
 | _,_=>none
def unV(op:UnOp):Value→Option Value
 | .bool b=>match op with
   | .not=>some (.bool !b)
   | _=>none
 | .int k n=>match op with
   | .neg=>some (.int k (k.wrap (0-n)))
   | _=>none
 | _=>none
def bx1(P:Program)(s:TypeId)(i:Nat):Value→Option Value
 | .pointer (some a)=>match B9 P s i with
   | some (o,_)=>some (.pointer (some (a.add o)))
   | none=>none
 | _=>none
def bH6(P:Program)(t:TypeId)(cs:Array Value)(o:Nat):Option Value:=
 if H9 P t then(if(P.info? t).isSome&&(P.underlying t).isSome then some (.agg (cs.extract o (o+K1 P t)))else none)else cs[o]?
def aJ5(P:Program)(s:TypeId)(i:Nat):Value→Option Value
 | .agg cs=>match B9 P s i with
   | some (o,t)=>bH6 P t cs o
   | none=>none
 | _=>none
def z6(P:Program)(t:TypeId)(x:Value):Value→Option Value
 | .int _ n=>match K6 P t with
   | some e=>if(P.info? e).isSome&&decide (0≤n)&&inS x n.toNat then some (.pointer (some (G9 x (n.toNat*K1 P e))))else none
   | none=>match bB9 P t,x with
     | some (len,e),.pointer (some a)=>if(P.info? e).isSome&&decide (0≤n)&&decide (n<len)then some (.pointer (some (a.add (n.toNat*K1 P e))))else none
     | _,_=>none
 | _=>none
def U4(P:Program)(t:TypeId)(x:Value):Value→Option Value
 | .int _ n=>match bB9 P t,x with
   | some (len,e),.agg cs=>if(P.info? e).isSome&&decide (0≤n)&&decide (n<len)then bH6 P e cs (n.toNat*K1 P e)else none
   | none,.string s=>if bA0 P t&&decide (0≤n)then(s[n.toNat]?).map fun b=>.int .u8 b.toNat else none
   | _,_=>none
 | _=>none
def H8(P:Program)(t:TypeId)(x:Value)(lo hi:Option Value):Option Value:=
 match(match lo with|none=>some 0|some (.int _ n)=>some n|_=>none:Option Int),
  (match hi with|none=>some ((if isS x then vlen x else match x with | .string s=>s.size|_=>0:Nat):Int)|some (.int _ n)=>some n|_=>none:Option Int)with
 | some l,some h=>match K6 P t with
   | some e=>if(P.info? e).isSome&&isS x&&decide (0≤l)&&decide (l≤h)&&decide (h≤vcap x)then some (reS x l.toNat h.toNat (K1 P e))else none
   | none=>match x with
     | .string s=>if bA0 P t&&decide (0≤l)&&decide (l≤h)&&decide (h≤s.size)then some (.string (s.extract l.toNat h.toNat))else none
     | _=>none
 | _,_=>none
def P8(P:Program)(t:TypeId)(x:Value):Option Value:=
 if(K6 P t).isSome then(if isS x then some (.int .i64 (vlen x))else none)
 else match x with
  | .string s=>if bA0 P t then some (.int .i64 s.size)else none
  | _=>match bB9 P t with
    | some (n,_)=>some (.int .i64 n)
    | none=>none
def cC4(P:Program)(t:TypeId)(x:Value):Option Value:=
 if(K6 P t).isSome&&isS x then some (.int .i64 (vcap x))else none
def aW4(P:Program)(s d:TypeId):Value→Option Value
 | .int _ n=>match cE6 P d with
   | some k=>if(P.underlying s).isSome then some (.int k (k.wrap n))else none
   | none=>none
 | _=>none
def J4(pl:List (Nat×Nat))(cs:Array Value)(parts:List (Nat×Value)):Option (Array Value):=Instr.fill (fun i=>pl[i]?) cs parts
def B7(P:Program)(t:TypeId)(parts:List (Nat×Value)):Option Value:=
 match N9 P t with
 | some (z,pl)=>(J4 pl z parts).map .agg
 | none=>none
def cs8:Value→Value→Option Value
 | .int k x,.int _ y=>some (.int k (if y<x then y else x))
 | _,_=>none
def cs7:Value→Value→Option Value
 | .int k x,.int _ y=>some (.int k (if y>x then y else x))
 | _,_=>none
def ar6(P:Program)(f:Fr):Op→Option Value
 | .move x=>some (ev f x)
 | .assign x=>some (ev f x)
 | .pick c a b=>match ev f c with
   | .bool t=>some (if t then ev f a else ev f b)
   | _=>none
 | .binOp op t x y _=>B5 P op t (ev f x) (ev f y)
 | .unOp op _ x=>unV op (ev f x)
 | .fieldAddr s x i=>bx1 P s i (ev f x)
 | .field s x i=>aJ5 P s i (ev f x)
 | .indexAddr t x i=>z6 P t (ev f x) (ev f i)
 | .index t x i=>U4 P t (ev f x) (ev f i)
 | .slice t x lo hi none=>H8 P t (ev f x) (lo.map (ev f)) (hi.map (ev f))
 | .extract x i=>match ev f x with
   | .tuple vs=>vs[i]?
   | _=>none
 | .convert s d x=>aW4 P s d (ev f x)
 | .nilCheck x=>match ev f x with
   | .pointer (some a)=>some (.pointer (some a))
   | _=>none
 | .makeFunc fn first cap=>some (.func fn (first.map (ev f)) (cap.map (ev f)))
 | .build t parts=>B7 P t (parts.toList.map fun p=>(p.1,ev f p.2))
 | .call c=>match c.callee with
   | .builtin .len=>match c.args.toList,c.argTypes.toList with
     | [x],[t]=>P8 P t (ev f x)
     | _,_=>none
   | .builtin .cap=>match c.args.toList,c.argTypes.toList with
     | [x],[t]=>cC4 P t (ev f x)
     | _,_=>none
   | .builtin .min=>match c.args.toList with
     | [x,y]=>cs8 (ev f x) (ev f y)
     | _=>none
   | .builtin .max=>match c.args.toList with
     | [x,y]=>cs7 (ev f x) (ev f y)
     | _=>none
   | _=>none
 | _=>none
section
variable {P:Program}
theorem F3(t:TypeId)(w:World):(underlying t).run P w=match P.underlying t with
  | some d=>.ok d w
  | none=>.halt (.stuck "no such type") w:=by
 simp only[underlying,program,do9,Sem.run,do1];cases P.underlying t<;>rfl
theorem N2(t:TypeId)(w:World):(typeInfo t).run P w=match P.info? t with
  | some d=>.ok d w
  | none=>.halt (.stuck "no such type") w:=by
 simp only[typeInfo,program,do9,Sem.run,do1];cases P.info? t<;>rfl
theorem N4{t:TypeId}(h:(P.info? t).isSome=true)(w:World):(sizeOf t).run P w = .ok (K1 P t) w:=by
 obtain⟨i,hi⟩:=ds2.1 h;simp[sizeOf,N2,hi,K1]
theorem W8(t:TypeId)(h:(P.underlying t).isSome=true)(w:World):(isAgg t).run P w = .ok (H9 P t) w:=by
 obtain⟨i,hi⟩:=ds2.1 h;unfold isAgg H9;rw[do9,F3,hi];cases i<;>rfl
theorem aQ6{t:TypeId}(h:H9 P t=false):(P.underlying t).isSome=true:=by
 unfold H9 at h;cases hu:P.underlying t with
 | none=>simp[hu]at h
 | some d=>rfl
theorem bi4{t:TypeId}{cs:Array Value}{o:Nat}{v:Value}(h:bH6 P t cs o=some v)(w:World):(part t cs o).run P w = .ok v w:=by
 unfold bH6 at h;unfold part;by_cases ha:H9 P t=true
 ·rw[if_pos ha]at h;by_cases hi:((P.info? t).isSome&&(P.underlying t).isSome)=true
  ·rw[if_pos hi]at h;simp only[do6]at hi;obtain rfl:=do2 h;simp only[do9,W8 t hi.2,do1,ha,Sem.run_ite,ds9,N4 hi.1,dq0]
  ·rw[if_neg hi]at h;cases h
 ·have ha':H9 P t=false:=by simpa using ha
  rw[if_neg ha]at h;simp only[do9,W8 t (aQ6 ha'),do1,ha',dt7,du7,h,dq0]
theorem aU0{op:BinOp}{t:TypeId}{x y:Operand}{a b:Value}(h1:a ≠ .nilIface)(h2:∀cs,a ≠ .agg cs)(w:World):
  (eqGuard op t x y a b).run P w = .ok () w:=by
 unfold eqGuard;cases op<;>first|rfl|(cases a<;>first|rfl|exact absurd rfl h1|exact absurd rfl (h2 _))
theorem bL9{op:BinOp}{t:TypeId}{x y:Operand}{a b v:Value}(h:B5 P op t a b=some v)(w:World):
  (do eqGuard op t x y a b;binOp op t a b:Sem Value).run P w = .ok v w:=by
 have hg:(eqGuard op t x y a b).run P w = .ok () w:=by
  apply aU0
  ·rintro rfl;unfold B5 at h;split at h<;>first
    | (simp_all;done)
    | (split at h<;>simp_all [isS])
  ·rintro cs rfl;unfold B5 at h;split at h<;>first
    | (simp_all;done)
    | (split at h<;>simp_all [isS])
 rw[do9,hg,do1];unfold B5 at h;split at h
 ·split at h
  ·split at h
   ·cases h
   ·rename_i hb;obtain rfl:=do2 h;simp[binOp,Op.shift,hb]
  ·split at h
   ·cases h
   ·rename_i hb;obtain rfl:=do2 h;simp[binOp,Op.shift,hb]
  ·rename_i h1 h2;split at h
   ·rename_i hk;subst hk;unfold E4 at h;cases op<;>simp only[dx8]at h <;>
     first
     | (subst h;simp[binOp,Op.intArith,Op.intCmp,Op.intBits])
     | (split at h<;>first|(rename_i hb;obtain rfl:=do2 h;simp[binOp,Op.intDiv,hb];done)|(cases h;done))
     | (exact absurd rfl (by assumption))
     | cases h
   ·cases h
 ·split at h<;>first
   | (obtain rfl:=do2 h;simp[binOp,Op.stringOp])
   | (split at h<;>first|(rename_i hb;obtain rfl:=do2 h;simp only[binOp,Op.stringOp];rw[if_neg hb];rfl)|(cases h;done))
   | cases h
 ·have key:∀{p q:Bool},eqT P t=1→(Op.equal t (.bool p) (.bool q)).run P w = .ok (p==q) w:=by
   intro p q ht;unfold eqT at ht;unfold Op.equal Op.maxDepth Op.equalIn;rw[do9,F3];cases hu:P.underlying t with
   | none=>simp[hu]at ht
   | some d=>cases d<;>simp[hu]at ht ⊢
  split at h<;>first
   | (split at h
      ·rename_i ht;obtain rfl:=do2 h;simp[binOp,key ht]
      ·cases h)
   | cases h
 ·have key:∀{p:Option Addr},eqT P t=2→(Op.equal t (.pointer p) (.pointer none)).run P w = .ok p.isNone w:=by
   intro p ht;unfold eqT at ht;unfold Op.equal Op.maxDepth Op.equalIn;rw[do9,F3];cases hu:P.underlying t with
   | none=>simp[hu]at ht
   | some d=>cases d<;>simp[hu]at ht ⊢<;> (cases p<;>rfl)
  split at h<;>first
   | (split at h
      ·rename_i ht;obtain rfl:=do2 h;simp[binOp,key ht]
      ·cases h)
   | cases h
 ·have key:isS a=true→eqT P t=3→(Op.equal t a (.slice none 0 0)).run P w = .ok (bG9 a) w:=by
   intro hs ht;cases a
   case slice p n c=>
    unfold eqT at ht;unfold Op.equal Op.maxDepth Op.equalIn;rw[do9,F3];cases hu:P.underlying t with
    | none=>simp[hu]at ht
    | some d=>cases d<;>simp[hu]at ht ⊢<;> (cases p<;>rfl)
   all_goals (simp[isS]at hs)
  have hop:isS a=true→binOp .eql t a (.slice none 0 0)=(do pure (.bool (←Op.equal t a (.slice none 0 0))))∧binOp .neq t a (.slice none 0 0)=(do pure (.bool (!(←Op.equal t a (.slice none 0 0))))):=by
   intro hs;cases a
   case slice p n c=>exact⟨rfl,rfl⟩
   all_goals (simp[isS]at hs)
  split at h<;>first
   | (split at h
      ·rename_i ht;simp only[do6,beq_iff_eq]at ht;obtain rfl:=do2 h
       first|rw[(hop ht.1).1]|rw[(hop ht.1).2]
       simp[key ht.1 ht.2]
      ·cases h)
   | cases h
 ·cases h
theorem L6{t e:TypeId}(h:K6 P t=some e):P.underlying t=some (.slice e):=by
 unfold K6 at h;cases hu:P.underlying t with
 | none=>simp[hu]at h
 | some d=>cases d<;>simp[hu]at h;subst h;rfl
theorem aR3{t e:TypeId}{n:Nat}(h:bB9 P t=some (n,e)):P.underlying t=some (.array n e):=by
 unfold bB9 at h;cases hu:P.underlying t with
 | none=>simp[hu]at h
 | some d=>cases d<;>simp[hu]at h;obtain⟨rfl,rfl⟩:=h;rfl
theorem aG0{t:TypeId}(h:bA0 P t=true):P.underlying t=some .string:=by
 unfold bA0 at h;cases hu:P.underlying t with
 | none=>simp[hu]at h
 | some d=>cases d<;>simp[hu]at h;rfl
theorem bS2{t:TypeId}(h:¬K1 P t=0):(P.info? t).isSome=true:=by
 unfold K1 at h;cases hi:P.info? t with
 | none=>simp[hi]at h
 | some i=>rfl
theorem aW8{s:TypeId}{i o t:Nat}(h:B9 P s i=some (o,t)):∃fs fl,P.underlying s=some (.struct fs)∧fs[i]?=some fl∧¬K1 P t=0∧fl.offset=o∧fl.type=t:=by
 unfold B9 at h;cases hu:P.underlying s with
 | none=>simp[hu]at h
 | some d=>
  cases d
  case struct fs=>
   simp only[hu]at h;cases hf:fs[i]? with
   | none=>simp[hf]at h
   | some fl=>
    simp only[hf]at h;split at h
    ·cases h
    ·rename_i hz;simp only[dx8,Prod.mk.injEq]at h;obtain⟨rfl,rfl⟩:=h;exact⟨fs,fl,rfl,hf,hz,rfl,rfl⟩
  all_goals simp[hu]at h
theorem bx2{s i:Nat}{x v:Value}(h:bx1 P s i x=some v)(w:World):(Instr.fieldAt s x i).run P w = .ok v w:=by
 unfold bx1 at h;split at h
 ·split at h
  ·rename_i a o t hf;obtain⟨fs,fl,h1,h2,h3,h4,h5⟩:=aW8 hf;obtain rfl:=do2 h;subst h4 h5;unfold Instr.fieldAt;rw[do9,F3,h1];simp only[do1,h2,do9,Instr.sureAddr,dq0,Go.fieldPlace,N4 (bS2 h3),Sem.run_ite];rw[if_neg h3];rfl
  ·cases h
 ·cases h
theorem bN3{s i:Nat}{x v:Value}(h:aJ5 P s i x=some v)(w:World):(Instr.field s x i).run P w = .ok v w:=by
 unfold aJ5 at h;split at h
 ·split at h
  ·rename_i cs o t hf;obtain⟨fs,fl,h1,h2,h3,h4,h5⟩:=aW8 hf;subst h4 h5;unfold Instr.field;rw[do9,F3,h1];simp only[do1,h2,do9,asAgg,dq0,bi4 h]
  ·cases h
 ·cases h
theorem cr1{x:Value}{k:Nat}(h:inS x k=true):∃a n c,x = .slice (some a) n c∧k<n:=by
 unfold inS at h;split at h
 ·exact⟨_,_,_,rfl,by simpa using h⟩
 ·cases h
theorem bO8{t:Nat}{x i v:Value}(h:z6 P t x i=some v)(w:World):(Instr.indexAt t x i).run P w = .ok v w:=by
 unfold z6 at h;split at h
 ·rename_i k n;split at h
  ·rename_i e he;split at h
   ·rename_i hc;simp only[do6,dq8]at hc;obtain⟨⟨hi,h0⟩,hin⟩:=hc;obtain⟨a,m,c,rfl,hlt⟩:=cr1 hin;obtain rfl:=do2 h;unfold Instr.indexAt;simp only[asIntOf,do9,dq0,do1,F3,L6 he];have:0≤n∧n<(m:Int):=by omega
    simp only[this,and_self,ds9,do9,N4 hi,do1,dq0,G9]
   ·cases h
  ·split at h
   ·rename_i len e a he;split at h
    ·rename_i hc;simp only[do6,dq8]at hc;obtain⟨⟨hi,h0⟩,hlt⟩:=hc;obtain rfl:=do2 h;unfold Instr.indexAt;simp only[asIntOf,do9,dq0,do1,F3,aR3 he,Instr.sureAddr];have:0≤n∧n<(len:Int):=by omega
     simp only[this,and_self,ds9,do9,N4 hi,do1,dq0]
    ·cases h
   ·cases h
 ·cases h
theorem bx7{t:Nat}{x i v:Value}(h:U4 P t x i=some v)(w:World):(Instr.index t x i).run P w = .ok v w:=by
 unfold U4 at h;split at h
 ·rename_i k n;split at h
  ·rename_i len e cs he;split at h
   ·rename_i hc;simp only[do6,dq8]at hc;obtain⟨⟨hi,h0⟩,hlt⟩:=hc;unfold Instr.index;simp only[asIntOf,do9,dq0,do1,F3,aR3 he];have:0≤n∧n<(len:Int):=by omega
    simp only[this,and_self,ds9,do9,N4 hi,do1,bi4 h]
   ·cases h
  ·rename_i s he;split at h
   ·rename_i hc;simp only[do6,dq8]at hc;obtain⟨hs,h0⟩:=hc;unfold Instr.index;simp only[asIntOf,do9,dq0,do1,F3,aG0 hs,h0,ds9];cases hb:s[n.toNat]? with
    | none=>simp[hb]at h
    | some b=>
     simp only[hb,dt2,dx8]at h;subst h;rfl
   ·cases h
  ·cases h
 ·cases h
theorem bP2{t:TypeId}{x v:Value}{ty:TypeId}(h:P8 P t x=some v)(w:World):(Builtin.len_ #[t] ty #[x]).run P w = .ok v w:=by
 unfold P8 at h;split at h
 ·rename_i he;obtain⟨e,he⟩:=ds2.1 he;split at h
  ·rename_i hs;obtain rfl:=do2 h;cases x
   case slice a n c=>simp[Builtin.len_,F3,L6 he,vlen,goInt]
   all_goals simp[isS]at hs
  ·cases h
 ·split at h
  ·rename_i s;split at h
   ·rename_i hs;obtain rfl:=do2 h;simp[Builtin.len_,F3,aG0 hs,goInt]
   ·cases h
  ·rename_i hns;split at h
   ·rename_i n e he;obtain rfl:=do2 h;cases x<;>simp[Builtin.len_,F3,aR3 he,goInt]
   ·cases h
theorem bM4{t:TypeId}{x v:Value}{ty:TypeId}(h:cC4 P t x=some v)(w:World):(Builtin.cap_ #[t] ty #[x]).run P w = .ok v w:=by
 unfold cC4 at h;split at h
 ·rename_i hc;simp only[do6]at hc;obtain⟨e,he⟩:=ds2.1 hc.1;obtain rfl:=do2 h;cases x
  case slice a n c=>simp[Builtin.cap_,F3,L6 he,vcap,goInt]
  all_goals (simp[isS]at hc)
 ·cases h
theorem bC6{s d:TypeId}{x v:Value}(h:aW4 P s d x=some v)(w:World):(convert s d x).run P w = .ok v w:=by
 unfold aW4 at h;split at h
 ·split at h
  ·rename_i k hk;split at h
   ·rename_i hs;obtain rfl:=do2 h;obtain⟨sd,hsd⟩:=ds2.1 hs;have hd:P.underlying d=some (.int k):=by
     unfold cE6 at hk;cases hu:P.underlying d with
     | none=>simp[hu]at hk
     | some dd=>cases dd<;>simp[hu]at hk;subst hk;rfl
    unfold convert;simp only[do9,F3,hsd,hd,do1,Conv.intToInt,dq0]
   ·cases h
  ·cases h
 ·cases h
theorem bv8{t:TypeId}{parts:List (Nat×Value)}{v:Value}(h:B7 P t parts=some v)(w:World):(Instr.build t parts.toArray).run P w = .ok v w:=by
 unfold B7 at h;cases hb:N9 P t with
 | none=>simp[hb]at h
 | some zp=>
  obtain⟨z,pl⟩:=zp;simp only[hb]at h;unfold N9 at hb;have hmap:∀(fs:List Field),(fs.all fun fl=>(P.info? fl.type).isSome)=true →
    (fs.mapM (m:=Sem) fun f=>do pure (f.offset,←sizeOf f.type)).run P w = .ok (fs.map fun fl=>(fl.offset,K1 P fl.type)) w:=by
   intro fs
   induction fs with
   | nil=>intro _;simp
   | cons f fs ih=>
    intro hall;simp only[List.all_cons,do6]at hall;simp only[List.mapM_cons,do9,N4 hall.1,do1,dq0,ih hall.2,dr3]
  unfold Instr.build zeroValue;cases hi:P.info? t with
  | none=>simp[hi]at hb
  | some i=>
   cases hz:i.zero with
   | none=>simp[hi,hz]at hb
   | some zv=>
    simp only[hi,Option.bind_some,hz]at hb;simp only[do9,N2,hi,do1,hz,dq0,F3];cases hu:P.underlying t with
    | none=>simp[hu]at hb
    | some d=>
     cases d
     case struct fs=>
      simp only[hu]at hb;split at hb
      ·rename_i hall;simp only[dx8,Prod.mk.injEq]at hb;obtain⟨rfl,rfl⟩:=hb;simp only[do1];rw[Array.mapM_eq_mapM_toList];simp only[do9,Sem.run_map]
       erw [hmap _ hall]
       simp only[do1];unfold J4 at h;simp only[List.getElem?_toArray];cases hf:Instr.fill (fun i=>(fs.toList.map fun fl=>(fl.offset,K1 P fl.type))[i]?) zv.cells parts with
       | none=>rw[hf]at h;cases h
       | some cells=>
        simp only[hf,dt2,dx8]at h;subst h;rfl
      ·cases hb
     case array n e=>
      simp only[hu]at hb;split at hb
      ·rename_i he;simp only[dx8,Prod.mk.injEq]at hb;obtain⟨rfl,rfl⟩:=hb;simp only[do1,do9,N4 he];unfold J4 at h;have B4:∀(ps:List (Nat×Value)) (cs cs':Array Value),Instr.fill (fun i=>((List.range n).map fun i=>(i*K1 P e,K1 P e))[i]?) cs ps=some cs' →
         Instr.fill (fun i=>some (i*K1 P e,K1 P e)) cs ps=some cs':=by
        intro ps
        induction ps with
        | nil=>intro cs cs' hh;exact hh
        | cons q ps ih=>
         intro cs cs' hh;obtain⟨qi,qv⟩:=q;unfold Instr.fill at hh ⊢;by_cases hq:qi<n
         ·have hq':((List.range n).map fun i=>(i*K1 P e,K1 P e))[qi]?=some (qi*K1 P e,K1 P e):=by simp[hq]
          rw[hq']at hh;simp only at hh ⊢;split at hh
          ·cases hh
          ·rename_i hc;rw[if_neg hc];exact ih _ _ hh
         ·rw[du3 (by simpa using hq)]at hh;cases hh
       cases hf:Instr.fill (fun i=>((List.range n).map fun i=>(i*K1 P e,K1 P e))[i]?) zv.cells parts with
       | none=>rw[hf]at h;cases h
       | some cells=>
        simp only[hf,dt2,dx8]at h;subst h;simp only[B4 _ _ _ hf];rfl
      ·cases hb
     all_goals simp[hu]at hb
theorem bz8{t:TypeId}{x v:Value}{lo hi:Option Value}(h:H8 P t x lo hi=some v)(w:World):(Instr.sliceAt t x lo hi none).run P w = .ok v w:=by
 unfold H8 at h;split at h
 ·rename_i l hh hlo hhi;have hlo':(∃k,lo=some (.int k l))∨lo=none∧l=0:=by
   split at hlo
   ·exact .inr ⟨rfl,(do2 hlo).symm⟩
   ·obtain rfl:=do2 hlo;exact .inl ⟨_,rfl⟩
   ·cases hlo
  split at h
  ·rename_i e he;split at h
   ·rename_i hc;simp only[do6,dq8]at hc;obtain⟨⟨⟨⟨hi1,hs⟩,h0⟩,h1⟩,h2⟩:=hc;obtain rfl:=do2 h;have hhi':(∃k,hi=some (.int k hh))∨hi=none∧hh=vlen x:=by
     split at hhi
     ·rw[hs,if_pos rfl]at hhi;exact .inr ⟨rfl,(do2 hhi).symm⟩
     ·obtain rfl:=do2 hhi;exact .inl ⟨_,rfl⟩
     ·cases hhi
    cases x
    case slice a n c=>
     simp only[vcap]at h2;simp only[vlen]at hhi';have hb:(Instr.sliceBounds true n c lo hi none).run P w = .ok (l.toNat,hh.toNat,c) w:=by
      rcases hlo' with⟨k,rfl⟩|⟨rfl,rfl⟩<;>rcases hhi' with⟨k',rfl⟩|⟨rfl,rfl⟩ <;>
       simp only[Instr.sliceBounds,Instr.sliceBound,asIntOf,do9,dq0,do1]
      ·rw[if_pos (by omega)];simp only[dq0,do1];rw[if_pos (by omega)];rfl
      ·rw[if_pos (by omega)];rfl
      ·rw[if_pos (by omega)];rfl
      ·rfl
     unfold Instr.sliceAt;simp only[do9,F3,L6 he,do1];unfold Instr.slice;simp only[do9,F3,L6 he,do1,hb,N4 hi1,dq0,reS]
    all_goals simp[isS]at hs
   ·cases h
  ·split at h
   ·rename_i s;split at h
    ·rename_i hc;simp only[do6,dq8]at hc;obtain⟨⟨⟨hs,h0⟩,h1⟩,h2⟩:=hc;obtain rfl:=do2 h;have hhi':(∃k,hi=some (.int k hh))∨hi=none∧hh=s.size:=by
      split at hhi
      ·simp only[isS,dt7,du7]at hhi;exact .inr ⟨rfl,(do2 hhi).symm⟩
      ·obtain rfl:=do2 hhi;exact .inl ⟨_,rfl⟩
      ·cases hhi
     have hb:(Instr.sliceBounds false s.size s.size lo hi none).run P w = .ok (l.toNat,hh.toNat,s.size) w:=by
      rcases hlo' with⟨k,rfl⟩|⟨rfl,rfl⟩<;>rcases hhi' with⟨k',rfl⟩|⟨rfl,rfl⟩ <;>
       simp only[Instr.sliceBounds,Instr.sliceBound,asIntOf,do9,dq0,do1]
      ·rw[if_pos (by omega)];simp only[dq0,do1];rw[if_pos (by omega)];rfl
      ·rw[if_pos (by omega)];rfl
      ·rw[if_pos (by omega)];rfl
      ·rfl
     unfold Instr.sliceAt;simp only[do9,F3,aG0 hs,do1];unfold Instr.slice;simp only[do9,F3,aG0 hs,do1,hb,dq0,Option.isSome_none,dt7,du7]
    ·cases h
   ·cases h
 ·cases h
theorem aD2{f:Fr}{o:Oper}{v:Value}(h:ar6 P f o.op=some v)(w:World):(execOp (ev f) o).run P w = .ok (.value v) w:=by
 have lift:∀{s:Sem Value},s.run P w = .ok v w→(do pure (.value (←s)):Sem Next).run P w = .ok (.value v) w:=fun hs=>by
  rw[do9,hs];rfl
 obtain⟨d,op,ty,pos,aft,gd⟩:=o;unfold ar6 at h;simp only at h;cases op<;>try simp only at h
 case move x=>obtain rfl:=do2 h;rfl
 case assign x=>obtain rfl:=do2 h;rfl
 case pick c a b=>
  split at h
  ·rename_i t ht;obtain rfl:=do2 h;simp only[execOp,ht,asBool,do9,dq0,do1]
  ·cases h
 case binOp op t x y t2=>exact lift (bL9 h w)
 case unOp op t x=>
  refine lift ?_;unfold unV at h;split at h
  ·rename_i b hb;split at h
   ·obtain rfl:=do2 h;simp[hb,Op.unary]
   ·cases h
  ·rename_i k n hb;split at h
   ·obtain rfl:=do2 h;simp[hb,Op.unary,Op.intArith]
   ·cases h
  ·cases h
 case fieldAddr s x i=>exact lift (bx2 h w)
 case field s x i=>exact lift (bN3 h w)
 case indexAddr t x i=>exact lift (bO8 h w)
 case index t x i=>exact lift (bx7 h w)
 case slice t x lo hi mx=>
  cases mx
  case none=>exact lift (bz8 h w)
  case some m=>cases h
 case extract x i=>
  refine lift ?_;split at h
  ·rename_i vs hv;unfold Instr.extract;simp only[hv,h];rfl
  ·cases h
 case nilCheck x=>
  split at h
  ·rename_i a ha;obtain rfl:=do2 h;simp only[execOp,ha,dq0]
  ·cases h
 case convert s d' x=>exact lift (bC6 h w)
 case makeFunc fn first cap=>obtain rfl:=do2 h;rfl
 case build t parts=>
  refine lift ?_;have:=bv8 h w;have e:(parts.toList.map fun p=>(p.1,ev f p.2)).toArray=parts.map fun p=>(p.1,ev f p.2):=by
   apply Array.ext';simp
  rw[e]at this;exact this
 case call c=>
  obtain⟨cal,args,tys⟩:=c;simp only at h;cases cal
  case builtin b=>
   cases b<;>try simp only at h
   case len=>
    split at h
    ·rename_i x t hx ht;have hx':args=#[x]:=by apply Array.ext';simpa using hx
     have ht':tys=#[t]:=by apply Array.ext';simpa using ht
     subst hx' ht';have:=bP2 (ty:=ty) h w;simp only[execOp,resolve,invoke,builtin,do9,dq0,do1];simp only[List.map_toArray,dr3,List.map_nil,this,do1]
    ·cases h
   case cap=>
    split at h
    ·rename_i x t hx ht;have hx':args=#[x]:=by apply Array.ext';simpa using hx
     have ht':tys=#[t]:=by apply Array.ext';simpa using ht
     subst hx' ht';have:=bM4 (ty:=ty) h w;simp only[execOp,resolve,invoke,builtin,do9,dq0,do1];simp only[List.map_toArray,dr3,List.map_nil,this,do1]
    ·cases h
   case min=>
    split at h
    ·rename_i x y hx;have hx':args=#[x,y]:=by apply Array.ext';simpa using hx
     subst hx';unfold cs8 at h;split at h
     ·rename_i k a k' b hx hy;obtain rfl:=do2 h;simp[execOp,resolve,invoke,builtin,Builtin.min_,Builtin.min2,hx,hy]
     ·cases h
    ·cases h
   case max=>
    split at h
    ·rename_i x y hx;have hx':args=#[x,y]:=by apply Array.ext';simpa using hx
     subst hx';unfold cs7 at h;split at h
     ·rename_i k a k' b hx hy;obtain rfl:=do2 h;simp[execOp,resolve,invoke,builtin,Builtin.max_,Builtin.max2,hx,hy]
     ·cases h
    ·cases h
   all_goals cases h
  all_goals cases h
 all_goals cases h
end
def dp8:=@Nat.zero_add
def ba3(f:Fr)(o:Oper):Option (Sem Value):=match o.op with
 | .load t a=>some (Instr.loadAt t (ev f a))
 | .buildSlice t n parts=>some (Instr.buildSlice t n (parts.map fun p=>(p.1,ev f p.2)))
 | .alloc e=>some (Instr.alloc e true (.tuple #[]))
 | .box e x=>some (Instr.box e (ev f x))
 | .makeSlice t l c=>some (Instr.makeSlice t (ev f l) (ev f c))
 | .binOp op t x y _=>some (do eqGuard op t x y (ev f x) (ev f y);binOp op t (ev f x) (ev f y))
 | .convert s d x=>some (convert s d (ev f x))
 | .makeMap t r=>some (Instr.makeMap t (r.map (ev f)))
 | .lookup t x i ok=>some (Instr.lookup t (ev f x) (ev f i) ok)
 | .makeInterface t x=>some (Instr.makeInterface t (ev f x))
 | .call c=>match c.callee with
   | .builtin .append=>some (Builtin.append_ c.argTypes o.type (c.args.map (ev f)))
   | .builtin .copy=>some (Builtin.copy_ c.argTypes o.type (c.args.map (ev f)))
   | .builtin .clear=>some (Builtin.clear_ c.argTypes o.type (c.args.map (ev f)))
   | .builtin .len=>some (Builtin.len_ c.argTypes o.type (c.args.map (ev f)))
   | .builtin .delete=>some (Builtin.delete_ c.argTypes o.type (c.args.map (ev f)))
   | _=>none
 | _=>none
def ac8(r:Result Value)(K:Fr→World→Prop)(f:Fr)(d:Option Nat):Prop:=match r with
 | .ok v w=>K (C5 f d v) w
 | _=>False
def aT6(r:Result Unit)(K:Fr→World→Prop)(f:Fr)(d:Option Nat):Prop:=match r with
 | .ok _ w=>K (C5 f d undef) w
 | _=>False
def I2(P:Program)(S:World→Prop)(s:Sem Value)(K:Fr→World→Prop)(f:Fr)(d:Option Nat)(w:World):Prop:=
 ∃v,(∀w',S w'→s.run P w' = .ok v w')∧K (C5 f d v) w
def F2(S:World→Prop)(K:Fr→World→Prop):Fr→World→Prop:=fun f w=>S w∧K f w
def bc6(P:Program)(S:Option (World→Prop))(fl:Bool)(s:Sem Value)(K:Fr→World→Prop)(f:Fr)(d:Option Nat)(w:World):Prop:=
 match S with
 | none=>ac8 (s.run P w) K f d
 | some S=>if fl then I2 P S s K f d w else ac8 (s.run P w) (F2 S K) f d
def aH3(S:Option (World→Prop))(K:Fr→World→Prop):Fr→World→Prop:=
 match S with
 | none=>K
 | some S=>F2 S K
def ah2(P:Program)(k:Nat):Bool:=match P.funcs[k]? with
 | some fn=>fn.name != "runtime.NumGoroutine" && fn.body.isSome
 | none=>false
def as7(P:Program)(k:Nat)(args:List Value)(w:World)(K:Fr→World→Prop)(f:Fr)(d:Option Nat):Prop:=
 (ah2 P k=true∧Calls P k args.toArray w fun e w'=>∃v,e = .returned v∧K (C5 f d v) w')∨∃v w',(callFunc k args.toArray).run P w = .ok (.value v) w'∧K (C5 f d v) w'
def Y1(P:Program)(S:Option (World→Prop))(o:Oper)(K:Fr→World→Prop)(f:Fr)(w:World):Prop:=
 match ba3 f o with
 | some s=>bc6 P S (flt o.op) s K f o.dst w
 | none=>match o.op with
   | .store t a x=>aT6 ((Instr.storeAt t (ev f a) (ev f x)).run P w) (aH3 S K) f o.dst
   | .mapUpdate t m k x=>aT6 ((Instr.mapUpdate t (ev f m) (ev f k) (ev f x)).run P w) (aH3 S K) f o.dst
   | .insert t m k x=>aT6 ((Instr.mapUpdate t (ev f m) (ev f k) (ev f x)).run P w) (aH3 S K) f o.dst
   | .call c=>match c.callee with
     | .value g=>match ev f g with
       | .func (.func k) first cap=>as7 P k (first.toList++c.args.toList.map (ev f)++cap.toList) w (aH3 S K) f o.dst
       | _=>False
     | _=>False
   | _=>match S with
     | none=>N5 P o K f w
     | some S=>if flt o.op then ∃v,bj9 P S o f v∧K (C5 f o.dst v) w else N5 P o (fun f' w'=>S w'∧K f' w') f w
def B2(P:Program)(S:Option (World→Prop))(o:Oper)(K:Fr→World→Prop)(f:Fr)(w:World):Prop:=
 match ar6 P f o.op with
 | some v=>K (C5 f o.dst v) w
 | none=>Y1 P S o K f w
def Rn(P:Program)(ops:Array Oper):List Oper→(Fr→World→Prop)→Fr→World→Prop
 | [],K,f,w=>K f w
 | o::l,K,f,w=>match o.guard with
   | none=>B2 P none o (Rn P ops l K) f w
   | some (j,b)=>if aG8 ops f j=some b then B2 P none o (Rn P ops l K) f w else Rn P ops l K (C5 f o.dst undef) w
def RnF(P:Program)(ops:Array Oper)(S:World→Prop):aA7→(Fr→World→Prop)→Fr→World→Prop
 | .nil,K,f,w=>K f w
 | .op i l,K,f,w=>
  match ops[i]? with
  | none=>False
  | some o=>match o.guard with
    | none=>B2 P (some S) o (RnF P ops S l K) f w
    | some (j,b)=>if aG8 ops f j=some b then B2 P (some S) o (RnF P ops S l K) f w else RnF P ops S l K (C5 f o.dst undef) w
 | .fork rs k,K,f,w=>∀i∈rs,
   match ops[i]? with
   | none=>False
   | some o=>match o.guard with
     | none=>B2 P (some S) o (RnF P ops S (k i) K) f w∧flt o.op=false
     | some (j,b)=>if aG8 ops f j=some b then B2 P (some S) o (RnF P ops S (k i) K) f w∧flt o.op=false else RnF P ops S (k i) K (C5 f o.dst undef) w
section
variable {P:Program}
theorem cd0{k:Nat}{args:List Value}{w:World}{K:Fr→World→Prop}{f:Fr}{d:Option Nat}(h:as7 P k args w K f d):
  match(callFunc k args.toArray).run P w with
  | .ok (.value v) w'=>K (C5 f d v) w'
  | .ok (.enter g asz) w'=>Calls P g asz w' fun e w''=>∃v,e = .returned v∧K (C5 f d v) w''
  | _=>False:=by
 rcases h with⟨hb,h⟩|⟨v,w',hr,h⟩
 ·unfold ah2 at hb;cases hf:P.funcs[k]? with
  | none=>simp[hf]at hb
  | some fn=>
   simp only[hf,do6,bne_iff_ne,ne_eq]at hb;obtain⟨hn,hbd⟩:=hb;have hbn:fn.body.isNone=false:=by cases hx:fn.body<;>simp[hx]at hbd ⊢
   have hne:(fn.name == "runtime.NumGoroutine")=false:=by simpa using hn
   simp only[callFunc,program,do9,Sem.run,do1,hf,hne,hbn,dt7,du7];exact h
 ·rw[hr];exact h
theorem bo6{d:Option Nat}{g:Operand}{args:Array Operand}{tys:Array TypeId}{ty:TypeId}{pos:String}{aft:Array Edge}{gd:Option (Nat×Bool)}{K:Fr→World→Prop}{f:Fr}{w:World}
  (h:match ev f g with
    | .func (.func k) first cap=>as7 P k (first.toList++args.toList.map (ev f)++cap.toList) w K f d
    | _=>False):N5 P ⟨d,.call ⟨.value g,args,tys⟩,ty,pos,aft,gd⟩ K f w:=by
 cases hg:ev f g
 case func fn first cap=>
  cases fn
  case func k=>
   simp only[hg]at h;have h2:=cd0 h;unfold N5;have e:(execOp (ev f) ⟨d,.call ⟨.value g,args,tys⟩,ty,pos,aft,gd⟩).run P w=(callFunc k (first.toList++args.toList.map (ev f)++cap.toList).toArray).run P w:=by
    simp only[execOp,resolve,hg,Deferred.ofValue,invoke,do9,dq0,do1]
    congr 2
    apply Array.ext';simp
   rw[e];generalize(callFunc k (first.toList++args.toList.map (ev f)++cap.toList).toArray).run P w=r at *;cases r with
   | halt x w'=>exact h2
   | ok n w'=>
    cases n
    case value v=>exact h2
    case enter g asz=>exact h2
    all_goals exact h2.elim
  all_goals (simp only[hg]at h)
 all_goals (simp only[hg]at h)
theorem an6{o:Oper}{s:Sem Unit}{K:Fr→World→Prop}{f:Fr}{w:World}(he:execOp (ev f) o=(do s;pure .skip:Sem Next))(h:aT6 (s.run P w) K f o.dst):N5 P o K f w:=by
 unfold N5;rw[he,do9];unfold aT6 at h;cases hr:s.run P w with
 | ok u w'=>rw[hr]at h;exact h
 | halt x w'=>rw[hr]at h;exact h.elim
theorem aa6{o:Oper}{s:Sem Value}{K:Fr→World→Prop}{f:Fr}{w:World}(he:execOp (ev f) o=(do pure (.value (←s)):Sem Next))(h:ac8 (s.run P w) K f o.dst):N5 P o K f w:=by
 unfold N5;rw[he,do9];unfold ac8 at h;cases hr:s.run P w with
 | ok u w'=>rw[hr]at h;exact h
 | halt x w'=>rw[hr]at h;exact h.elim
theorem aP6{o:Oper}{K:Fr→World→Prop}{f:Fr}{w:World}(h:B2 P none o K f w):N5 P o K f w:=by
 unfold B2 at h;cases hp:ar6 P f o.op with
 | some v=>
  simp only[hp]at h;unfold N5;rw[aD2 hp];exact h
 | none=>
  simp only[hp]at h;obtain⟨d,op,ty,pos,aft,gd⟩:=o;unfold Y1 ba3 at h;cases op
  case call c=>
   obtain⟨cal,args,tys⟩:=c;cases cal
   case builtin b=>
    cases b
    case append=>exact aa6 rfl h
    case copy=>exact aa6 rfl h
    case clear=>exact aa6 rfl h
    case len=>exact aa6 rfl h
    case delete=>exact aa6 rfl h
    all_goals exact h.elim
   case value g=>exact bo6 h
   case invoke r m=>exact h.elim
  case store t a x=>exact an6 rfl h
  case mapUpdate t m k x=>exact an6 rfl h
  case insert t m k x=>exact an6 rfl h
  all_goals first
   | exact aa6 rfl h
   | exact h
theorem aP5{S:World→Prop}{o:Oper}{K:Fr→World→Prop}{f:Fr}{w:World}(h:B2 P (some S) o K f w)(hS:S w):
  if flt o.op then ∃v,bj9 P S o f v∧K (C5 f o.dst v) w else N5 P o (fun f' w'=>S w'∧K f' w') f w:=by
 unfold B2 at h;cases hp:ar6 P f o.op with
 | some v=>
  simp only[hp]at h;split
  ·exact⟨v,fun w' _=>aD2 hp w',h⟩
  ·unfold N5;rw[aD2 hp];exact⟨hS,h⟩
 | none=>
  simp only[hp]at h;obtain⟨d,op,ty,pos,aft,gd⟩:=o;have lift:∀{s:Sem Value},(execOp (ev f) ⟨d,op,ty,pos,aft,gd⟩)=(do pure (.value (←s)):Sem Next)→bc6 P (some S) (flt op) s K f d w →
    if flt op then ∃v,bj9 P S ⟨d,op,ty,pos,aft,gd⟩ f v∧K (C5 f d v) w else N5 P ⟨d,op,ty,pos,aft,gd⟩ (fun f' w'=>S w'∧K f' w') f w:=by
   intro s he hs;unfold bc6 at hs;cases hfl:flt op with
   | true=>
    simp only[hfl,ds9]at hs;obtain⟨v,hr,hk⟩:=hs;rw[if_pos rfl];refine⟨v,fun w' hw'=>?_,hk⟩;rw[he,do9,hr w' hw'];rfl
   | false=>
    simp only[hfl,dt7,du7]at hs;rw[if_neg (by simp)];exact aa6 he hs
  unfold Y1 ba3 at h;cases op
  case call c=>
   obtain⟨cal,args,tys⟩:=c;cases cal
   case builtin b=>
    cases b
    case append=>exact lift rfl h
    case copy=>exact lift rfl h
    case clear=>exact lift rfl h
    case len=>exact lift rfl h
    case delete=>exact lift rfl h
    all_goals exact h.elim
   case value g=>exact bo6 (K:=F2 S K) h
   case invoke r m=>exact h.elim
  case store t a x=>exact an6 (K:=F2 S K) rfl h
  case mapUpdate t m k x=>exact an6 (K:=F2 S K) rfl h
  case insert t m k x=>exact an6 (K:=F2 S K) rfl h
  all_goals first
   | exact lift rfl h
   | exact h
theorem as9{ops:Array Oper}{K:Fr→World→Prop}:∀(l:List Oper) (f:Fr) (w:World),Rn P ops l K f w→Run P ops l K f w
 | [],f,w,h=>h
 | o::l,f,w,h=>by
  unfold Rn at h;unfold Run Region.wanted;cases hg:o.guard with
  | none=>
   simp only[hg]at h;simp only[ds9];exact ag1 (as9 l) (aP6 h)
  | some jb=>
   obtain⟨j,b⟩:=jb;simp only[hg]at h;simp only[beq_iff_eq];split
   ·rename_i hc;rw[if_pos hc]at h;exact ag1 (as9 l) (aP6 h)
   ·rename_i hc;rw[if_neg hc]at h;exact as9 l _ _ h
theorem am4{ops:Array Oper}{S:World→Prop}{K K':Fr→World→Prop}(hk:∀f w,K f w→K' f w):∀(l:aA7) (f:Fr) (w:World),aq7 P ops S l K f w→aq7 P ops S l K' f w
 | .nil,f,w,h=>hk _ _ h
 | .op i l,f,w,h=>by
  unfold aq7 at *;cases ho:ops[i]? with
  | none=>simp[ho]at h
  | some o=>
   simp only[ho]at h ⊢;split
   ·rename_i hw;rw[if_pos hw]at h;split
    ·rename_i hf;rw[if_pos hf]at h;obtain⟨v,h1,h2⟩:=h;exact⟨v,h1,am4 hk l _ _ h2⟩
    ·rename_i hf;rw[if_neg hf]at h;exact ag1 (fun f w hh=>⟨hh.1,am4 hk l _ _ hh.2⟩) h
   ·rename_i hw;rw[if_neg hw]at h;exact am4 hk l _ _ h
 | .fork rs k,f,w,h=>by
  unfold aq7 at *;intro i hi;have h:=h i hi;cases ho:ops[i]? with
  | none=>simp[ho]at h
  | some o=>
   simp only[ho]at h ⊢;split
   ·rename_i hw;rw[if_pos hw]at h;exact ag1 (fun f w hh=>⟨hh.1,am4 hk (k i) _ _ hh.2⟩) h
   ·rename_i hw;rw[if_neg hw]at h;exact am4 hk (k i) _ _ h
theorem aa9{ops:Array Oper}{S:World→Prop}{K:Fr→World→Prop}:∀(l:aA7) (f:Fr) (w:World),S w→RnF P ops S l K f w→aq7 P ops S l K f w
 | .nil,f,w,_,h=>h
 | .op i l,f,w,hS,h=>by
  unfold RnF at h;unfold aq7 Region.wanted;cases ho:ops[i]? with
  | none=>simp[ho]at h
  | some o=>
   simp only[ho]at h ⊢;have main:B2 P (some S) o (RnF P ops S l K) f w→(if flt o.op then ∃v,bj9 P S o f v∧aq7 P ops S l K (C5 f o.dst v) w else N5 P o (fun f' w'=>S w'∧aq7 P ops S l K f' w') f w):=by
    intro h1;have h2:=aP5 h1 hS;split
    ·rename_i hf;rw[if_pos hf]at h2;obtain⟨v,h3,h4⟩:=h2;exact⟨v,h3,aa9 l _ _ hS h4⟩
    ·rename_i hf;rw[if_neg hf]at h2;exact ag1 (fun f w hh=>⟨hh.1,aa9 l _ _ hh.1 hh.2⟩) h2
   cases hg:o.guard with
   | none=>
    simp only[hg]at h;simp only[ds9];exact main h
   | some jb=>
    obtain⟨j,b⟩:=jb;simp only[hg]at h;simp only[beq_iff_eq];split
    ·rename_i hc;rw[if_pos hc]at h;exact main h
    ·rename_i hc;rw[if_neg hc]at h;exact aa9 l _ _ hS h
 | .fork rs k,f,w,hS,h=>by
  unfold RnF at h;unfold aq7 Region.wanted;intro i hi;have h:=h i hi;cases ho:ops[i]? with
  | none=>simp[ho]at h
  | some o=>
   simp only[ho]at h ⊢;have main:B2 P (some S) o (RnF P ops S (k i) K) f w∧flt o.op=false→N5 P o (fun f' w'=>S w'∧aq7 P ops S (k i) K f' w') f w:=by
    rintro⟨h1,hf⟩;have h2:=aP5 h1 hS;rw[if_neg (by simp[hf])]at h2;exact ag1 (fun f w hh=>⟨hh.1,aa9 (k i) _ _ hh.1 hh.2⟩) h2
   cases hg:o.guard with
   | none=>
    simp only[hg]at h;simp only[ds9];exact main h
   | some jb=>
    obtain⟨j,b⟩:=jb;simp only[hg]at h;simp only[beq_iff_eq];split
    ·rename_i hc;rw[if_pos hc]at h;exact main h
    ·rename_i hc;rw[if_neg hc]at h;exact aa9 (k i) _ _ hS h
end
def ab9(K:Fr→World→Prop)(Q:Exit→Fr→World→Prop):Exit→Fr→World→Prop
 | .normal,f,w=>K f w
 | e,f,w=>Q e f w
def X8(id:Nat)(Q:Exit→Fr→World→Prop):Exit→Fr→World→Prop
 | .exit id',f,w=>if id'=id then Q .normal f w else Q (.exit id') f w
 | e,f,w=>Q e f w
def aH1(v:Value)(A B:Fr→World→Prop)(f:Fr)(w:World):Prop:=
 match v with
 | .bool true=>A f w
 | .bool false=>B f w
 | _=>False
def bU1(B:(Exit→Fr→World→Prop)→Fr→World→Prop)(Q:Exit→Fr→World→Prop)(f:Fr)(w:World):Prop:=
 ∃(σ:Type) (I:σ→Fr→World→Prop) (m:σ→Nat) (s0:σ),I s0 f w ∧
  ∀s f' w',I s f' w'→B (ab9 (fun f'' w''=>∃s',m s'<m s∧I s' f'' w'') Q) f' w'
def ck8(P:Program)(ops:Array Oper)(K:Fr→World→Prop)(f:Fr)(w:World):Prop:=
 ∃(S:World→Prop) (n:Nat) (ord:aA7),bI0 ops n ord=true∧S w.drew∧RnF P ops S ord (Rn P ops (ops.toList.drop n) K) f w.drew
def CW(P:Program):Code→(Exit→Fr→World→Prop)→Fr→World→Prop
 | .skip,Q,f,w=>Q .normal f w
 | .seq a b,Q,f,w=>CW P a (ab9 (CW P b Q) Q) f w
 | .cond c a b,Q,f,w=>aH1 (ev f c) (CW P a Q) (CW P b Q) f w
 | .block id a,Q,f,w=>CW P a (X8 id Q) f w
 | .loop a,Q,f,w=>bU1 (CW P a) Q f w
 | .region _ ops d,Q,f,w=>if d then ck8 P ops (Q .normal) f w else Rn P ops ops.toList (Q .normal) f w
 | .exit id,Q,f,w=>Q (.exit id) f w
 | .label _,Q,f,w=>Q .normal f w
 | .ret,Q,f,w=>Q .ret f w
 | _,_,_,_=>False
def ao5(N:Nat):Code→Bool
 | .seq a b=>ao5 N a&&ao5 N b
 | .cond _ a b=>ao5 N a&&ao5 N b
 | .block _ a=>ao5 N a
 | .loop a=>ao5 N a
 | .region _ ops _=>co9 N ops
 | _=>true
def co4(Q:Exit→Fr→World→Prop):Prop:=∀c f w,¬Q (.panic c) f w
theorem bo8{K:Fr→World→Prop}{Q:Exit→Fr→World→Prop}(h:co4 Q):co4 (ab9 K Q):=fun c f w=>h c f w
theorem bM3{id:Nat}{Q:Exit→Fr→World→Prop}(h:co4 Q):co4 (X8 id Q):=fun c f w=>h c f w
theorem bT8{P:Program}{Q:Exit→Act→World→Prop}{a:Act}{w:World}{c:Code}{σ:Type}(I:σ→Act→World→Prop)(m:σ→Nat)(s0:σ)(h₀:I s0 a w)
  (round:∀s a w,I s a w→c.wp P (Exit.then (fun a' w'=>∃s',m s'<m s∧I s' a' w') Q) a w):(Code.loop c).wp P Q a w:=by
 intro b k cs;have key:∀n s a w,m s=n→I s a w →
   ∃e a' w',Q e a' w'∧Arrives P (lone (b.at a (.code c :: .inLoop c::k)) cs w) b k cs e a' w':=by
  intro n
  induction n using Nat.strongRecOn with
  | _ n ih=>
   intro s a w hn hI;obtain⟨e,a₁,w₁,hq,harr⟩:=round s a w hI b (.inLoop c::k) cs;cases e with
   | normal=>
    obtain⟨s',hlt,hI₁⟩:=hq;obtain⟨e₂,a₂,w₂,hq₂,harr₂⟩:=ih (m s') (hn ▸ hlt) s' a₁ w₁ rfl hI₁;exact⟨e₂,a₂,w₂,hq₂,.of_steps (Steps.trans harr (.one step_inLoop)) harr₂⟩
   | exit id=>exact⟨_,a₁,w₁,hq,.pass (x:=.inLoop c) rfl (fun _ _=>.inl (by simp)) harr⟩
   | goto l=>exact⟨_,a₁,w₁,hq,.pass (x:=.inLoop c) rfl (fun _ _=>.inl (by simp)) harr⟩
   | ret=>exact⟨_,a₁,w₁,hq,.pass (x:=.inLoop c) rfl (fun _ _=>.inl (by simp)) harr⟩
   | panic ch=>exact⟨_,a₁,w₁,hq,.pass (x:=.inLoop c) rfl (fun _ _=>.inl (by simp)) harr⟩
   | outgrown=>exact⟨_,a₁,w₁,hq,.pass (x:=.inLoop c) rfl (fun _ _=>.inl (by simp)) harr⟩
 obtain⟨e,a',w',hq,harr⟩:=key _ s0 a w rfl h₀;exact⟨e,a',w',hq,.of_steps (.one step_loop) harr⟩
theorem ck5{P:Program}{N:Nat}(hm:P.follows .mixedOrders=true):∀(c:Code) (Q:Exit→Fr→World→Prop) (a:Act) (w:World),co4 Q→ao5 N c=true →
  a.tmps.size=N→a.defers=[]→CW P c Q (aa0 a) w→c.wp P (lft N Q) a w:=by
 intro c
 induction c with
 | skip=>intro Q a w _ _ hn hd h;exact wp_skip ⟨hn,hd,h⟩
 | seq x y ihx ihy=>
  intro Q a w hQ hok hn hd h;simp only[ao5,do6]at hok;refine wp_seq (wp_mono (ihx _ a w (bo8 hQ) hok.1 hn hd h) ?_);intro e a' w' hq;cases e
  case normal=>exact ihy _ a' w' hQ hok.2 hq.1 hq.2.1 hq.2.2
  all_goals exact hq
 | cond v x y ihx ihy=>
  intro Q a w hQ hok hn hd h;simp only[ao5,do6]at hok;simp only[CW]at h;unfold aH1 at h;have he:a.eval v=ev (aa0 a) v:=by rw[bx0]
  generalize hv:ev (aa0 a) v=u at h;cases u
  case bool t=>
   cases t
   case true=>exact wp_cond_true (by rw[he,hv]) (ihx _ a w hQ hok.1 hn hd h)
   case false=>exact wp_cond_false (by rw[he,hv]) (ihy _ a w hQ hok.2 hn hd h)
  all_goals exact h.elim
 | block id x ih=>
  intro Q a w hQ hok hn hd h;refine wp_block (wp_mono (ih _ a w (bM3 hQ) hok hn hd h) ?_);intro e a' w' hq;cases e
  case exit id'=>
   simp only[Exit.inBlock];simp only[lft,X8]at hq;split
   ·rename_i hid;rw[if_pos hid]at hq;exact hq
   ·rename_i hid;rw[if_neg hid]at hq;exact hq
  all_goals exact hq
 | loop x ih=>
  intro Q a w hQ hok hn hd h;obtain⟨σ,I,m,s0,h0,hr⟩:=h;refine bT8 (fun s a w=>a.tmps.size=N∧a.defers=[]∧I s (aa0 a) w) m s0 ⟨hn,hd,h0⟩ ?_;rintro s a' w' ⟨hn',hd',hI⟩;refine wp_mono (ih _ a' w' (bo8 hQ) hok hn' hd' (hr s _ w' hI)) ?_;intro e a'' w'' hq;cases e
  case normal=>
   obtain⟨h1,h2,s',h3,h4⟩:=hq;exact⟨s',h3,h1,h2,h4⟩
  all_goals exact hq
 | region id ops d=>
  intro Q a w hQ hok hn hd h;cases d
  case false=>
   simp only[CW,dt7,du7]at h;exact wp_region_list (as5 _ a w (fun o ho=>Array.all_eq_true'.1 hok o (by simpa using ho)) hn hd (as9 _ _ _ h))
  case true=>
   simp only[CW,ds9]at h;obtain⟨S,n,ord,h1,h3,h4⟩:=h;exact bl6 hm hQ h1 hok hn hd h3 (am4 (fun f w hh=>as9 _ f w hh) _ _ _ (aa9 _ _ _ h3 h4))
 | exit id=>intro Q a w _ _ hn hd h;exact wp_exit ⟨hn,hd,h⟩
 | label l=>intro Q a w _ _ hn hd h;exact wp_label ⟨hn,hd,h⟩
 | ret=>intro Q a w _ _ hn hd h;exact wp_ret ⟨hn,hd,h⟩
 | _=>intro Q a w _ _ _ _ h;exact h.elim
def cM6(args:List Value):Fr:=fun i=>args.getD i undef
def bB7:Nat→List Value→Fr
 | _,[]=>fun _=>undef
 | k,v::vs=>p6 (bB7 (k+1) vs) k v
theorem bU6:∀(vs:List Value) (k i:Nat),bB7 k vs (k+i)=vs.getD i undef
 | [],_,_=>by simp[bB7]
 | v::vs,k,0=>by simp[bB7,p6]
 | v::vs,k,i+1=>by
  have:=bU6 vs (k+1) i;simp only[bB7,p6];rw[if_neg (by omega),show k+(i+1)=k+1+i by omega,this];simp
theorem cM7(args:List Value):cM6 args=bB7 0 args:=by
 funext i
 have:=bU6 args 0 i;simp only[dp8]at this;rw[this];rfl
def bQ7(P:Program)(w:World)(f:Fr):ResultVar→Value→Prop
 | .tmp t,v=>v=f t
 | .cell a ty,v=>(do loadVar ty (←asAddr (f a)):Sem Value).run P w = .ok v w
def bh6(P:Program)(w:World)(f:Fr):List ResultVar→List Value→Prop
 | [],[]=>True
 | r::rs,v::vs=>bQ7 P w f r v∧bh6 P w f rs vs
 | _,_=>False
def aU7:List Value→Value
 | [v]=>v
 | vs=>.tuple vs.toArray
def aI5(P:Program)(fn:Func)(R:Value→World→Prop):Exit→Fr→World→Prop
 | .normal,f,w=>∃vs,bh6 P w f fn.results.toList vs∧R (aU7 vs) w
 | .ret,f,w=>∃vs,bh6 P w f fn.results.toList vs∧R (aU7 vs) w
 | _,_,_=>False
theorem bh7{P:Program}{w:World}{a:Act}:∀(rs:List ResultVar) (vs:List Value),bh6 P w (aa0 a) rs vs →
  (rs.mapM (m:=Sem) fun
   | .tmp t=>pure (a.tmps.getD t undef)
   | .cell x t=>do loadVar t (←asAddr (a.tmps.getD x undef))).run P w = .ok vs w
 | [],[],_=>by simp
 | [],_::_,h=>h.elim
 | _::_,[],h=>h.elim
 | r::rs,v::vs,h=>by
  have ih:=bh7 rs vs h.2;have h1:=h.1;cases r with
  | tmp t=>
   simp only[bQ7,aa0]at h1;subst h1;simp only[List.mapM_cons,do9,dq0,do1,ih]
  | cell x t=>
   simp only[bQ7,aa0]at h1;simp only[List.mapM_cons];rw[do9,h1];simp only[do9,dq0,do1,ih]
theorem aY7{P:Program}{fn:Func}{w:World}{a:Act}{vs:List Value}(h:bh6 P w (aa0 a) fn.results.toList vs):
  (results fn a.tmps).run P w = .ok (aU7 vs) w:=by
 have h1:=bh7 _ _ h;unfold results;rw[Array.mapM_eq_mapM_toList];simp only[do9,Sem.run_map]
 erw [h1]
 simp only[do1,dq0]
 congr 1
 match vs with
 | []=>simp[aU7]
 | [v]=>simp[aU7]
 | v::u::vs=>simp[aU7]
theorem aW2{P:Program}{k:FuncId}{fn:Func}{c:Code}{args:List Value}{w:World}{R:Value→World→Prop}(hm:P.follows .mixedOrders=true)
  (hf:P.funcs[k]?=some fn) (hb:fn.body=some c) (hok:ao5 fn.ntmps c=true) (hargs:args.length≤fn.ntmps)
  (h:CW P c (aI5 P fn R) (bB7 0 args) w):Calls P k args.toArray w (fun e w'=>∃v,e = .returned v∧R v w'):=by
 rw[←cM7]at h;refine calls_of_wp hf hb ?_;have hfr:aa0 {tmps:=args.toArray++Array.replicate (fn.ntmps-args.toArray.size) undef,defers:=[]}=cM6 args:=by
  funext i
  simp only[aa0,cM6,Array.getD_eq_getD_getElem?,List.getD_eq_getElem?_getD];by_cases hi:i<args.length
  ·rw[Array.getElem?_append_left (by simpa using hi)];simp
  ·rw[Array.getElem?_append_right (by simp;omega)];rw[du3 (by omega)];by_cases h2:i-args.length<fn.ntmps-args.length
   ·simp[h2]
   ·simp[h2]
 have:=ck5 (N:=fn.ntmps) hm c (aI5 P fn R) {tmps:=args.toArray++Array.replicate (fn.ntmps-args.toArray.size) undef,defers:=[]} w
  (fun c f w hh=>hh) hok (by simp;omega) rfl (by rw[hfr];exact h)
 refine wp_mono this ?_;intro e a' w' hq;cases e
 case normal=>
  obtain⟨_,hd,vs,hv,hR⟩:=hq;exact⟨hd,_,aY7 hv,_,rfl,hR⟩
 case ret=>
  obtain⟨_,hd,vs,hv,hR⟩:=hq;exact⟨hd,_,aY7 hv,_,rfl,hR⟩
 all_goals exact hq.2.2.elim
abbrev p7(P:Program)(k:FuncId)(args:Array Value)(w:World)(Q:Value→World→Prop):Prop:=Calls P k args w fun e w'=>∃v,e = .returned v∧Q v w'
theorem p8{P:Program}{k:FuncId}{fn:Func}{c:Code}{w:World}{R:Value→World→Prop}(args:List Value)(hf:P.funcs[k]?=some fn)(hb:fn.body=some c)(h:CW P c (aI5 P fn R) (bB7 0 args) w)
  (hok:ao5 fn.ntmps c=true:=by kernel_rfl) (hl:Nat.ble args.length fn.ntmps=true:=by kernel_rfl) (hm:P.follows .mixedOrders=true:=by kernel_rfl):p7 P k args.toArray w R:=
 aW2 hm hf hb hok (Nat.le_of_ble_eq_true hl) h
theorem o6{P:Program}{fn:Func}{R:Value→World→Prop}{f:Fr}{w:World}{t:Nat}(h:fn.results=#[.tmp t])(hR:R (f t) w):aI5 P fn R .ret f w:=
 ⟨[f t],by rw[h];exact⟨rfl,trivial⟩,hR⟩
theorem ae2{P:Program}{fn:Func}{R:Value→World→Prop}{f:Fr}{w:World}{t u:Nat}(h:fn.results=#[.tmp t,.tmp u])(hR:R (.tuple #[f t,f u]) w):aI5 P fn R .ret f w:=
 ⟨[f t,f u],by rw[h];exact⟨rfl,rfl,trivial⟩,hR⟩
theorem cv7{P:Program}{fn:Func}{R:Value→World→Prop}{f:Fr}{w:World}(h:fn.results=#[])(hR:R (.tuple #[]) w):aI5 P fn R .normal f w:=
 ⟨[],by rw[h];exact trivial,hR⟩
section
variable {P:Program} {Q:Exit→Fr→World→Prop} {f:Fr} {w:World} {K:Fr→World→Prop} {ops:Array Oper} {l:List Oper}
theorem dd0:CW P .skip Q f w=Q .normal f w:=rfl
theorem bc2{a b:Code}:CW P (.seq a b) Q f w=CW P a (ab9 (CW P b Q) Q) f w:=rfl
theorem dc3{c:Operand}{a b:Code}:CW P (.cond c a b) Q f w=aH1 (ev f c) (CW P a Q) (CW P b Q) f w:=rfl
theorem cS8{id:Nat}{a:Code}:CW P (.block id a) Q f w=CW P a (X8 id Q) f w:=rfl
theorem dc6{a:Code}:CW P (.loop a) Q f w=bU1 (CW P a) Q f w:=rfl
theorem dg3{id:Nat}:CW P (.region id ops false) Q f w=Rn P ops ops.toList (Q .normal) f w:=rfl
theorem dc4{id:Nat}:CW P (.region id ops true) Q f w=ck8 P ops (Q .normal) f w:=rfl
theorem dc5{id:Nat}:CW P (.exit id) Q f w=Q (.exit id) f w:=rfl
theorem dg4:CW P .ret Q f w=Q .ret f w:=rfl
theorem dg0:ab9 K Q .normal f w=K f w:=rfl
theorem cZ8:ab9 K Q .normal=K:=rfl
theorem dg1:ab9 K Q .ret f w=Q .ret f w:=rfl
theorem dg2{i:Nat}:ab9 K Q (.exit i) f w=Q (.exit i) f w:=rfl
theorem cT9{i:Nat}:X8 i Q .normal f w=Q .normal f w:=rfl
theorem cR4{i:Nat}:X8 i Q .normal=Q .normal:=rfl
theorem cU0{i:Nat}:X8 i Q .ret f w=Q .ret f w:=rfl
theorem cU1{i j:Nat}:X8 i Q (.exit j) f w=if j=i then Q .normal f w else Q (.exit j) f w:=rfl
theorem de7{A B:Fr→World→Prop}:aH1 (.bool true) A B f w=A f w:=rfl
theorem de6{A B:Fr→World→Prop}:aH1 (.bool false) A B f w=B f w:=rfl
theorem m8{A B:Fr→World→Prop}{b:Bool}(h1:b=true→A f w)(h2:b=false→B f w):aH1 (.bool b) A B f w:=by
 cases b
 ·exact h2 rfl
 ·exact h1 rfl
theorem dg7:Rn P ops [] K f w=K f w:=rfl
theorem dk2{d:Option Nat}{op:Op}{ty:TypeId}{pos:String}{aft:Array Edge}:
  Rn P ops (⟨d,op,ty,pos,aft,none⟩::l) K f w=B2 P none ⟨d,op,ty,pos,aft,none⟩ (Rn P ops l K) f w:=rfl
theorem dk8{d:Option Nat}{op:Op}{ty:TypeId}{pos:String}{aft:Array Edge}{j:Nat}{b:Bool}:
  Rn P ops (⟨d,op,ty,pos,aft,some (j,b)⟩::l) K f w =
   if aG8 ops f j=some b then B2 P none ⟨d,op,ty,pos,aft,none⟩ (Rn P ops l K) f w else Rn P ops l K (C5 f d undef) w:=rfl
theorem cS6{S:Option (World→Prop)}{d:Option Nat}{op:Op}{ty:TypeId}{pos:String}{aft:Array Edge}{g:Nat×Bool}:
  B2 P S ⟨d,op,ty,pos,aft,some g⟩ K f w=B2 P S ⟨d,op,ty,pos,aft,none⟩ K f w:=rfl
def cq3(ops:Array Oper)(j:Nat):Option Nat:=(ops[j]?).bind (·.dst)
theorem cS1{j:Nat}:aG8 ops f j=match cq3 ops j with|some d=>(match f d with | .bool b=>some b|_=>none)|none=>none:=rfl
section
variable {S:World→Prop} {n i:Nat} {r:aA7}
theorem dd1:RnF P ops S .nil K f w=K f w:=rfl
theorem dg5:RnF P ops S (.op i r) K f w =
  match ops[i]? with
  | none=>False
  | some o=>match o.guard with
    | none=>B2 P (some S) o (RnF P ops S r K) f w
    | some (j,b)=>if aG8 ops f j=some b then B2 P (some S) o (RnF P ops S r K) f w else RnF P ops S r K (C5 f o.dst undef) w:=rfl
end
section
variable {S:Option (World→Prop)} {d:Option Nat} {ty:TypeId} {pos:String} {aft:Array Edge}
theorem df6{x:Operand}:B2 P S ⟨d,.move x,ty,pos,aft,none⟩ K f w=K (C5 f d (ev f x)) w:=rfl
theorem cS7{x:Operand}:B2 P S ⟨d,.assign x,ty,pos,aft,none⟩ K f w=K (C5 f d (ev f x)) w:=rfl
def ax0(v:Option Value)(K:Fr→World→Prop)(f:Fr)(d:Option Nat)(w:World)(D:Prop):Prop:=match v with
 | some v=>K (C5 f d v) w
 | none=>D
theorem di6{v:Value}{D:Prop}:ax0 (some v) K f d w D=K (C5 f d v) w:=rfl
theorem df8{v:Value}:ac8 (.ok v w) K f d=K (C5 f d v) w:=rfl
theorem df9{v:Unit}:aT6 (.ok v w) K f d=K (C5 f d undef) w:=rfl
theorem df7{c a b:Operand}:B2 P S ⟨d,.pick c a b,ty,pos,aft,none⟩ K f w =
  ax0 (match ev f c with | .bool t=>some (if t then ev f a else ev f b)|_=>none) K f d w (Y1 P S ⟨d,.pick c a b,ty,pos,aft,none⟩ K f w):=rfl
theorem di7{op:BinOp}{t t2:TypeId}{x y:Operand}:B2 P S ⟨d,.binOp op t x y t2,ty,pos,aft,none⟩ K f w =
  ax0 (B5 P op t (ev f x) (ev f y)) K f d w (Y1 P S ⟨d,.binOp op t x y t2,ty,pos,aft,none⟩ K f w):=rfl
theorem dk7{op:UnOp}{t:TypeId}{x:Operand}:B2 P S ⟨d,.unOp op t x,ty,pos,aft,none⟩ K f w =
  ax0 (unV op (ev f x)) K f d w (Y1 P S ⟨d,.unOp op t x,ty,pos,aft,none⟩ K f w):=rfl
theorem cF8{s:TypeId}{x:Operand}{i:Nat}:B2 P S ⟨d,.fieldAddr s x i,ty,pos,aft,none⟩ K f w =
  ax0 (bx1 P s i (ev f x)) K f d w (Y1 P S ⟨d,.fieldAddr s x i,ty,pos,aft,none⟩ K f w):=rfl
theorem cX8{s:TypeId}{x:Operand}{i:Nat}:B2 P S ⟨d,.field s x i,ty,pos,aft,none⟩ K f w =
  ax0 (aJ5 P s i (ev f x)) K f d w (Y1 P S ⟨d,.field s x i,ty,pos,aft,none⟩ K f w):=rfl
theorem cF9{t:TypeId}{x i:Operand}:B2 P S ⟨d,.indexAddr t x i,ty,pos,aft,none⟩ K f w =
  ax0 (z6 P t (ev f x) (ev f i)) K f d w (Y1 P S ⟨d,.indexAddr t x i,ty,pos,aft,none⟩ K f w):=rfl
theorem cX9{t:TypeId}{x i:Operand}:B2 P S ⟨d,.index t x i,ty,pos,aft,none⟩ K f w =
  ax0 (U4 P t (ev f x) (ev f i)) K f d w (Y1 P S ⟨d,.index t x i,ty,pos,aft,none⟩ K f w):=rfl
theorem cY0{t:TypeId}{x:Operand}{lo hi:Option Operand}:B2 P S ⟨d,.slice t x lo hi none,ty,pos,aft,none⟩ K f w =
  ax0 (H8 P t (ev f x) (lo.map (ev f)) (hi.map (ev f))) K f d w (Y1 P S ⟨d,.slice t x lo hi none,ty,pos,aft,none⟩ K f w):=rfl
theorem cP3{x:Operand}{i:Nat}:B2 P S ⟨d,.extract x i,ty,pos,aft,none⟩ K f w =
  ax0 (match ev f x with | .tuple vs=>vs[i]?|_=>none) K f d w (Y1 P S ⟨d,.extract x i,ty,pos,aft,none⟩ K f w):=rfl
theorem cK7{x:Operand}:B2 P S ⟨d,.nilCheck x,ty,pos,aft,none⟩ K f w =
  ax0 (match ev f x with | .pointer (some a)=>some (.pointer (some a))|_=>none) K f d w (Y1 P S ⟨d,.nilCheck x,ty,pos,aft,none⟩ K f w):=rfl
theorem cK6{fn:Fn}{first cap:Array Operand}:B2 P S ⟨d,.makeFunc fn first cap,ty,pos,aft,none⟩ K f w=K (C5 f d (.func fn (first.map (ev f)) (cap.map (ev f)))) w:=rfl
theorem cX7{t:TypeId}{parts:Array (Nat×Operand)}:B2 P S ⟨d,.build t parts,ty,pos,aft,none⟩ K f w =
  ax0 (B7 P t (parts.toList.map fun p=>(p.1,ev f p.2))) K f d w (Y1 P S ⟨d,.build t parts,ty,pos,aft,none⟩ K f w):=rfl
theorem di9{x:Operand}{t:TypeId}:B2 P S ⟨d,.call {callee:=.builtin .len,args:=#[x],argTypes:=#[t]},ty,pos,aft,none⟩ K f w =
  ax0 (P8 P t (ev f x)) K f d w (Y1 P S ⟨d,.call {callee:=.builtin .len,args:=#[x],argTypes:=#[t]},ty,pos,aft,none⟩ K f w):=rfl
theorem di8{x:Operand}{t:TypeId}:B2 P S ⟨d,.call {callee:=.builtin .cap,args:=#[x],argTypes:=#[t]},ty,pos,aft,none⟩ K f w =
  ax0 (cC4 P t (ev f x)) K f d w (Y1 P S ⟨d,.call {callee:=.builtin .cap,args:=#[x],argTypes:=#[t]},ty,pos,aft,none⟩ K f w):=rfl
theorem cP2{s t:Nat}{x:Operand}:B2 P S ⟨d,.convert s t x,ty,pos,aft,none⟩ K f w =
  ax0 (aW4 P s t (ev f x)) K f d w (Y1 P S ⟨d,.convert s t x,ty,pos,aft,none⟩ K f w):=rfl
theorem di4{D:Prop}:ax0 none K f d w D=D:=rfl
theorem dj1{x y:Operand}{ts:Array TypeId}:B2 P S ⟨d,.call {callee:=.builtin .min,args:=#[x,y],argTypes:=ts},ty,pos,aft,none⟩ K f w =
  ax0 (cs8 (ev f x) (ev f y)) K f d w (Y1 P S ⟨d,.call {callee:=.builtin .min,args:=#[x,y],argTypes:=ts},ty,pos,aft,none⟩ K f w):=rfl
theorem dj0{x y:Operand}{ts:Array TypeId}:B2 P S ⟨d,.call {callee:=.builtin .max,args:=#[x,y],argTypes:=ts},ty,pos,aft,none⟩ K f w =
  ax0 (cs7 (ev f x) (ev f y)) K f d w (Y1 P S ⟨d,.call {callee:=.builtin .max,args:=#[x,y],argTypes:=ts},ty,pos,aft,none⟩ K f w):=rfl
end
section
variable {d:Option Nat} {ty:TypeId} {pos:String} {aft:Array Edge} {S:World→Prop}
theorem df4{t:TypeId}{a:Operand}:B2 P none ⟨d,.load t a,ty,pos,aft,none⟩ K f w=ac8 ((Instr.loadAt t (ev f a)).run P w) K f d:=rfl
theorem cA9{t n:Nat}{ps:Array (Nat×Operand)}:B2 P none ⟨d,.buildSlice t n ps,ty,pos,aft,none⟩ K f w=ac8 ((Instr.buildSlice t n (ps.map fun p=>(p.1,ev f p.2))).run P w) K f d:=rfl
theorem cW9{t:Nat}:B2 P none ⟨d,.alloc t,ty,pos,aft,none⟩ K f w=ac8 ((Instr.alloc t true (.tuple #[])).run P w) K f d:=rfl
theorem di3{t:Nat}{x:Operand}:B2 P none ⟨d,.box t x,ty,pos,aft,none⟩ K f w=ac8 ((Instr.box t (ev f x)).run P w) K f d:=rfl
theorem cF6{t:Nat}{x y:Operand}:B2 P none ⟨d,.makeSlice t x y,ty,pos,aft,none⟩ K f w=ac8 ((Instr.makeSlice t (ev f x) (ev f y)).run P w) K f d:=rfl
theorem bh2{t:Nat}{r:Option Operand}:B2 P none ⟨d,.makeMap t r,ty,pos,aft,none⟩ K f w=ac8 ((Instr.makeMap t (r.map (ev f))).run P w) K f d:=rfl
theorem cS5{t:Nat}{x i:Operand}{ok:Bool}:B2 P none ⟨d,.lookup t x i ok,ty,pos,aft,none⟩ K f w=ac8 ((Instr.lookup t (ev f x) (ev f i) ok).run P w) K f d:=rfl
theorem cO8{s t:Nat}{x:Operand}:Y1 P none ⟨d,.convert s t x,ty,pos,aft,none⟩ K f w=ac8 ((convert s t (ev f x)).run P w) K f d:=rfl
theorem dh8{op:BinOp}{t t2:TypeId}{x y:Operand}:Y1 P none ⟨d,.binOp op t x y t2,ty,pos,aft,none⟩ K f w=ac8 ((do eqGuard op t x y (ev f x) (ev f y);binOp op t (ev f x) (ev f y):Sem Value).run P w) K f d:=rfl
theorem cS4{x y:Operand}{ts:Array TypeId}:B2 P none ⟨d,.call {callee:=.builtin .append,args:=#[x,y],argTypes:=ts},ty,pos,aft,none⟩ K f w=ac8 ((Builtin.append_ ts ty #[ev f x,ev f y]).run P w) K f d:=by
 simp[B2,ar6,Y1,ba3,bc6]
theorem df3{x y:Operand}{ts:Array TypeId}:B2 P none ⟨d,.call {callee:=.builtin .copy,args:=#[x,y],argTypes:=ts},ty,pos,aft,none⟩ K f w=ac8 ((Builtin.copy_ ts ty #[ev f x,ev f y]).run P w) K f d:=by
 simp[B2,ar6,Y1,ba3,bc6]
theorem cX1{t:Nat}{a x:Operand}:B2 P none ⟨d,.store t a x,ty,pos,aft,none⟩ K f w=aT6 ((Instr.storeAt t (ev f a) (ev f x)).run P w) K f d:=rfl
theorem by6{t:Nat}{m k x:Operand}:B2 P none ⟨d,.mapUpdate t m k x,ty,pos,aft,none⟩ K f w=aT6 ((Instr.mapUpdate t (ev f m) (ev f k) (ev f x)).run P w) K f d:=rfl
theorem df2{k:Nat}{asz:Array Operand}{ts:Array TypeId}:B2 P none ⟨d,.call {callee:=.value (.func k),args:=asz,argTypes:=ts},ty,pos,aft,none⟩ K f w=as7 P k (asz.toList.map (ev f)) w K f d:=by
 simp[B2,ar6,Y1,ba3,ev,aH3]
theorem df1{t:TypeId}{a:Operand}:B2 P (some S) ⟨d,.load t a,ty,pos,aft,none⟩ K f w=I2 P S (Instr.loadAt t (ev f a)) K f d w:=rfl
theorem cS3{t:Nat}{x i:Operand}{ok:Bool}:B2 P (some S) ⟨d,.lookup t x i ok,ty,pos,aft,none⟩ K f w=I2 P S (Instr.lookup t (ev f x) (ev f i) ok) K f d w:=rfl
theorem cO7{s t:Nat}{x:Operand}:Y1 P (some S) ⟨d,.convert s t x,ty,pos,aft,none⟩ K f w=I2 P S (convert s t (ev f x)) K f d w:=rfl
theorem dh7{op:BinOp}{t t2:TypeId}{x y:Operand}:Y1 P (some S) ⟨d,.binOp op t x y t2,ty,pos,aft,none⟩ K f w=I2 P S (do eqGuard op t x y (ev f x) (ev f y);binOp op t (ev f x) (ev f y)) K f d w:=rfl
theorem cA7{t n:Nat}{ps:Array (Nat×Operand)}:B2 P (some S) ⟨d,.buildSlice t n ps,ty,pos,aft,none⟩ K f w=ac8 ((Instr.buildSlice t n (ps.map fun p=>(p.1,ev f p.2))).run P w) (F2 S K) f d:=rfl
theorem cW6{t:Nat}:B2 P (some S) ⟨d,.alloc t,ty,pos,aft,none⟩ K f w=ac8 ((Instr.alloc t true (.tuple #[])).run P w) (F2 S K) f d:=rfl
theorem di2{t:Nat}{x:Operand}:B2 P (some S) ⟨d,.box t x,ty,pos,aft,none⟩ K f w=ac8 ((Instr.box t (ev f x)).run P w) (F2 S K) f d:=rfl
theorem cF4{t:Nat}{x y:Operand}:B2 P (some S) ⟨d,.makeSlice t x y,ty,pos,aft,none⟩ K f w=ac8 ((Instr.makeSlice t (ev f x) (ev f y)).run P w) (F2 S K) f d:=rfl
theorem cS2{x y:Operand}{ts:Array TypeId}:B2 P (some S) ⟨d,.call {callee:=.builtin .append,args:=#[x,y],argTypes:=ts},ty,pos,aft,none⟩ K f w=ac8 ((Builtin.append_ ts ty #[ev f x,ev f y]).run P w) (F2 S K) f d:=by
 simp[B2,ar6,Y1,ba3,bc6,flt]
theorem df0{x y:Operand}{ts:Array TypeId}:B2 P (some S) ⟨d,.call {callee:=.builtin .copy,args:=#[x,y],argTypes:=ts},ty,pos,aft,none⟩ K f w=ac8 ((Builtin.copy_ ts ty #[ev f x,ev f y]).run P w) (F2 S K) f d:=by
 simp[B2,ar6,Y1,ba3,bc6,flt]
theorem cW8{t:Nat}{a x:Operand}:B2 P (some S) ⟨d,.store t a x,ty,pos,aft,none⟩ K f w=aT6 ((Instr.storeAt t (ev f a) (ev f x)).run P w) (F2 S K) f d:=rfl
theorem de9{k:Nat}{asz:Array Operand}{ts:Array TypeId}:B2 P (some S) ⟨d,.call {callee:=.value (.func k),args:=asz,argTypes:=ts},ty,pos,aft,none⟩ K f w=as7 P k (asz.toList.map (ev f)) w (F2 S K) f d:=by
 simp[B2,ar6,Y1,ba3,ev,aH3]
end
end
def do8:=@List.append_assoc
def dq6:=@List.drop_eq_getElem_cons
def dr5:=@List.getElem?_append_left
def dq9:=@List.getElem?_append_right
def dm4:=@List.getElem?_eq_getElem
def dn0:=@List.getElem?_eq_some_iff
def dm7:=@List.length_append
def dn8:=@List.length_take
def do0:=@List.mem_append
def dr0:=@List.take_append_drop
def dv9:=@List.take_left
def dx6:=@Nat.add_mul
def dn4:=@Nat.le_trans
def dt8:=@Nat.lt_of_lt_of_le
def dt5:=@Nat.min_eq_left
def dw3:=@Nat.mul_one
abbrev Hp:=Nat→Option Obj
def i4(w:World):Hp:=fun b=>w.heap[b]?
def B4(h k:Hp):Prop:=∀b o,h b=some o→k b=some o
theorem d7(h:Hp):B4 h h:=fun _ _ e=>e
theorem v8{a b c:Hp}(h:B4 a b)(k:B4 b c):B4 a c:=fun x o e=>k x o (h x o e)
def I3(h:Hp)(a:Addr):Option Value:=match h a.block with
 | some (.cells c _ _)=>if a.spot.isSome then none else c[a.off]?
 | _=>none
theorem al1(w:World)(a:Addr):w.cell? a=I3 (i4 w) a:=rfl
theorem F6{h k:Hp}(hk:B4 h k){a:Addr}{v:Value}(e:I3 h a=some v):I3 k a=some v:=by
 unfold I3 at *;cases hb:h a.block with
 | none=>simp[hb]at e
 | some o=>rw[hk _ _ hb];rw[hb]at e;exact e
structure p9 (M:Nat→Prop) (w w':World):Prop where
 os:w'.os=w.os
 tape:w'.tape=w.tape
 output:w'.output=w.output
 size:w.heap.size≤w'.heap.size
 block:∀k,k<w.heap.size→¬M k→w'.heap[k]?=w.heap[k]?
abbrev o7(w w':World):Prop:=p9 (fun _=>False) w w'
theorem p9.refl{M:Nat→Prop}(w:World):p9 M w w:=⟨rfl,rfl,rfl,dn9 _,fun _ _ _=>rfl⟩
theorem p9.trans{M:Nat→Prop}{a b c:World}(h:p9 M a b)(k:p9 M b c):p9 M a c:=
 ⟨k.os.trans h.os,k.tape.trans h.tape,k.output.trans h.output,dn4 h.size k.size,fun i hi hm=>(k.block i (dt8 hi h.size) hm).trans (h.block i hi hm)⟩
theorem p9.weaken{M N:Nat→Prop}{w w':World}(h:p9 M w w')(hmn:∀k,k<w.heap.size→M k→N k):p9 N w w':=⟨h.os,h.tape,h.output,h.size,fun k hk hn=>h.block k hk fun hm=>hn (hmn k hk hm)⟩
theorem o7.drew(w:World):o7 w w.drew:=⟨rfl,rfl,rfl,dn9 _,fun _ _ _=>rfl⟩
theorem o7.alloc(w:World)(o:Obj):o7 w (w.alloc o):=⟨rfl,rfl,rfl,by simp,fun k hk _=>by
 show(w.heap.push o)[k]?=_;rw[Array.getElem?_push,if_neg (by omega)]⟩
theorem p9.ext_of{M:Nat→Prop}{w w1 w2:World}(h:o7 w w1)(k:p9 M w1 w2)(hM:∀b,M b→w.heap.size≤b):o7 w w2:=
 ⟨k.os.trans h.os,k.tape.trans h.tape,k.output.trans h.output,dn4 h.size k.size,fun i hi _=>(k.block i (dt8 hi h.size) (fun hm=>by have:=hM i hm;omega)).trans (h.block i hi id)⟩
theorem p9.setCell{M:Nat→Prop}(w:World)(a:Addr)(v:Value)(h:M a.block):p9 M w (w.setCell a v):=
 ⟨rfl,rfl,rfl,by simp[World.setCell],fun k _ hm=>by
  simp only[World.setCell,Array.getElem?_modify];rw[if_neg (fun e:a.block=k=>hm (e ▸ h))]⟩
theorem p9.setRow{M:Nat→Prop}(w:World)(g:Nat)(cs:Array Value)(h:M g):p9 M w (w.setRow g cs):=
 ⟨rfl,rfl,rfl,by simp,fun k _ hm=>setRow_other w g k cs (fun e=>hm (e ▸ h))⟩
theorem b7{w w':World}(h:o7 w w'):B4 (i4 w) (i4 w'):=fun b o e=>by
 have hb:b<w.heap.size:=(dn1.1 (show w.heap[b]?=some o from e)).1;exact(h.block b hb id).trans e
theorem H7{h:Hp}{M:Nat→Prop}{w w':World}(hw:B4 h (i4 w))(hm:p9 M w w')(hM:∀b,M b→h b=none):B4 h (i4 w'):=fun b o e=>by
 have e1:=hw b o e;have hb:b<w.heap.size:=(dn1.1 (show w.heap[b]?=some o from e1)).1;exact(hm.block b hb (fun hh=>by rw[hM b hh]at e;cases e)).trans e1
theorem aw4{h:Hp}{w:World}(hw:B4 h (i4 w)){b:Nat}(hb:w.heap.size≤b):h b=none:=by
 cases e:h b with
 | none=>rfl
 | some o=>
  have:=(dn1.1 (show w.heap[b]?=some o from hw b o e)).1;omega
class A3 (α:Type) where
 sz:Nat
 pos:0<sz
 enc:Hp→List Value→α→Prop
 len:∀{h cs x},enc h cs x→cs.length=sz
 mono:∀{h k cs x},B4 h k→enc h cs x→enc k cs x
 one:∀{h cs x},enc h cs x→∀v∈cs,v.oneCell'=true
class I6 (α:Type) where
 val:α→Value
 one:∀x,(val x).oneCell'=true
instance {α:Type} [I6 α]:A3 α where
 sz:=1
 pos:=by omega
 enc _ cs x:=cs=[I6.val x]
 len h:=by simp[h]
 mono _ h:=h
 one h:=by
  intro v hv;rw[h]at hv;simp at hv;subst hv;exact I6.one _
instance:I6 Int:=⟨fun n=>.int .i64 n,fun _=>rfl⟩
instance:I6 Bool:=⟨fun b=>.bool b,fun _=>rfl⟩
instance:I6 ByteArray:=⟨fun s=>.string s,fun _=>rfl⟩
instance:I6 Nat:=⟨fun n=>.int .u64 n,fun _=>rfl⟩
instance {α β:Type} [A3 α] [A3 β]:A3 (α×β) where
 sz:=A3.sz α+A3.sz β
 pos:=by have:=A3.pos (α:=α);omega
 enc h cs x:=∃c1 c2,cs=c1++c2∧A3.enc h c1 x.1∧A3.enc h c2 x.2
 len:=by rintro h cs x ⟨c1,c2,rfl,h1,h2⟩;simp[A3.len h1,A3.len h2]
 mono:=by rintro h k cs x hk ⟨c1,c2,rfl,h1,h2⟩;exact⟨c1,c2,rfl,A3.mono hk h1,A3.mono hk h2⟩
 one:=by
  rintro h cs x ⟨c1,c2,rfl,h1,h2⟩ v hv;rcases do0.1 hv with hv|hv
  ·exact A3.one h1 v hv
  ·exact A3.one h2 v hv
section
variable {α:Type} [A3 α]
def N0(h:Hp):List Value→List α→Prop
 | cs,[]=>cs=[]
 | cs,x::xs=>∃c1 c2,cs=c1++c2∧A3.enc h c1 x∧N0 h c2 xs
theorem J8{h:Hp}:∀{xs:List α} {cs:List Value},N0 h cs xs→cs.length=xs.length*A3.sz α
 | [],cs,e=>by simp[N0]at e;simp[e]
 | x::xs,cs,e=>by
  obtain⟨c1,c2,rfl,h1,h2⟩:=e;simp only[dm7,do7,A3.len h1,J8 h2,dx6];omega
theorem aE6{h k:Hp}(hk:B4 h k):∀{xs:List α} {cs:List Value},N0 h cs xs→N0 k cs xs
 | [],_,e=>e
 | _::_,_,⟨c1,c2,e,h1,h2⟩=>⟨c1,c2,e,A3.mono hk h1,aE6 hk h2⟩
theorem bD3{h:Hp}:∀{xs:List α} {cs:List Value},N0 h cs xs→∀v∈cs,v.oneCell'=true
 | [],cs,e,v,hv=>by simp[N0]at e;subst e;cases hv
 | x::xs,cs,⟨c1,c2,e,h1,h2⟩,v,hv=>by
  subst e;rcases do0.1 hv with hv|hv
  ·exact A3.one h1 v hv
  ·exact bD3 h2 v hv
theorem ah9{h:Hp}:∀{xs:List α} {cs ds:List Value} {ys:List α},N0 h cs xs→N0 h ds ys→N0 h (cs++ds) (xs++ys)
 | [],cs,ds,ys,e1,e2=>by simp[N0]at e1;subst e1;exact e2
 | x::xs,cs,ds,ys,⟨c1,c2,e,h1,h2⟩,e2=>⟨c1,c2++ds,by rw[e,do8],h1,ah9 h2 e2⟩
theorem aW6{h:Hp}{es:List Value}{x:α}(he:A3.enc h es x):N0 h es [x]:=⟨es,[],by simp,he,rfl⟩
theorem Z8{h:Hp}:∀(xs ys:List α) {cs:List Value},N0 h cs (xs++ys)→∃c1 c2,cs=c1++c2∧N0 h c1 xs∧N0 h c2 ys
 | [],ys,cs,e=>⟨[],cs,rfl,rfl,e⟩
 | x::xs,ys,cs,⟨c1,c2,e,h1,h2⟩=>by
  obtain⟨d1,d2,e2,h3,h4⟩:=Z8 xs ys h2;exact⟨c1++d1,d2,by rw[e,e2,do8],⟨c1,d1,rfl,h1,h3⟩,h4⟩
theorem bD2{h:Hp}{xs:List α}{cs:List Value}(e:N0 h cs xs){k:Nat}{x:α}(hk:xs[k]?=some x):
  ∃es,A3.enc h es x∧∀j,j<A3.sz α→cs[k*A3.sz α+j]?=es[j]?:=by
 have hlt:k<xs.length:=(dn0.1 hk).1;have hx:xs=xs.take k++x::xs.drop (k+1):=by
  have h2:xs[k]=x:=(dn0.1 hk).2;have:=dr0 k xs;rw[dq6 hlt,h2]at this;exact this.symm
 rw[hx]at e;obtain⟨c1,c2,rfl,h1,⟨es,c3,rfl,h2,h3⟩⟩:=Z8 _ _ e;refine⟨es,h2,fun j hj=>?_⟩;have hl:c1.length=k*A3.sz α:=by rw[J8 h1,dn8,dt5 (Nat.le_of_lt hlt)]
 rw[dq9 (by omega),hl,Nat.add_sub_cancel_left,dr5 (by rw[A3.len h2];exact hj)]
theorem cp1{h:Hp}{xs:List α}{cs:List Value}(e:N0 h cs xs){k:Nat}(hk:k<xs.length){y:α}{ds:List Value}(hd:A3.enc h ds y):
  N0 h (cs.take (k*A3.sz α)++ds++cs.drop (k*A3.sz α+A3.sz α)) (xs.set k y):=by
 have hx:xs=xs.take k++xs[k]::xs.drop (k+1):=by
  have:=dr0 k xs;rw[dq6 hk]at this;exact this.symm
 rw[hx]at e;obtain⟨c1,c2,rfl,h1,⟨es,c3,rfl,h2,h3⟩⟩:=Z8 _ _ e;have hl:c1.length=k*A3.sz α:=by rw[J8 h1,dn8,dt5 (Nat.le_of_lt hk)]
 have hl2:es.length=A3.sz α:=A3.len h2;have e1:(c1++(es++c3)).take (k*A3.sz α)=c1:=by rw[←hl];exact dv9
 have e2:(c1++(es++c3)).drop (k*A3.sz α+A3.sz α)=c3:=by
  rw[←hl,←hl2,←do8,←dm7];exact List.drop_left
 rw[e1,e2];have hset:xs.set k y=xs.take k++y::xs.drop (k+1):=List.set_eq_take_append_cons_drop.trans (by rw[if_pos hk]);rw[hset,do8];exact ah9 h1 ⟨ds,c3,rfl,hd,h3⟩
instance:A3 (List α) where
 sz:=1
 pos:=by omega
 enc h cs xs:=∃a n c,cs=[.slice a n c]∧n=xs.length∧n≤c∧∃es,N0 h es xs∧∀j v,es[j]?=some v→∃ad,a=some ad∧I3 h (ad.add j)=some v
 len:=by rintro h cs x ⟨a,n,c,rfl,_⟩;rfl
 mono:=by
  rintro h k cs x hk ⟨a,n,c,e,h1,h2,es,h3,h4⟩;refine⟨a,n,c,e,h1,h2,es,aE6 hk h3,fun j v hv=>?_⟩;obtain⟨ad,e1,e2⟩:=h4 j v hv;exact⟨ad,e1,F6 hk e2⟩
 one:=by
  rintro h cs x ⟨a,n,c,rfl,_⟩ v hv;simp at hv;subst hv;rfl
end
abbrev R{α:Type}[A3 α](h:Hp)(v:Value)(x:α):Prop:=A3.enc h [v] x
theorem Addr.add_add'(a:Addr)(x y:Nat):(a.add x).add y=a.add (x+y):=by
 unfold Addr.add;by_cases hx:x=0
 ·subst hx;simp
 ·by_cases hy:y=0
  ·subst hy;simp[hx]
  ·simp[hx,hy,dw1]
section
variable {α:Type} [A3 α] {h:Hp} {v:Value} {xs:List α}
theorem R.isS(hr:R h v xs):isS v=true:=by
 obtain⟨a,n,c,e,_⟩:=hr;simp at e;subst e;rfl
theorem R.vlen(hr:R h v xs):vlen v=xs.length:=by
 obtain⟨a,n,c,e,h1,_⟩:=hr;simp at e;subst e;exact h1
theorem R.vcap(hr:R h v xs):xs.length≤vcap v:=by
 obtain⟨a,n,c,e,h1,h2,_⟩:=hr;simp at e;subst e;rw[←h1];exact h2
theorem R.get(hr:R h v xs){k:Nat}{x:α}(hk:xs[k]?=some x):
  inS v k=true∧∃es,A3.enc h es x∧∀j u,es[j]?=some u→I3 h ((G9 v (k*A3.sz α)).add j)=some u:=by
 obtain⟨a,n,c,e,h1,h2,es,h3,h4⟩:=hr;simp at e;subst e;obtain⟨ds,hd1,hd2⟩:=bD2 h3 hk;have hlt:k<xs.length:=(dn0.1 hk).1;have hl:=A3.len hd1;have hpos:=A3.pos (α:=α);have h0:∃u,ds[0]?=some u:=by
  rw[dm4 (by omega)];exact⟨_,rfl⟩
 obtain⟨u0,hu0⟩:=h0;obtain⟨ad,rfl,_⟩:=h4 (k*A3.sz α+0) u0 (by rw[hd2 0 hpos];exact hu0);refine⟨by simp[inS];omega,ds,hd1,fun j u hj=>?_⟩;have hjl:j<ds.length:=(dn0.1 hj).1;obtain⟨ad',e',hc⟩:=h4 (k*A3.sz α+j) u (by rw[hd2 j (by omega)];exact hj);obtain rfl:=do2 e';simp only[G9];rw[Addr.add_add'];exact hc
theorem R.inS(hr:R h v xs){k:Nat}(hk:k<xs.length):inS v k=true:=(hr.get (dm4 hk)).1
end
theorem J9(a:Addr):a.add 0=a:=by simp[Addr.add]
section
variable {P:Program} {t:TypeId} {w:World} {h:Hp}
theorem R9{a:Addr}{u:Value}(ht:H9 P t=false)(hc:w.cell? a=some u):(Instr.loadAt t (.pointer (some a))).run P w = .ok u w:=by
 unfold Instr.loadAt loadVar;simp only[Instr.sureAddr,do9,dq0,do1,W8 t (aQ6 ht),ht,dt7,du7,run_load,hc]
theorem bg4{a:Addr}{cs:List Value}(ht:H9 P t=true)(hu:(P.underlying t).isSome=true)(hi:(P.info? t).isSome=true)(hs:K1 P t=cs.length)
  (hc:∀j u,cs[j]?=some u→w.cell? (a.add j)=some u):(Instr.loadAt t (.pointer (some a))).run P w = .ok (.agg cs.toArray) w:=by
 unfold Instr.loadAt loadVar;simp only[Instr.sureAddr,do9,dq0,do1,W8 t hu,ht,ds9,N4 hi,hs,run_loadCells_list w a cs hc]
theorem M9{α:Type}[I6 α]{v:Value}{xs:List α}(hr:R h v xs)(hw:B4 h (i4 w)){k:Nat}{x:α}(hk:xs[k]?=some x)(ht:H9 P t=false):
  (Instr.loadAt t (.pointer (some (G9 v k)))).run P w = .ok (I6.val x) w:=by
 obtain⟨_,es,he,hc⟩:=hr.get hk;have he':es=[I6.val x]:=he;have:=hc 0 (I6.val x) (by rw[he'];rfl);rw[J9]at this;have h1:(k*A3.sz α)=k:=dw3 k;rw[h1]at this;exact R9 ht (F6 hw this)
end
def dv4:=@Array.getElem?_eq_getElem
def dz7:=@Array.length_toList
def dp6:=@List.append_nil
def dw6:=@List.getElem?_take
def dv1:=@List.length_drop
def dt3:=@List.length_nil
def dt9:=@List.length_set
def dx1:=@List.nil_append
def dw2:=@List.size_toArray
def dr1:=@List.take_of_length_le
def dn2:=@List.take_succ_eq_append_getElem
def dy1:=@List.take_zero
def dv0:=@Nat.mul_le_mul_right
def dy2:=@World.cell?_alloc_new
def du1:=@cell_of_row
def dq7:=@heap_alloc_new
def A8{α:Type}[A3 α](h:Hp)(w:World)(T:TypeId)(v:Value)(xs:List α):Prop:=
 (v = .slice none 0 0∧xs=[]) ∨
 ∃b c cur,v = .slice (some ⟨b,0,none⟩) xs.length c∧h b=none∧w.heap[b]?=some (.cells cur T (0,0))∧xs.length≤c∧c≤maxLen∧cur.size=c*A3.sz α ∧
  N0 h (cur.toList.take (xs.length*A3.sz α)) xs
def A4(v:Value)(b:Nat):Prop:=v.ownBlock=some b
theorem C7{b:Nat}{n c:Nat}:¬A4 (.slice none n c) b:=by simp[A4,Value.ownBlock]
def D7(w:World)(v v':Value):Prop:=∀b,A4 v' b→A4 v b∨w.heap.size≤b
section
variable {α:Type} [A3 α] {h:Hp} {w:World} {T:TypeId} {v:Value} {xs:List α}
theorem A8.nil(h:Hp)(w:World)(T:TypeId):A8 h w T (.slice none 0 0) ([]:List α):=.inl ⟨rfl,rfl⟩
theorem A8.free(ho:A8 h w T v xs){b:Nat}(hb:A4 v b):h b=none:=by
 rcases ho with⟨rfl,_⟩|⟨b',c,cur,rfl,h1,_⟩
 ·exact absurd hb C7
 ·simp[A4,Value.ownBlock]at hb;subst hb;exact h1
theorem A8.lt(ho:A8 h w T v xs){b:Nat}(hb:A4 v b):b<w.heap.size:=by
 rcases ho with⟨rfl,_⟩|⟨b',c,cur,rfl,h1,h2,_⟩
 ·exact absurd hb C7
 ·simp[A4,Value.ownBlock]at hb;subst hb;exact(dn1.1 h2).1
theorem A8.isS(ho:A8 h w T v xs):isS v=true:=by
 rcases ho with⟨rfl,_⟩|⟨b',c,cur,rfl,_⟩<;>rfl
theorem A8.vlen(ho:A8 h w T v xs):vlen v=xs.length:=by
 rcases ho with⟨rfl,rfl⟩|⟨b',c,cur,rfl,_⟩<;>rfl
theorem A8.vcap(ho:A8 h w T v xs):xs.length≤vcap v:=by
 rcases ho with⟨rfl,rfl⟩|⟨b',c,cur,rfl,_,_,h3,_⟩
 ·simp
 ·exact h3
theorem A8.inS(ho:A8 h w T v xs){k:Nat}(hk:k<xs.length):inS v k=true:=by
 rcases ho with⟨rfl,rfl⟩|⟨b',c,cur,rfl,_⟩
 ·simp at hk
 ·simp[Go.Proofs.YtcbnbgpphippoaaGreat.inS,hk]
theorem A8.mod{M:Nat→Prop}{w':World}(ho:A8 h w T v xs)(hm:p9 M w w')(hM:∀b,A4 v b→¬M b):A8 h w' T v xs:=by
 rcases ho with hn|⟨b,c,cur,rfl,h1,h2,rest⟩
 ·exact .inl hn
 ·exact .inr ⟨b,c,cur,rfl,h1,(hm.block b (dn1.1 h2).1 (hM b rfl)).trans h2,rest⟩
theorem A8.ext{w':World}(ho:A8 h w T v xs)(hm:o7 w w'):A8 h w' T v xs:=ho.mod hm fun _ _=>id
theorem A8.up{k:Hp}(ho:A8 h w T v xs)(hk:B4 h k)(hb:∀b,A4 v b→k b=none):A8 k w T v xs:=by
 rcases ho with hn|⟨b,c,cur,rfl,h1,h2,h3,h4,h5,h6⟩
 ·exact .inl hn
 ·exact .inr ⟨b,c,cur,rfl,hb b rfl,h2,h3,h4,h5,aE6 hk h6⟩
theorem A8.ro(ho:A8 h w T v xs){k:Hp}(hk:B4 h k)(hb:∀b,A4 v b→k b=w.heap[b]?):R k v xs:=by
 rcases ho with⟨rfl,rfl⟩|⟨b,c,cur,rfl,h1,h2,h3,h4,h5,h6⟩
 ·exact⟨_,_,_,rfl,rfl,dn9 _,[],rfl,fun j v hv=>by simp at hv⟩
 ·refine⟨_,_,_,rfl,rfl,h3,_,aE6 hk h6,fun j u hj=>⟨_,rfl,?_⟩⟩;have hlt:j<cur.size:=by
   have:=(dn0.1 hj).1;simp at this;omega
  have hc:cur[j]?=some u:=by
   rw[dw6]at hj;split at hj
   ·simpa using hj
   ·cases hj
  have ha:(⟨b,0,.none⟩:Addr).add j=⟨b,j,.none⟩:=by unfold Addr.add;split<;>simp_all
  rw[ha];simp only[I3,hb b rfl,h2,Option.isSome_none,dt7,du7,hc]
theorem A8.rw_(ho:A8 h w T v xs)(hw:B4 h (i4 w)):R (i4 w) v xs:=ho.ro hw fun _ _=>rfl
theorem A8.get(ho:A8 h w T v xs){k:Nat}{x:α}(hk:xs[k]?=some x):
  ∃es,A3.enc h es x∧∀j u,es[j]?=some u→w.cell? ((G9 v (k*A3.sz α)).add j)=some u:=by
 rcases ho with⟨rfl,rfl⟩|⟨b,c,cur,rfl,h1,h2,h3,h4,h5,h6⟩
 ·simp at hk
 ·obtain⟨es,he,hc⟩:=bD2 h6 hk;refine⟨es,he,fun j u hj=>?_⟩;have hjl:j<A3.sz α:=by have:=(dn0.1 hj).1;rw[A3.len he]at this;exact this
  have:=hc j hjl;rw[hj,dw6]at this;split at this
  ·simp only[G9];rw[Addr.add_add'];have ha:(⟨b,0,.none⟩:Addr).add (k*A3.sz α+j)=⟨b,k*A3.sz α+j,.none⟩:=by unfold Addr.add;split<;>simp_all
   rw[ha,du1 w b _ cur T (0,0) h2];simpa using this
  ·cases this
end
section
variable {α:Type} [A3 α] {h:Hp} {P:Program} {w:World} {t T:TypeId} {v:Value}
theorem D4{α:Type}[I6 α]{xs:List α}(ho:A8 h w T v xs){k:Nat}{x:α}(hk:xs[k]?=some x)(ht:H9 P t=false):
  (Instr.loadAt t (.pointer (some (G9 v k)))).run P w = .ok (I6.val x) w:=by
 obtain⟨es,he,hc⟩:=ho.get hk;have he':es=[I6.val x]:=he;have:=hc 0 (I6.val x) (by rw[he'];rfl);rw[J9]at this;have h1:(k*A3.sz α)=k:=dw3 k;rw[h1]at this;exact R9 ht this
theorem aY1{xs:List (List α)}(ho:A8 h w T v xs){k:Nat}{x:List α}(hk:xs[k]?=some x)(ht:H9 P t=false):
  ∃u,R h u x∧(Instr.loadAt t (.pointer (some (G9 v k)))).run P w = .ok u w:=by
 obtain⟨es,he,hc⟩:=ho.get hk;have hl:es.length=1:=A3.len he
 match es,hl with
 | [u],_=>
  have:=hc 0 u rfl;rw[J9]at this;have h1:(k*A3.sz (List α))=k:=dw3 k;rw[h1]at this;exact⟨u,he,R9 ht this⟩
theorem aH6{a:Addr}{u x:Value}{i:TypeInfo}(hi:P.info? t=some i)(hs:i.size=1)(hx:x.cells=#[x])(h1:x.oneCell'=true)(hc:w.cell? a=some u)(hf:w.frozen? a=false):
  (Instr.storeAt t (.pointer (some a)) x).run P w = .ok () (w.setCell a x):=by
 have hst:(store (a.add 0) x).run P w = .ok () (w.setCell a x):=by
  rw[J9];cases x<;>simp[Value.oneCell']at h1<;>simp[store,Sem.run,hc,hf]
 unfold Instr.storeAt storeVar;simp only[Instr.sureAddr,do9,dq0,do1,sizeOf,N2,hi,hs,hx,Sem.run_ite];simp only[dw2,do7,dt3,storeCells,do9,hst,do1,dq0];rfl
theorem D9{xs:List α}(ho:A8 h w T v xs)(hz:A3.sz α=1){k:Nat}(hk:k<xs.length){x:Value}{y:α}(hy:A3.enc h [x] y)(hx:x.cells=#[x])
  {i:TypeInfo} (hi:P.info? t=some i) (hs:i.size=1) :
  ∃w',(Instr.storeAt t (.pointer (some (G9 v k))) x).run P w = .ok () w'∧A8 h w' T v (xs.set k y)∧p9 (A4 v) w w'∧w'.heap.size=w.heap.size:=by
 obtain⟨es,he,hc⟩:=ho.get (dm4 hk);have hone:x.oneCell'=true:=A3.one hy x (by simp);rcases ho with⟨rfl,rfl⟩|⟨b,c,cur,rfl,h1,h2,h3,h4,h5,h6⟩
 ·simp at hk
 ·have ha:(⟨b,0,.none⟩:Addr).add k=⟨b,k,.none⟩:=by unfold Addr.add;split<;>simp_all
  have hksz:k<cur.size:=by rw[h5,hz];omega
  have hcell:w.cell? ⟨b,k,.none⟩=some cur[k]:=by rw[du1 w b k cur T (0,0) h2,dv4 hksz]
  have hfr:w.frozen? ⟨b,k,.none⟩=false:=frozen_of_row w b k cur T h2;have hrun:=aH6 (P:=P) (t:=t) hi hs hx hone hcell hfr;simp only[G9,ha];refine⟨_,hrun,?_,p9.setCell _ _ _ (by simp[A4,Value.ownBlock]),by simp⟩;right;refine⟨b,c,cur.setIfInBounds k x,by simp,h1,heap_setCell_same w b k cur T x h2,by simpa using h3,h4,by simpa using h5,?_⟩;have hs':=cp1 h6 hk hy;have hl:(cur.toList.take xs.length).length=xs.length:=by
   rw[hz]at h5;have h7:cur.toList.length=cur.size:=by simp
   rw[dn8,h7];omega
  have e1:(cur.setIfInBounds k x).toList.take ((xs.set k y).length*A3.sz α) =
    (cur.toList.take (xs.length*A3.sz α)).take (k*A3.sz α)++[x]++(cur.toList.take (xs.length*A3.sz α)).drop (k*A3.sz α+A3.sz α):=by
   rw[hz];simp only[Array.toList_setIfInBounds,dt9,dw3];rw[List.take_set];rw[List.set_eq_take_append_cons_drop,if_pos (by rw[hl];exact hk)];simp
  rw[e1];exact hs'
theorem aK0{e:TypeId}{i:TypeInfo}{z:Value}(ht:P.underlying t=some (.slice T))(hi:P.info? T=some i)(hz:i.zero=some z)(hsize:i.size=A3.sz α)(hzs:z.cells.size=i.size)
  {xs ys:List α} (ho:A8 h w T v xs) {ad:Addr} {m c:Nat} {news:List Value} (hm:m=ys.length) (hn:N0 h news ys) (hnews:∀j u,news[j]?=some u→w.cell? (ad.add j)=some u)
  (hy:ys≠[]) (h63:xs.length+ys.length≤maxLen) (hbytes:(xs.length+ys.length)*i.bytes≤140737488355328) (hw:B4 h (i4 w)) :
  ∃v' w',(Builtin.append_ #[t,t] e #[v,.slice (some ad) m c]).run P w = .ok v' w'∧A8 h w' T v' (xs++ys)∧p9 (A4 v) w w'∧D7 w v v':=by
 have hl:=J8 hn;have hone:=bD3 hn;have hy0:0<ys.length:=List.length_pos_iff.2 hy;have fresh:∀(old:Nat) (cells:List Value),N0 h cells (xs++ys)→old<xs.length+ys.length →
   A8 h (w.drew.alloc (.cells (cells.toArray++Builtin.zeroCells z.cells (grownCap w (xs.length+ys.length) old T-(xs.length+ys.length))) T)) T
    (.slice (some ⟨w.heap.size,0,.none⟩) (xs.length+ys.length) (grownCap w (xs.length+ys.length) old T)) (xs++ys):=by
  intro old cells hc ho';have hge:=grownCap_ge w (xs.length+ys.length) old T;have hcm:=grownCap_le_maxLen w (xs.length+ys.length) old T h63;have hcl:=J8 hc;right;refine⟨w.heap.size,_,_,by rw[dm7],aw4 hw (dn9 _),dq7 w.drew _,by rw[dm7];exact hge,hcm,?_,?_⟩
  ·simp only[Array.size_append,dw2,size_zeroCells,hzs,hsize,hcl,dm7,←dx6]
   congr 1
   omega
  ·simp only[Array.toList_append];rw[←hcl,dv9];exact hc
 have exta:∀(o:Obj),p9 (A4 v) w (w.drew.alloc o):=fun o=>
  p9.trans ((o7.drew w).weaken (fun _ _ h=>h.elim)) ((o7.alloc w.drew o).weaken (fun _ _ h=>h.elim))
 have hmv:∀n c,D7 w v (.slice (some ⟨w.heap.size,0,.none⟩) n c):=fun n c b hb=>by
  simp[A4,Value.ownBlock]at hb;subst hb;exact .inr (dn9 _)
 subst hm;rcases ho with⟨rfl,rfl⟩|⟨b,cc,cur,rfl,h1,h2,h3,h4,h5,h6⟩
 ·have hr:=run_append_nil (P:=P) w t e T i z ht hi hz ad ys.length c news (by rw[hl,hsize]) hnews hy0 (by simp only[maxLen,dt3,dp8]at h63;omega) (by simp only[dt3,dp8]at hbytes;omega);have hf:=fresh 0 news (by simpa using hn) (by simp;exact hy0);simp only[dt3,dp8,dx1]at hf ⊢;exact⟨_,_,hr,hf,exta _,hmv _ _⟩
 ·by_cases hroom:xs.length+ys.length≤cc
  ·have hfit:xs.length*i.size+news.length≤cur.size:=by rw[hl,hsize,h5,←dx6];exact dv0 _ hroom
   have hr:=run_append_room (P:=P) w t e T i ht hi b xs.length cc cur h2 ad ys.length c news (by rw[hl,hsize]) hnews hone hroom hfit;refine⟨_,_,hr,?_,p9.setRow _ _ _ (by simp[A4,Value.ownBlock]),fun b' hb'=>.inl hb'⟩;right;refine⟨b,cc,_,by rw[dm7],h1,setRow_heap w b cur _ T _ h2,by rw[dm7];exact hroom,h4,?_,?_⟩
   ·simp only[dw2,dm7,dn8,dv1,dz7];rw[hsize]at hfit ⊢;have:xs.length*A3.sz α≤cur.size:=by omega
    omega
   ·rw[hsize];have hlen:(cur.toList.take (xs.length*A3.sz α)++news).length=(xs++ys).length*A3.sz α:=by
     rw[dm7,hl,J8 h6,dm7,dx6]
    rw[←hlen,dv9];exact ah9 h6 hn
  ·have hcs:(cur.toList.take (xs.length*A3.sz α)).length=xs.length*i.size:=by rw[J8 h6,hsize]
   have holds:∀j u,(cur.toList.take (xs.length*A3.sz α))[j]?=some u→w.cell? ((⟨b,0,.none⟩:Addr).add j)=some u:=by
    intro j u hj;have ha:(⟨b,0,.none⟩:Addr).add j=⟨b,j,.none⟩:=by unfold Addr.add;split<;>simp_all
    rw[ha,du1 w b j cur T (0,0) h2];rw[dw6]at hj;split at hj
    ·simpa using hj
    ·cases hj
   have hr:=run_append_grow (P:=P) w t e T i z ht hi hz ⟨b,0,.none⟩ xs.length cc (cur.toList.take (xs.length*A3.sz α)) hcs holds ad ys.length c news (by rw[hl,hsize]) hnews (by omega)
    (by simp only[maxLen]at h63;omega) (growslice_fits (by omega) hbytes)
   have hf:=fresh cc (cur.toList.take (xs.length*A3.sz α)++news) (ah9 h6 hn) (by omega);have e1:((cur.toList.take (xs.length*A3.sz α)++news).toArray:Array Value)=(cur.toList.take (xs.length*A3.sz α)).toArray++news.toArray:=by simp
   rw[e1]at hf;exact⟨_,_,hr,hf,exta _,hmv _ _⟩
theorem bp6(off:Nat):∀(l:List Value) (k:Nat) (cs:Array Value),off+k+l.length≤cs.size →
  ((l.zipIdx k).foldl (fun cs (p:Value×Nat)=>cs.setIfInBounds (off+p.2) p.1) cs).toList=cs.toList.take (off+k)++l++cs.toList.drop (off+k+l.length)
 | [],k,cs,_=>by simp
 | v::l,k,cs,hl=>by
  simp only[do7]at hl;rw[List.zipIdx_cons,List.foldl_cons,bp6 off l (k+1) _ (by simp;omega)];have hlen:cs.toList.length=cs.size:=by simp
  simp only[Array.toList_setIfInBounds,do7];rw[show off+(k+1)=off+k+1 by omega,List.take_set,dn2 (by omega),List.set_append_right (h:=by simp;omega)];have e1:off+k-(cs.toList.take (off+k)).length=0:=by simp;omega
  rw[e1,List.drop_set_of_lt (by omega)];simp[do8,dw1,Nat.add_comm 1]
theorem cp5{place:Nat→Option (Nat×Nat)}{off sz i:Nat}{x:Value}{cs:Array Value}{rest:List (Nat×Value)}(hp:place i=some (off,sz))(hx:x.cells.size=sz)(hs:off+sz≤cs.size):
  Instr.fill place cs ((i,x)::rest)=Instr.fill place (cs.toList.take off++x.cells.toList++cs.toList.drop (off+sz)).toArray rest:=by
 conv=>lhs;unfold Instr.fill
 simp only[hp];rw[if_neg (by simp[hx];omega)]
 congr 1
 apply Array.ext';have:=bp6 off x.cells.toList 0 cs (by simp;omega);simp only[Nat.add_zero,dz7,hx]at this;rw[←this,←Array.foldl_toList];simp[Array.toList_zipIdx]
theorem bD4(sz:Nat):∀(xs:List Value) (k:Nat) (cs:Array Value),(∀x∈xs,x.cells.size=sz)→cs.size=(k+xs.length)*sz →
  Instr.fill (fun i=>some (i*sz,sz)) cs ((xs.zipIdx k).map fun p=>(p.2,p.1))=some (cs.toList.take (k*sz)++xs.flatMap (·.cells.toList)).toArray
 | [],k,cs,_,hc=>by
  simp only[dt3,Nat.add_zero]at hc;simp only[List.zipIdx_nil,List.map_nil,Instr.fill,List.flatMap_nil,dp6]
  congr 1
  apply Array.ext';rw[←hc,dr1 (by simp)]
 | x::xs,k,cs,hx,hc=>by
  simp only[do7]at hc;have hc':cs.size=k*sz+sz+xs.length*sz:=by rw[hc,dx6,dx6];omega
  have hxs:=hx x (by simp);have hlen:cs.toList.length=cs.size:=by simp
  rw[List.zipIdx_cons,dr3];show Instr.fill _ cs ((k,x)::_)=_;rw[cp5 rfl hxs (by omega)];have hl:(List.take (k*sz) cs.toList++x.cells.toList++List.drop (k*sz+sz) cs.toList).toArray.size=(k+1+xs.length)*sz:=by
   simp[hxs];rw[dx6,dx6];omega
  rw[bD4 sz xs (k+1) _ (fun y hy=>hx y (by simp[hy])) hl]
  congr 2
  have e:(k+1)*sz=(List.take (k*sz) cs.toList++x.cells.toList).length:=by
   simp[hxs,dx6];omega
  rw[e,dv9];simp
theorem ap8{e:TypeId}{z:Value}(ht:K6 P t=some e)(hi:(P.info? e).isSome=true)(hz:G3 P e=some z)(xs:List Value)(hx:∀x∈xs,x.cells.size=K1 P e)(hn:xs≠[])
  (hpos:0<K1 P e) (hsm:xs.length*K1 P e≤16777216) {parts:Array (Nat×Value)} (hp:parts.toList=(xs.zipIdx 0).map fun p=>(p.2,p.1)) {n:Nat} (hnl:n=xs.length) :
  (Instr.buildSlice t n parts).run P w = .ok (.slice (some ⟨w.heap.size,0,none⟩) n n) (w.alloc (.cells (xs.flatMap (·.cells.toList)).toArray e)):=by
 subst hnl;obtain⟨i,hi'⟩:=ds2.1 hi;have hz':i.zero=some z:=by simpa[G3,hi']using hz
 have h0:¬(xs.length*K1 P e=0):=by
  have:0<xs.length:=List.length_pos_iff.2 hn;exact Nat.ne_of_gt (Nat.mul_pos this hpos)
 unfold Instr.buildSlice zeroValue;simp only[do9,F3,L6 ht,do1,N4 hi,Sem.run_ite,N2,hi',hz',dq0];rw[if_neg (by omega)];simp only[h0,du7];rw[hp,bD4 (K1 P e) xs 0 _ hx (by simp)];simp only[Nat.zero_mul,dy1,dx1];rfl
theorem C6{i:TypeInfo}(hi:P.info? t=some i):K1 P t=i.size:=by simp[K1,hi]
theorem at4{i:TypeInfo}(hi:P.info? t=some i):co0 P t=i.bytes:=by simp[co0,hi]
theorem z7{z:Value}(hz:G3 P t=some z):∃i,P.info? t=some i∧i.zero=some z:=by
 unfold G3 at hz;cases hi:P.info? t with
 | none=>simp[hi]at hz
 | some i=>exact⟨i,rfl,by simpa[hi]using hz⟩
theorem cu1{e:TypeId}{z:Value}(ht:K6 P t=some T)(hz:G3 P T=some z)(hsize:K1 P T=A3.sz α)(hzs:z.cells.size=A3.sz α)
  {xs:List α} (ho:A8 h w T v xs) {x:Value} {y:α} (hy:A3.enc h x.cells.toList y) (h63:xs.length+1≤1000000000000) (hbytes:(xs.length+1)*co0 P T≤140737488355328) (hw:B4 h (i4 w)) :
  ∃v' w',(Builtin.append_ #[t,t] e #[v,.slice (some ⟨w.heap.size,0,none⟩) 1 1]).run P (w.alloc (.cells x.cells T)) = .ok v' w'∧A8 h w' T v' (xs++[y])∧p9 (A4 v) w w'∧D7 w v v':=by
 obtain⟨i,hi,hiz⟩:=z7 hz;rw[C6 hi]at hsize;rw[at4 hi]at hbytes;have hw1:B4 h (i4 (w.alloc (.cells x.cells T))):=v8 hw (b7 (o7.alloc w _));have hnews:∀j u,x.cells.toList[j]?=some u→(w.alloc (.cells x.cells T)).cell? ((⟨w.heap.size,0,none⟩:Addr).add j)=some u:=by
  intro j u hj;have ha:(⟨w.heap.size,0,none⟩:Addr).add j=⟨w.heap.size,j,none⟩:=by unfold Addr.add;split<;>simp_all
  rw[ha,dy2];simpa using hj
 obtain⟨v',w',h1,h2,h3,h4⟩:=aK0 (P:=P) (e:=e) (L6 ht) hi hiz hsize (by rw[hzs,hsize]) (ho.ext (o7.alloc w (.cells x.cells T))) (c:=1) (m:=1) (ad:=⟨w.heap.size,0,none⟩) rfl (aW6 hy) hnews (by simp)
  (by simp[maxLen];omega) (by simpa using hbytes) hw1
 refine⟨v',w',h1,h2,?_,fun b hb=>?_⟩
 ·exact p9.trans ((o7.alloc w (.cells x.cells T)).weaken (fun _ _ h=>h.elim)) h3
 ·rcases h4 b hb with h|h
  ·exact .inl h
  ·simp at h;exact .inr (by omega)
theorem aj4{e:TypeId}{z:Value}(ht:K6 P t=some e)(hz:G3 P e=some z)(hpos:0<K1 P e)(hsm:K1 P e≤16777216){x:Value}(hx:x.cells.size=K1 P e):
  (Instr.buildSlice t 1 #[(0,x)]).run P w = .ok (.slice (some ⟨w.heap.size,0,none⟩) 1 1) (w.alloc (.cells x.cells e)):=by
 obtain⟨i,hi,hiz⟩:=z7 hz;have:=ap8 (w:=w) ht (by rw[hi];rfl) hz [x] (by simpa using hx) (by simp) hpos (by simpa using hsm) (parts:=#[(0,x)]) rfl (n:=1) rfl;simpa using this
end
def dt4:=@List.mem_cons_of_mem
def cC8(ops:Array Oper):List Nat:=ops.toList.filterMap (·.dst)
def wrC:Code→List Nat
 | .seq a b=>wrC a++wrC b
 | .cond _ a b=>wrC a++wrC b
 | .block _ a=>wrC a
 | .loop a=>wrC a
 | .region _ ops _=>cC8 ops
 | _=>[]
section
variable {P:Program}
theorem bs9{r:Result Value}{K K':Fr→World→Prop}{f:Fr}{d:Option Nat}(h:∀v w,K (C5 f d v) w→K' (C5 f d v) w)(hr:ac8 r K f d):ac8 r K' f d:=by
 cases r with
 | ok v w=>exact h _ _ hr
 | halt x w=>exact hr.elim
theorem aT7{r:Result Unit}{K K':Fr→World→Prop}{f:Fr}{d:Option Nat}(h:∀v w,K (C5 f d v) w→K' (C5 f d v) w)(hr:aT6 r K f d):aT6 r K' f d:=by
 cases r with
 | ok v w=>exact h _ _ hr
 | halt x w=>exact hr.elim
theorem bL3{k:Nat}{args:List Value}{w:World}{K K':Fr→World→Prop}{f:Fr}{d:Option Nat}(h:∀v w,K (C5 f d v) w→K' (C5 f d v) w)(hr:as7 P k args w K f d):as7 P k args w K' f d:=by
 rcases hr with⟨hb,hc⟩|⟨v,w',h1,h2⟩
 ·exact .inl ⟨hb,hc.mono fun e w' ⟨v,he,hk⟩=>⟨v,he,h _ _ hk⟩⟩
 ·exact .inr ⟨v,w',h1,h _ _ h2⟩
theorem aZ3{o:Oper}{K K':Fr→World→Prop}{f:Fr}{w:World}(h:∀v w,K (C5 f o.dst v) w→K' (C5 f o.dst v) w)(hs:N5 P o K f w):N5 P o K' f w:=by
 unfold N5 at *;generalize(execOp (ev f) o).run P w=r at *;cases r with
 | halt x w'=>exact hs
 | ok n w'=>
  cases n
  case value v=>exact h _ _ hs
  case skip=>exact h _ _ hs
  case enter g args=>exact Calls.mono hs fun e w'' ⟨v,he,hk⟩=>⟨v,he,h _ _ hk⟩
  all_goals exact hs
theorem aw6{S:Option (World→Prop)}{K K':Fr→World→Prop}{f:Fr}{d:Option Nat}(h:∀v w,K (C5 f d v) w→K' (C5 f d v) w):∀v w,aH3 S K (C5 f d v) w→aH3 S K' (C5 f d v) w:=by
 intro v w hk;cases S with
 | none=>exact h _ _ hk
 | some S=>exact⟨hk.1,h _ _ hk.2⟩
theorem cc1{S:Option (World→Prop)}{fl:Bool}{s:Sem Value}{K K':Fr→World→Prop}{f:Fr}{d:Option Nat}{w:World}(h:∀v w,K (C5 f d v) w→K' (C5 f d v) w)(hr:bc6 P S fl s K f d w):bc6 P S fl s K' f d w:=by
 unfold bc6 at *;cases S with
 | none=>exact bs9 h hr
 | some S=>
  cases fl with
  | true=>
   simp only[ds9]at hr ⊢;obtain⟨v,h1,h2⟩:=hr;exact⟨v,h1,h _ _ h2⟩
  | false=>
   simp only[dt7,du7]at hr ⊢;exact bs9 (fun v w hk=>⟨hk.1,h _ _ hk.2⟩) hr
theorem W7{S:Option (World→Prop)}{o:Oper}{K K':Fr→World→Prop}{f:Fr}{w:World}(h:∀v w,K (C5 f o.dst v) w→K' (C5 f o.dst v) w)(hs:B2 P S o K f w):B2 P S o K' f w:=by
 unfold B2 at *;split
 ·rename_i v hv;simp only[hv]at hs;exact h _ _ hs
 ·rename_i hv;simp only[hv]at hs;unfold Y1 at *;split
  ·rename_i s hs';simp only[hs']at hs;exact cc1 h hs
  ·rename_i hs';simp only[hs']at hs;obtain⟨d,op,ty,pos,aft,gd⟩:=o;cases op
   case store=>exact aT7 (aw6 h) hs
   case mapUpdate=>exact aT7 (aw6 h) hs
   case insert=>exact aT7 (aw6 h) hs
   case call c=>
    obtain⟨cal,args,tys⟩:=c;cases cal
    case value g=>
     simp only at hs ⊢;cases hg:ev f g
     case func fn first cap=>
      cases fn
      case func k=>simp only[hg]at hs ⊢;exact bL3 (aw6 h) hs
      all_goals (simp only[hg]at hs)
     all_goals (simp only[hg]at hs)
    all_goals exact hs
   all_goals
    cases S with
    | none=>exact aZ3 h hs
    | some S=>
     simp only at hs ⊢;split
     ·rename_i hf;rw[if_pos hf]at hs;obtain⟨v,h1,h2⟩:=hs;exact⟨v,h1,h _ _ h2⟩
     ·rename_i hf;rw[if_neg hf]at hs;exact aZ3 (fun v w hk=>⟨hk.1,h _ _ hk.2⟩) hs
theorem aK7{f:Fr}{d:Option Nat}{v:Value}{i:Nat}(h:∀k,d=some k→i≠k):C5 f d v i=f i:=by
 cases d with
 | none=>rfl
 | some k=>simp[C5,p6,h k rfl]
theorem cl3{ops:Array Oper}{K K':Fr→World→Prop}:∀(l:List Oper) (f:Fr) (w:World),(∀f' w',(∀i,i∉l.filterMap (·.dst)→f' i=f i)→K f' w'→K' f' w')→Rn P ops l K f w→Rn P ops l K' f w
 | [],f,w,h,hr=>h _ _ (fun _ _=>rfl) hr
 | o::l,f,w,h,hr=>by
  have key:∀v w',Rn P ops l K (C5 f o.dst v) w'→Rn P ops l K' (C5 f o.dst v) w':=fun v w' hk=>
   cl3 l _ _ (fun f' w'' hf hk'=>h _ _ (fun i hi=>by
    have h1:i∉l.filterMap (·.dst):=fun hm=>hi (List.mem_filterMap.2 (let⟨a,ha,hd⟩:=List.mem_filterMap.1 hm;⟨a,dt4 _ ha,hd⟩));rw[hf i h1];exact aK7 fun k hk e=>hi (by subst e;exact List.mem_filterMap.2 ⟨o,by simp,hk⟩)) hk') hk
  unfold Rn at hr ⊢;split
  ·rename_i hg;simp only[hg]at hr;exact W7 key hr
  ·rename_i j b hg;simp only[hg]at hr;split
   ·rename_i hc;rw[if_pos hc]at hr;exact W7 key hr
   ·rename_i hc;rw[if_neg hc]at hr;exact key _ _ hr
theorem bG2{ops:Array Oper}{i:Nat}{o:Oper}{k:Nat}(ho:ops[i]?=some o)(hd:o.dst=some k):k∈cC8 ops:=
 List.mem_filterMap.2 ⟨o,by have:=Array.mem_of_getElem? ho;simpa using this,hd⟩
theorem bv4{ops:Array Oper}{S:World→Prop}{K K':Fr→World→Prop}:∀(l:aA7) (f:Fr) (w:World),(∀f' w',(∀i,i∉cC8 ops→f' i=f i)→K f' w'→K' f' w')→RnF P ops S l K f w→RnF P ops S l K' f w
 | .nil,f,w,h,hr=>h _ _ (fun _ _=>rfl) hr
 | .op i l,f,w,h,hr=>by
  unfold RnF at hr ⊢;cases ho:ops[i]? with
  | none=>simp[ho]at hr
  | some o=>
   simp only[ho]at hr ⊢;have key:∀v w',RnF P ops S l K (C5 f o.dst v) w'→RnF P ops S l K' (C5 f o.dst v) w':=fun v w' hk=>
    bv4 l _ _ (fun f' w'' hf hk'=>h _ _ (fun j hj=>by
     rw[hf j hj];exact aK7 fun k hk e=>hj (by subst e;exact bG2 ho hk)) hk') hk
   split
   ·rename_i hg;simp only[hg]at hr;exact W7 key hr
   ·rename_i j b hg;simp only[hg]at hr;split
    ·rename_i hc;rw[if_pos hc]at hr;exact W7 key hr
    ·rename_i hc;rw[if_neg hc]at hr;exact key _ _ hr
 | .fork rs k,f,w,h,hr=>by
  unfold RnF at hr ⊢;intro i hi;have hr:=hr i hi;cases ho:ops[i]? with
  | none=>simp[ho]at hr
  | some o=>
   simp only[ho]at hr ⊢;have key:∀v w',RnF P ops S (k i) K (C5 f o.dst v) w'→RnF P ops S (k i) K' (C5 f o.dst v) w':=fun v w' hk=>
    bv4 (k i) _ _ (fun f' w'' hf hk'=>h _ _ (fun j hj=>by
     rw[hf j hj];exact aK7 fun k hk e=>hj (by subst e;exact bG2 ho hk)) hk') hk
   split
   ·rename_i hg;simp only[hg]at hr;exact⟨W7 key hr.1,hr.2⟩
   ·rename_i j b hg;simp only[hg]at hr;split
    ·rename_i hc;rw[if_pos hc]at hr;exact⟨W7 key hr.1,hr.2⟩
    ·rename_i hc;rw[if_neg hc]at hr;exact key _ _ hr
theorem ck4:∀(c:Code) (Q Q':Exit→Fr→World→Prop) (f:Fr) (w:World),(∀e f' w',(∀i,i∉wrC c→f' i=f i)→Q e f' w'→Q' e f' w')→CW P c Q f w→CW P c Q' f w:=by
 intro c
 induction c with
 | skip=>intro Q Q' f w h hc;exact h _ _ _ (fun _ _=>rfl) hc
 | seq a b iha ihb=>
  intro Q Q' f w h hc;refine iha _ _ _ _ ?_ hc;intro e f' w' hf hq;cases e
  case normal=>
   refine ihb _ _ _ _ ?_ hq;intro e2 f2 w2 hf2 hq2;exact h _ _ _ (fun i hi=>by
    simp only[wrC,do0,not_or]at hi;rw[hf2 i hi.2,hf i hi.1]) hq2
  all_goals exact h _ _ _ (fun i hi=>by
    simp only[wrC,do0,not_or]at hi;exact hf i hi.1) hq
 | cond v a b iha ihb=>
  intro Q Q' f w h hc;simp only[CW]at hc ⊢;unfold aH1 at *;split
  ·rename_i hv;simp only[hv]at hc;exact iha _ _ _ _ (fun e f' w' hf hq=>h _ _ _ (fun i hi=>by simp only[wrC,do0,not_or]at hi;exact hf i hi.1) hq) hc
  ·rename_i hv;simp only[hv]at hc;exact ihb _ _ _ _ (fun e f' w' hf hq=>h _ _ _ (fun i hi=>by simp only[wrC,do0,not_or]at hi;exact hf i hi.2) hq) hc
  ·rename_i h1 h2;split at hc
   ·rename_i hv;exact absurd hv h1
   ·rename_i hv;exact absurd hv h2
   ·exact hc
 | block id a ih=>
  intro Q Q' f w h hc;refine ih _ _ _ _ ?_ hc;intro e f' w' hf hq;cases e
  case exit id'=>
   simp only[X8]at hq ⊢;split
   ·rename_i hid;rw[if_pos hid]at hq;exact h _ _ _ hf hq
   ·rename_i hid;rw[if_neg hid]at hq;exact h _ _ _ hf hq
  all_goals exact h _ _ _ hf hq
 | loop a ih=>
  intro Q Q' f w h hc;obtain⟨σ,I,m,s0,h0,hr⟩:=hc;refine⟨σ,fun s f' w'=>I s f' w'∧∀i,i∉wrC a→f' i=f i,m,s0,⟨h0,fun _ _=>rfl⟩,?_⟩;rintro s f' w' ⟨hI,hfr⟩;refine ih _ _ _ _ ?_ (hr s f' w' hI);intro e f2 w2 hf2 hq;cases e
  case normal=>
   obtain⟨s',h1,h2⟩:=hq;exact⟨s',h1,h2,fun i hi=>by rw[hf2 i hi,hfr i hi]⟩
  all_goals exact h _ _ _ (fun i hi=>by rw[hf2 i hi,hfr i hi]) hq
 | region id ops d=>
  intro Q Q' f w h hc;cases d
  case false=>exact cl3 _ _ _ (fun f' w' hf hq=>h _ _ _ hf hq) hc
  case true=>
   obtain⟨S,n,ord,h1,h3,h4⟩:=hc;refine⟨S,n,ord,h1,h3,?_⟩;refine bv4 ord _ _ ?_ h4;intro f' w' hf hq;refine cl3 _ _ _ ?_ hq;intro f2 w2 hf2 hq2;exact h _ _ _ (fun i hi=>by
    rw[hf2 i,hf i hi];intro hm;obtain⟨o,ho,hd⟩:=List.mem_filterMap.1 hm;exact hi (List.mem_filterMap.2 ⟨o,dy9 ho,hd⟩)) hq2
 | exit id=>intro Q Q' f w h hc;exact h _ _ _ (fun _ _=>rfl) hc
 | label l=>intro Q Q' f w h hc;exact h _ _ _ (fun _ _=>rfl) hc
 | ret=>intro Q Q' f w h hc;exact h _ _ _ (fun _ _=>rfl) hc
 | _=>intro Q Q' f w _ hc;exact hc
theorem n9{c:Code}{Q:Exit→Fr→World→Prop}{f:Fr}{w:World}{σ:Type}(keep:List Nat)(I:σ→Fr→World→Prop)(m:σ→Nat)(s0:σ)
  (h0:I s0 f w)
  (hr:∀s f' w',(∀i∈keep,f' i=f i)→I s f' w'→CW P c (ab9 (fun f'' w''=>∃s',m s'<m s∧I s' f'' w'') Q) f' w') (hk:keep.all (fun i=>!(wrC c).contains i)=true:=by decide +kernel):bU1 (CW P c) Q f w:=by
 have hk':∀i∈keep,i∉wrC c:=by
  intro i hi hm;have:=dt1.1 hk i hi;simp[hm]at this
 refine⟨σ,fun s f' w'=>I s f' w'∧∀i∈keep,f' i=f i,m,s0,⟨h0,fun _ _=>rfl⟩,?_⟩;rintro s f' w' ⟨hI,hfr⟩;refine ck4 c _ _ _ _ ?_ (hr s f' w' hfr hI);intro e f2 w2 hf2 hq;cases e
 case normal=>
  obtain⟨s',h1,h2⟩:=hq;exact⟨s',h1,h2,fun i hi=>by rw[hf2 i (hk' i hi),hfr i hi]⟩
 all_goals exact hq
theorem y5{k:Nat}{args:List Value}{w:World}{K:Fr→World→Prop}{f:Fr}{d:Option Nat}{R:Value→World→Prop}
  (h:Calls P k args.toArray w fun e w'=>∃v,e = .returned v∧R v w') (hk:∀v w',R v w'→K (C5 f d v) w') (hb:ah2 P k=true:=by kernel_rfl):as7 P k args w K f d:=
 .inl ⟨hb,h.mono fun _ _ ⟨v,he,hr⟩=>⟨v,he,hk _ _ hr⟩⟩
theorem C2{ops:Array Oper}{K:Fr→World→Prop}{f:Fr}{w:World}(S:World→Prop)(n:Nat)(ord:aA7)
  (h:RnF P ops S ord (Rn P ops (ops.toList.drop n) K) f w.drew) (hok:bI0 ops n ord=true:=by decide +kernel) (hS:S w.drew:=by first|exact p9.refl _|exact rfl):ck8 P ops K f w:=⟨S,n,ord,hok,hS,h⟩
theorem bW5{ops:Array Oper}{K:Fr→World→Prop}{f:Fr}{w:World}(keep:List Nat)(S:World→Prop)(n:Nat)(ord:aA7)(I:Fr→World→Prop)(hok:bI0 ops n ord=true)(hkp:keep.all (fun i=>!(cC8 ops).contains i)=true)(hS:S w.drew)
  (h:RnF P ops S ord I f w.drew) (hk:∀f' w',(∀i∈keep,f' i=f i)→I f' w'→Rn P ops (ops.toList.drop n) K f' w'):ck8 P ops K f w:=by
 refine⟨S,n,ord,hok,hS,bv4 ord _ _ (fun f' w' hf hi=>hk f' w' (fun i hi'=>hf i ?_) hi) h⟩;have:=dt1.1 hkp i hi';intro hm;simp[hm]at this
theorem ai5{ops:Array Oper}{S:World→Prop}{K:Fr→World→Prop}{f:Fr}{w:World}{rs:List Nat}{k:Nat→aA7}(hf:rs.all (fun i=>match ops[i]? with|some o=>!flt o.op|none=>false)=true)
  (h:∀i∈rs,RnF P ops S (.op i (k i)) K f w):RnF P ops S (.fork rs k) K f w:=by
 unfold RnF;intro i hi;have h1:=h i hi;have h2:=dt1.1 hf i hi;unfold RnF at h1;cases ho:ops[i]? with
 | none=>simp[ho]at h2
 | some o=>
  simp only[ho]at h1 h2 ⊢;have h3:flt o.op=false:=by simpa using h2
  cases hg:o.guard with
  | none=>simp only[hg]at h1 ⊢;exact⟨h1,h3⟩
  | some jb=>
   obtain⟨j,b⟩:=jb;simp only[hg]at h1 ⊢;split
   ·rename_i hc;rw[if_pos hc]at h1;exact⟨h1,h3⟩
   ·rename_i hc;rw[if_neg hc]at h1;exact h1
def A9:List Nat→aA7
 | []=>.nil
 | i::l=>.op i (A9 l)
end
def dp0:=@Int.toNat_natCast
def du0:=@List.ext_getElem
def dn7:=@List.length_map
def ds3:=@List.length_range
def dr4:=@List.length_replicate
def dp4:=@List.map_append
def dy3:=@List.mem_iff_getElem?
def do5:=@List.mem_of_getElem?
def dn6:=@List.take_length
def dq1:=@decide_eq_false
theorem L0(n:Int)(h : -9223372036854775808≤n∧n≤9223372036854775807):IntKind.i64.wrap n=n:=IntWalk.i64_in n h
theorem B0(k:Nat)(h:k<4000000000000000000):IntKind.i64.wrap ((k:Int)+1)=((k+1:Nat):Int):=by
 rw[L0 _ (by omega)];rfl
theorem dh2(k:Nat)(h:k<4000000000000000000):IntKind.i64.wrap (k:Int)=(k:Int):=L0 _ (by omega)
theorem dh5(k:Nat):decide ((0:Int)≤(k:Int))=true:=by simp
def E6(P:Program)(t T sz by_:Nat):Bool:=
 (K6 P t==some T)&&(match G3 P T with|some z=>z.cells.size==sz|none=>false)&&(K1 P T==sz)&&(co0 P T==by_)&&decide (0<sz)&&decide (sz≤1000000)
theorem Q0{P:Program}{t T sz by_:Nat}(h:E6 P t T sz by_=true):
  K6 P t=some T∧(∃z,G3 P T=some z∧z.cells.size=sz)∧K1 P T=sz∧co0 P T=by_∧0<sz∧sz≤1000000:=by
 simp only[E6,do6,beq_iff_eq,dq8]at h;obtain⟨⟨⟨⟨⟨h1,h2⟩,h3⟩,h4⟩,h5⟩,h6⟩:=h;refine⟨h1,?_,h3,h4,h5,h6⟩;cases hz:G3 P T with
 | none=>simp[hz]at h2
 | some z=>exact⟨z,rfl,by simpa[hz]using h2⟩
section
variable {P:Program} {w:World} {h:Hp} {t T sz by_:Nat} {v:Value}
theorem push{α:Type}[A3 α]{e:TypeId}(hs:E6 P t T sz by_=true)(hsz:A3.sz α=sz){xs:List α}(ho:A8 h w T v xs){x:Value}{y:α}(hy:A3.enc h x.cells.toList y)
  (hl:xs.length+1≤1000000000000) (hb:(xs.length+1)*by_≤140737488355328) (hw:B4 h (i4 w)) :
  (Instr.buildSlice t 1 #[(0,x)]).run P w = .ok (.slice (some ⟨w.heap.size,0,none⟩) 1 1) (w.alloc (.cells x.cells T)) ∧
  ∃v' w',(Builtin.append_ #[t,t] e #[v,.slice (some ⟨w.heap.size,0,none⟩) 1 1]).run P (w.alloc (.cells x.cells T)) = .ok v' w'∧A8 h w' T v' (xs++[y])∧p9 (A4 v) w w'∧D7 w v v':=by
 obtain⟨h1,⟨z,hz,hzs⟩,h3,h4,h5,h6⟩:=Q0 hs;have hx:x.cells.size=sz:=by have:=A3.len hy;simpa[hsz]using this
 exact⟨aj4 h1 hz (by omega) (by omega) (by rw[hx,h3]),cu1 h1 hz (by rw[h3,hsz]) (by rw[hzs,hsz]) ho hy hl (by rw[h4];exact hb) hw⟩
theorem lit{α:Type}[A3 α](hs:E6 P t T sz by_=true){xs:List Value}{ys:List α}{parts:Array (Nat×Value)}{n:Nat}(hp:parts.toList=(xs.zipIdx 0).map fun p=>(p.2,p.1))
  (he:N0 h (xs.flatMap (·.cells.toList)) ys) (hx:∀x∈xs,x.cells.size=sz) (hn:n=xs.length) (hyl:ys.length=xs.length) (hne:xs≠[]) (hlt:xs.length≤16) (hw:B4 h (i4 w)) :
  ∃v w',(Instr.buildSlice t n parts).run P w = .ok v w'∧A8 h w' T v ys∧o7 w w'∧(∀b,A4 v b→w.heap.size≤b):=by
 obtain⟨h1,⟨z,hz,hzs⟩,h3,h4,h5,h6⟩:=Q0 hs;obtain⟨i,hi,hiz⟩:=z7 hz;have hr:=ap8 (w:=w) h1 (by rw[hi];rfl) hz xs (by rw[h3];exact hx) hne (by omega) (dn4 (Nat.mul_le_mul hlt (show K1 P T≤1000000 by omega)) (by omega)) hp hn;refine⟨_,_,hr,.inr ⟨w.heap.size,n,_,by rw[hn,hyl],aw4 hw (dn9 _),dq7 w _,by omega,by rw[hn];simp only[maxLen];omega,?_,?_⟩,o7.alloc _ _,fun b hb=>by simp[A4,Value.ownBlock]at hb;omega⟩
 ·have:=J8 he;simp only[dw2,this,hyl,hn]
 ·rw[←J8 he];simp only[dn6];exact he
theorem bX1{α:Type}[A3 α]{c:List Value}{y:α}(he:A3.enc h c y):∀n:Nat,N0 h (List.replicate n c).flatten (List.replicate n y)
 | 0=>rfl
 | n+1=>⟨c,(List.replicate n c).flatten,by simp[List.replicate_succ],he,bX1 he n⟩
theorem bD8(z:Array Value)(hz:0<z.size):∀n:Nat,((Array.range (n*z.size)).map fun i=>z[i % z.size]!).toList=(List.replicate n z.toList).flatten
 | 0=>by simp
 | n+1=>by
  have ih:=bD8 z hz n;simp only[Array.toList_map,Array.toList_range]at ih ⊢;rw[dx6,Nat.one_mul,List.range_add,dp4,ih,List.replicate_succ',List.flatten_append]
  congr 1
  simp only[List.map_map,List.flatten_cons,List.flatten_nil,dp6];apply du0
  ·simp
  ·intro i h1 h2;simp only[dn7,ds3]at h1;have:(n*z.size+i) % z.size=i:=by rw[Nat.add_comm,Nat.add_mul_mod_self_right];exact Nat.mod_eq_of_lt h1
   simp[this,h1]
theorem mk{α:Type}[A3 α](hs:E6 P t T sz by_=true){z:Value}(hz:G3 P T=some z){y:α}(he:A3.enc h z.cells.toList y){n:Nat}(hb:by_*n≤281474976710656)(hn:n≤1000000000000)(hw:B4 h (i4 w)):
  ∃v w',(Instr.makeSlice t (.int .i64 n) (.int .i64 n)).run P w = .ok v w'∧A8 h w' T v (List.replicate n y)∧o7 w w'∧(∀b,A4 v b→w.heap.size≤b)∧w'.heap.size=w.heap.size+1:=by
 obtain⟨h1,⟨z',hz',hzs⟩,h3,h4,h5,h6⟩:=Q0 hs;obtain rfl:z=z':=do2 (hz.symm.trans hz');obtain⟨i,hi,hiz⟩:=z7 hz;have hby:i.bytes=by_:=by rw[←h4,at4 hi]
 have hsi:i.size=sz:=by rw[←h3,C6 hi]
 have hl:=A3.len he;have hszα:A3.sz α=sz:=by rw[←hl];simpa using hzs
 have hnw:IntKind.i64.wrap (n:Int)=n:=dh2 n (by omega);have hnb:¬((by_:Int)*(n:Int)>281474976710656):=by
  have:=Int.ofNat_le.2 hb;rw[Int.natCast_mul]at this;omega
 have hpow:(2:Int) ^ 48=281474976710656:=by decide +kernel
 have hroom:∀b w,(askRoom b).run P w = .ok () w:=by
  intro b w;unfold askRoom;split
  ·rfl
  ·rfl
 refine⟨.slice (some ⟨w.heap.size,0,none⟩) n n,w.alloc (.cells ((Array.range (n*sz)).map fun i=>z.cells[i % z.cells.size]!) T),?_,?_,o7.alloc _ _,fun b hb'=>by simp[A4,Value.ownBlock]at hb';omega,by simp⟩
 ·unfold Instr.makeSlice;simp only[do9,F3,L6 h1,do1,asInt,asIntOf,dq0,N2,hi,hby,hnw,hpow];have hc:((decide ((n:Int)<0)||decide ((by_:Int)*(n:Int)>281474976710656))||decide ((n:Int)<0)||decide ((n:Int)>(n:Int)))=false:=by
   rw[dq1 (show ¬((n:Int)<0) by omega),dq1 hnb,dq1 (show ¬((n:Int)>(n:Int)) by omega)];rfl
  simp only[hc,dt7,du7,do9,hroom,do1,dp0,N4 (show(P.info? T).isSome=true by rw[hi];rfl),h3];by_cases h0:n*sz=0
  ·have e0:∀(g:Nat→Value),(Array.range 0).map g=#[]:=fun g=>by simp
   simp only[h0,ds9,e0];simp only[do9,dq0,do1];rfl
  ·simp only[h0,du7,do9,zeroValue,N2,hi,do1,hiz,dq0];rfl
 ·right;refine⟨w.heap.size,n,_,by simp,aw4 hw (dn9 _),dq7 w _,by simp,by simp only[maxLen];omega,by simp[hszα],?_⟩;have:=bD8 z.cells (by omega) n;rw[hzs]at this ⊢;rw[this,dr4,hszα];have hlen:(List.replicate n z.cells.toList).flatten.length=n*sz:=by simp[hzs]
  rw[←hlen,dn6];exact bX1 he n
end
structure Ptr (α:Type) where
 to:α
instance {α:Type} [A3 α]:A3 (Ptr α) where
 sz:=1
 pos:=by omega
 enc h cs x:=∃a es,cs=[.pointer (some a)]∧A3.enc h es x.to∧∀j v,es[j]?=some v→I3 h (a.add j)=some v
 len:=by rintro h cs x ⟨a,es,rfl,_⟩;rfl
 mono:=by
  rintro h k cs x hk ⟨a,es,e,h1,h2⟩;exact⟨a,es,e,A3.mono hk h1,fun j v hv=>F6 hk (h2 j v hv)⟩
 one:=by
  rintro h cs x ⟨a,es,rfl,_⟩ v hv;simp at hv;subst hv;rfl
structure Y7 where
 v:Value
instance:A3 Y7 where
 sz:=1
 pos:=by omega
 enc _ cs x:=cs=[x.v]∧x.v.oneCell'=true
 len h:=by simp[h.1]
 mono _ h:=h
 one h:=by
  intro v hv;rw[h.1]at hv;simp at hv;subst hv;exact h.2
structure K8 {α:Type} [A3 α] (h:Hp) (w:World) (T T':TypeId) (v:Value) (us:List Y7) (xss:List (List α)):Prop where
 outer:A8 h w T v us
 len:us.length=xss.length
 row:∀(i:Nat) (u:Y7) (xs:List α),us[i]?=some u→xss[i]?=some xs→A8 h w T' u.v xs
 apart:∀(i j:Nat) (u u':Y7),i≠j→us[i]?=some u→us[j]?=some u'→∀b,A4 u.v b→¬A4 u'.v b
 off:∀(i:Nat) (u:Y7),us[i]?=some u→∀b,A4 u.v b→¬A4 v b
def L3(v:Value)(us:List Y7)(b:Nat):Prop:=A4 v b∨∃u∈us,A4 u.v b
section
variable {α:Type} [A3 α] {h:Hp} {w:World} {T T':TypeId} {v:Value} {us:List Y7} {xss:List (List α)}
theorem K8.free(hr:K8 h w T T' v us xss){b:Nat}(hb:L3 v us b):h b=none:=by
 rcases hb with hb|⟨u,hu,hb⟩
 ·exact hr.outer.free hb
 ·obtain⟨i,hi⟩:=dy3.1 hu;have hlt:i<xss.length:=by rw[←hr.len];exact(dn0.1 hi).1
  exact(hr.row i u _ hi (dm4 hlt)).free hb
theorem K8.lt(hr:K8 h w T T' v us xss){b:Nat}(hb:L3 v us b):b<w.heap.size:=by
 rcases hb with hb|⟨u,hu,hb⟩
 ·exact hr.outer.lt hb
 ·obtain⟨i,hi⟩:=dy3.1 hu;have hlt:i<xss.length:=by rw[←hr.len];exact(dn0.1 hi).1
  exact(hr.row i u _ hi (dm4 hlt)).lt hb
theorem K8.mod{M:Nat→Prop}{w':World}(hr:K8 h w T T' v us xss)(hm:p9 M w w')(hM:∀b,L3 v us b→¬M b):K8 h w' T T' v us xss:=
 ⟨hr.outer.mod hm fun b hb=>hM b (.inl hb),hr.len,fun i u xs hi hx=>(hr.row i u xs hi hx).mod hm fun b hb=>hM b (.inr ⟨u,do5 hi,hb⟩),hr.apart,hr.off⟩
theorem K8.ext{w':World}(hr:K8 h w T T' v us xss)(hm:o7 w w'):K8 h w' T T' v us xss:=hr.mod hm fun _ _=>id
theorem K8.set{w' w'':World}(hr:K8 h w T T' v us xss){i:Nat}{u:Y7}(hi:us[i]?=some u){u':Value}{xs:List α}
  (hm:p9 (A4 u.v) w w') (ho:A8 h w' T' u' xs) (hv:D7 w u.v u')
  (hm2:p9 (A4 v) w' w'') (ho2:A8 h w'' T v (us.set i ⟨u'⟩)):K8 h w'' T T' v (us.set i ⟨u'⟩) (xss.set i xs):=by
 have hil:i<us.length:=(dn0.1 hi).1;have hnew:∀b,A4 u' b→¬A4 v b:=fun b hb hb2=>by
  rcases hv b hb with hb3|hb3
  ·exact hr.off i u hi b hb3 hb2
  ·have:=hr.outer.lt hb2;omega
 have hget:∀(j:Nat) (x:Y7),(us.set i ⟨u'⟩)[j]?=some x→(j=i∧x=⟨u'⟩)∨(j≠i∧us[j]?=some x):=by
  intro j x hj;rw[List.getElem?_set]at hj;by_cases hji:i=j
  ·subst hji;simp only[ds9,if_pos hil]at hj;exact .inl ⟨rfl,(do2 hj).symm⟩
  ·rw[if_neg hji]at hj;exact .inr ⟨fun e=>hji e.symm,hj⟩
 have hother:∀(j:Nat) (x:Y7),j≠i→us[j]?=some x→∀b,A4 x.v b→¬A4 u' b:=by
  intro j x hji hj b hb hb2;rcases hv b hb2 with hb3|hb3
  ·exact hr.apart j i x u hji hj hi b hb hb3
  ·have hlt:j<xss.length:=by rw[←hr.len];exact(dn0.1 hj).1
   have:=(hr.row j x _ hj (dm4 hlt)).lt hb;omega
 refine⟨ho2,by simp[hr.len],?_,?_,?_⟩
 ·intro j x ys hj hy;rcases hget j x hj with⟨rfl,rfl⟩|⟨hji,hj'⟩
  ·rw[List.getElem?_set,if_pos rfl,if_pos (by rw[←hr.len];exact hil)]at hy;obtain rfl:=do2 hy;exact ho.mod hm2 hnew
  ·rw[List.getElem?_set,if_neg (fun e=>hji e.symm)]at hy;refine((hr.row j x ys hj' hy).mod hm fun b hb hb2=>hr.apart j i x u hji hj' hi b hb hb2).mod hm2 fun b hb=>hr.off j x hj' b hb
 ·intro j k x y hjk hj hk b hb hb2;rcases hget j x hj with⟨rfl,rfl⟩|⟨hji,hj'⟩<;>rcases hget k y hk with⟨rfl,rfl⟩|⟨hki,hk'⟩
  ·exact hjk rfl
  ·exact hother k y hki hk' b hb2 hb
  ·exact hother j x hji hj' b hb hb2
  ·exact hr.apart j k x y hjk hj' hk' b hb hb2
 ·intro j x hj b hb;rcases hget j x hj with⟨rfl,rfl⟩|⟨hji,hj'⟩
  ·exact hnew b hb
  ·exact hr.off j x hj' b hb
theorem K8.ro(hr:K8 h w T T' v us xss)(hw:B4 h (i4 w)):R (i4 w) v xss:=by
 have ho:=hr.outer.rw_ hw;obtain⟨a,n,c,e,h1,h2,es,h3,h4⟩:=ho;refine⟨a,n,c,e,by rw[h1,hr.len],h2,es,?_,h4⟩;have key:∀(us:List Y7) (xss:List (List α)) (es:List Value),us.length=xss.length→N0 (i4 w) es us →
   (∀(i:Nat) (u:Y7) (xs:List α),us[i]?=some u→xss[i]?=some xs→R (i4 w) u.v xs)→N0 (i4 w) es xss:=by
  intro us
  induction us with
  | nil=>
   intro xss es hl he _;have:xss=[]:=List.eq_nil_of_length_eq_zero hl.symm;subst this;exact he
  | cons u us ih=>
   intro xss es hl he hx;cases xss with
   | nil=>simp at hl
   | cons xs xss=>
    obtain⟨c1,c2,rfl,⟨hc1,_⟩,hc2⟩:=he;subst hc1;exact⟨[u.v],c2,rfl,hx 0 u xs rfl rfl,ih xss c2 (by simpa using hl) hc2 fun i u' xs' h5 h6=>hx (i+1) u' xs' (by simpa using h5) (by simpa using h6)⟩
 exact key us xss es hr.len h3 fun i u xs hi hx=>(hr.row i u xs hi hx).rw_ hw
end
section
variable {P:Program} {w:World} {h:Hp} {t T:TypeId} {v:Value}
theorem bz6(w:World)(z cs:Array Value)(T:TypeId):(w.alloc (.cells z T)).setRow w.heap.size cs=w.alloc (.cells cs T):=by
 unfold World.setRow World.alloc
 congr 1
 apply Array.ext
 ·simp
 ·intro i h1 h2;simp only[Array.getElem_modify];by_cases hi:w.heap.size=i
  ·subst hi;simp
  ·rw[if_neg hi];have:i<w.heap.size:=by simp at h2;omega
   simp[Array.getElem_push,this]
theorem aN3{z:Value}(hz:G3 P T=some z)(hs:z.cells.size=K1 P T){cs:Array Value}(hc:cs.size=K1 P T)(h1:∀u∈cs.toList,u.oneCell'=true):
  (Instr.alloc T true (.tuple #[])).run P w = .ok (.pointer (some ⟨w.heap.size,0,none⟩)) (w.alloc (.cells z.cells T)) ∧
  (Instr.storeAt T (.pointer (some ⟨w.heap.size,0,none⟩)) (.agg cs)).run P (w.alloc (.cells z.cells T)) = .ok () (w.alloc (.cells cs T)):=by
 obtain⟨i,hi,hiz⟩:=z7 hz;constructor
 ·unfold Instr.alloc zeroValue;simp only[do9,N2,hi,hiz,dq0,do1];rfl
 ·have hst:=run_storeCells_from (P:=P) w.heap.size T cs.toList 0 z.cells (w.alloc (.cells z.cells T)) (dq7 w _) (by simp[hc,hs]) h1;simp only[dy1,dx1,Array.toArray_toList]at hst;unfold Instr.storeAt storeVar;simp only[Instr.sureAddr,do9,dq0,do1,sizeOf,N2,hi,Value.cells];rw[C6 hi]at hc;simp only[hc,ne_eq,not_true_eq_false,du7];rw[←bz6 w z.cells cs T];exact hst
theorem co5{cs:Array Value}{i:Nat}{u:Value}(hu:cs[i]?=some u):(w.alloc (.cells cs T)).cell? ⟨w.heap.size,i,none⟩=some u:=by
 rw[dy2];exact hu
theorem cs3{cs:Array Value}{i:Nat}{u:Value}(hu:cs[i]?=some u)(ht:H9 P t=false):(Instr.loadAt t (.pointer (some ⟨w.heap.size,i,none⟩))).run P (w.alloc (.cells cs T)) = .ok u (w.alloc (.cells cs T)):=
 R9 ht (co5 hu)
theorem bY1{xs:List (Int×Int)}(hr:R h v xs)(hw:B4 h (i4 w)){k:Nat}{x:Int×Int}(hk:xs[k]?=some x)(ht:H9 P t=true)(hu:(P.underlying t).isSome=true)(hi:(P.info? t).isSome=true)(hs:K1 P t=2):
  (Instr.loadAt t (.pointer (some (G9 v (k*2))))).run P w = .ok (.agg #[.int .i64 x.1,.int .i64 x.2]) w:=by
 obtain⟨_,es,he,hc⟩:=hr.get hk;obtain⟨c1,c2,rfl,h1,h2⟩:=he;have h1':c1=[.int .i64 x.1]:=h1;have h2':c2=[.int .i64 x.2]:=h2;subst h1' h2';exact bg4 (cs:=[.int .i64 x.1,.int .i64 x.2]) ht hu hi hs fun j u hj=>F6 hw (hc j u hj)
theorem add_lit(b o k:Nat):(⟨b,o,none⟩:Addr).add k=⟨b,o+k,none⟩:=by unfold Addr.add;split<;>simp_all
theorem R.row{α:Type}[A3 α]{xss:List (List α)}(hr:R h v xss){k:Nat}{x:List α}(hk:xss[k]?=some x):∃u,R h u x∧I3 h (G9 v k)=some u:=by
 obtain⟨_,es,he,hc⟩:=hr.get hk;have hl:es.length=1:=A3.len he
 match es,hl with
 | [u],_=>
  have:=hc 0 u rfl;rw[J9]at this;have h1:(k*A3.sz (List α))=k:=dw3 k;rw[h1]at this;exact⟨u,he,this⟩
theorem F9{a:Addr}{u:Value}(hc:I3 h a=some u)(hw:B4 h (i4 w))(ht:H9 P t=false):(Instr.loadAt t (.pointer (some a))).run P w = .ok u w:=
 R9 ht (F6 hw hc)
theorem A8.ext2{α:Type}[A3 α]{w0 w2:World}{xs:List α}(ho:A8 (i4 w0) w T v xs)(hx:o7 w0 w)(hm:p9 (A4 v) w w2):o7 w0 w2:=
 p9.ext_of hx hm fun b hb=>by
  rcases dq4 b w0.heap.size with hlt|hge
  ·have:=ho.free hb;simp[i4,hlt]at this
  ·exact hge
theorem aS3{α:Type}[I6 α]{k:Hp}:∀{xs:List α} {cs:List Value},N0 k cs xs→N0 h cs xs
 | [],_,e=>e
 | _::_,_,⟨c1,c2,e,h1,h2⟩=>⟨c1,c2,e,h1,aS3 h2⟩
theorem A8.down{α:Type}[I6 α]{k:Hp}{xs:List α}(ho:A8 k w T v xs)(hk:B4 h k):A8 h w T v xs:=by
 rcases ho with hn|⟨b,c,cur,rfl,h1,h2,h3,h4,h5,h6⟩
 ·exact .inl hn
 ·refine .inr ⟨b,c,cur,rfl,?_,h2,h3,h4,h5,aS3 h6⟩;cases e:h b with
  | none=>rfl
  | some o=>rw[hk b o e]at h1;cases h1
theorem A8.back{α:Type}[I6 α]{w0 w1:World}{xs:List α}(ho:A8 (i4 w1) w T v xs)(hx:o7 w0 w1):A8 (i4 w0) w T v xs:=ho.down (b7 hx)
end
open Classical in
noncomputable def ai2 (w:World) (v:Value):Hp:=fun b=>if A4 v b then none else w.heap[b]?
theorem at7{w:World}{v:Value}{b:Nat}(h:A4 v b):ai2 w v b=none:=by unfold ai2;rw[if_pos h]
theorem W4{w:World}{v:Value}{b:Nat}(h:¬A4 v b):ai2 w v b=w.heap[b]?:=by unfold ai2;rw[if_neg h]
theorem aM7(w:World)(v:Value):B4 (ai2 w v) (i4 w):=fun b o e=>by
 by_cases h:A4 v b
 ·rw[at7 h]at e;cases e
 ·rw[W4 h]at e;exact e
theorem cf9{w w':World}{v v':Value}(hm:p9 (A4 v) w w')(hv:D7 w v v'):B4 (ai2 w v) (ai2 w' v'):=fun b o e=>by
 by_cases h:A4 v b
 ·rw[at7 h]at e;cases e
 ·rw[W4 h]at e;have hb:b<w.heap.size:=(dn1.1 e).1;have h':¬A4 v' b:=fun hb'=>by
   rcases hv b hb' with k|k
   ·exact h k
   ·omega
  rw[W4 h',hm.block b hb h];exact e
theorem cf8{w w':World}{v:Value}(hx:o7 w w'):B4 (ai2 w v) (ai2 w' v):=fun b o e=>by
 by_cases h:A4 v b
 ·rw[at7 h]at e;cases e
 ·rw[W4 h]at e;have hb:b<w.heap.size:=(dn1.1 e).1;rw[W4 h,hx.block b hb id];exact e
section
variable {α:Type} [A3 α] {h:Hp} {w:World} {T:TypeId} {v:Value} {xs:List α}
theorem A8.rebase(ho:A8 h w T v xs)(hw:B4 h (i4 w)):A8 (ai2 w v) w T v xs:=by
 refine ho.up (fun b o e=>?_) fun b hb=>at7 hb;have hn:¬A4 v b:=fun hb=>by rw[ho.free hb]at e;cases e
 rw[W4 hn];exact hw b o e
theorem A8.but(ho:A8 (ai2 w v) w T v xs){w':World}(hx:o7 w w'):A8 (ai2 w' v) w' T v xs:=
 (ho.ext hx).up (cf8 hx) fun b hb=>at7 hb
theorem A8.beside{β:Type}[A3 β]{k:Hp}{T':TypeId}{u:Value}{ys:List β}(hu:A8 k w T' u ys)(hk:B4 k (ai2 w v))(hd:∀b,A4 u b→¬A4 v b):R (ai2 w v) u ys:=
 hu.ro hk fun b hb=>W4 (hd b hb)
end
theorem K8.write{α:Type}[A3 α]{h:Hp}{w w':World}{T T':TypeId}{v:Value}{us:List Y7}{xss:List (List α)}(hr:K8 h w T T' v us xss){i:Nat}{u:Y7}(hi:us[i]?=some u){xs:List α}
  (hm:p9 (A4 u.v) w w') (ho:A8 h w' T' u.v xs):K8 h w' T T' v us (xss.set i xs):=by
 have hset:us.set i ⟨u.v⟩=us:=by
  obtain⟨hl,e⟩:=dn0.1 hi;apply du0 (by simp);intro j h1 h2;rw[List.getElem_set];split
  ·rename_i e2;subst e2;exact e.symm
  ·rfl
 have:=hr.set (u':=u.v) (xs:=xs) hi hm ho (fun b hb=>.inl hb) (p9.refl _) (by
  rw[hset];exact hr.outer.mod hm fun b hb hb2=>hr.off i u hi b hb2 hb)
 rw[hset]at this;exact this
open Classical in
noncomputable def B6 (w:World) (N:Nat→Prop):Hp:=fun b=>if N b then none else w.heap[b]?
theorem H1{w:World}{N:Nat→Prop}{b:Nat}(h:N b):B6 w N b=none:=by unfold B6;rw[if_pos h]
theorem C9{w:World}{N:Nat→Prop}{b:Nat}(h:¬N b):B6 w N b=w.heap[b]?:=by unfold B6;rw[if_neg h]
theorem B8(w:World)(N:Nat→Prop):B4 (B6 w N) (i4 w):=fun b o e=>by
 by_cases h:N b
 ·rw[H1 h]at e;cases e
 ·rw[C9 h]at e;exact e
theorem G4{w w':World}{N N' M:Nat→Prop}(hm:p9 M w w')(hM:∀b,M b→N b)(hN:∀b,N' b→N b∨w.heap.size≤b):B4 (B6 w N) (B6 w' N'):=fun b o e=>by
 by_cases h:N b
 ·rw[H1 h]at e;cases e
 ·rw[C9 h]at e;have hb:b<w.heap.size:=(dn1.1 e).1;have h':¬N' b:=fun hb'=>by
   rcases hN b hb' with k|k
   ·exact h k
   ·omega
  rw[C9 h',hm.block b hb fun hh=>h (hM b hh)];exact e
theorem aE9{w0 w:World}{N:Nat→Prop}(hx:o7 w0 w)(hN:∀b,N b→w0.heap.size≤b):B4 (i4 w0) (B6 w N):=fun b o e=>by
 have hb:b<w0.heap.size:=(dn1.1 (show w0.heap[b]?=some o from e)).1;have hn:¬N b:=fun h=>by have:=hN b h;omega
 rw[C9 hn];exact b7 hx b o e
section
variable {α:Type} [A3 α] {h:Hp} {w:World} {T:TypeId} {v:Value} {xs:List α} {N:Nat→Prop}
theorem A8.noMod{w':World}{N' M:Nat→Prop}(ho:A8 (B6 w N) w T v xs)(hm:p9 M w w')(hM:∀b,M b→N b)(hd:∀b,A4 v b→¬M b)(hN:∀b,N' b→N b∨w.heap.size≤b)(hv:∀b,A4 v b→N' b):A8 (B6 w' N') w' T v xs:=
 (ho.mod hm hd).up (G4 hm hM hN) fun b hb=>H1 (hv b hb)
theorem A8.roNo{k:Hp}(hu:A8 k w T v xs)(hk:B4 k (B6 w N))(hd:∀b,A4 v b→¬N b):R (B6 w N) v xs:=hu.ro hk fun b hb=>C9 (hd b hb)
theorem A8.reNo(ho:A8 h w T v xs)(hh:B4 h (B6 w N))(hv:∀b,A4 v b→N b):A8 (B6 w N) w T v xs:=ho.up hh fun b hb=>H1 (hv b hb)
end
def dz5:=@Bool.eq_iff_iff
def dt6:=@Iff.rfl
def dz6:=@List.cons.injEq
def dx5:=@List.cons_append
def do3:=@List.mem_cons
def dr8:=@List.not_mem_nil
def dy0:=@or_false
structure A7 where
 b:List UInt8
 deriving DecidableEq
instance:Inhabited A7:=⟨⟨[]⟩⟩
def ofA(b:Array UInt8):A7:=⟨b.toList⟩
abbrev e0:A7:=ofA #[]
def o9(s:A7):Value:=.string ⟨s.b.toArray⟩
instance:I6 A7:=⟨o9,fun _=>rfl⟩
theorem an5(l:List UInt8):(⟨l.toArray⟩:ByteArray).toList=l:=by
 rw[ByteArray.toList_eq]
def U9(a b:A7):Bool:=Op.bytesLess a.b b.b
theorem bc0(a b:A7):(a.b==b.b)=decide (a=b):=by
 refine dz5.2 ?_;rw[beq_iff_eq,decide_eq_true_iff];cases a;cases b;simp
section
variable {P:Program} {t:TypeId}
theorem bV0{a b:A7}:B5 P .eql t (o9 a) (o9 b)=some (.bool (decide (a=b))):=by
 simp only[o9,B5,an5,bc0]
theorem cB9{a b:A7}:B5 P .neq t (o9 a) (o9 b)=some (.bool (!decide (a=b))):=by
 simp only[o9,B5,an5,bc0]
theorem de0{a b:A7}:B5 P .lss t (o9 a) (o9 b)=some (.bool (U9 a b)):=by
 simp only[o9,B5,an5,U9]
theorem cB8{a b:A7}:B5 P .gtr t (o9 a) (o9 b)=some (.bool !(U9 a b||decide (a=b))):=by
 simp only[o9,B5,an5,U9,bc0]
theorem cW0{s:A7}(h:bA0 P t=true)(he:K6 P t=none):P8 P t (o9 s)=some (.int .i64 (s.b.length:Nat)):=by
 simp only[P8,he,Option.isSome_none,dt7,du7,o9,h,ds9];rfl
end
def bj2(h:Hp)(v:Value)(n:Nat)(E:List Value→Prop):Prop:=∃a m c es,v = .slice a m c∧m=n∧m≤c∧E es∧∀j u,es[j]?=some u→∃ad,a=some ad∧I3 h (ad.add j)=some u
theorem aK3{h k:Hp}(hk:B4 h k){v:Value}{n:Nat}{E F:List Value→Prop}(hE:∀es,E es→F es):bj2 h v n E→bj2 k v n F:=by
 rintro⟨a,m,c,es,e1,e2,e3,e4,e5⟩;refine⟨a,m,c,es,e1,e2,e3,hE _ e4,fun j u hj=>?_⟩;obtain⟨ad,h1,h2⟩:=e5 j u hj;exact⟨ad,h1,F6 hk h2⟩
theorem aU3{h:Hp}{v:Value}{n:Nat}{E:List Value→Prop}:bj2 h v n E→v.oneCell'=true:=by
 rintro⟨a,m,c,es,rfl,_⟩;rfl
theorem bU4{α:Type}[A3 α]{h:Hp}{v:Value}{xs:List α}:R h v xs↔bj2 h v xs.length (fun es=>N0 h es xs):=by
 constructor
 ·rintro⟨a,n,c,e,h1,h2,es,h3,h4⟩;simp only[dz6,and_true]at e;exact⟨a,n,c,es,e,h1,h2,h3,h4⟩
 ·rintro⟨a,n,c,es,rfl,h1,h2,h3,h4⟩;exact⟨a,n,c,rfl,h1,h2,es,h3,h4⟩
structure bc3 (α:Type) where
 n:Nat
 pos:0<n
 cells:α→List Value
 len:∀x,(cells x).length=n
 one:∀x,∀v∈cells x,v.oneCell'=true
abbrev bc3.rep{α:Type}(F:bc3 α):A3 α where
 sz:=F.n
 pos:=F.pos
 enc _ cs x:=cs=F.cells x
 len h:=by rw[h];exact F.len _
 mono _ h:=h
 one h:=by intro v hv;rw[h]at hv;exact F.one _ v hv
structure Pa where
 name:A7
 ref:Bool
 deriving DecidableEq
def Pa.cells(p:Pa):List Value:=[o9 p.name,.bool p.ref]
instance:A3 Pa:=bc3.rep ⟨2,by omega,Pa.cells,fun _=>rfl,fun x v hv=>by simp[Pa.cells]at hv;rcases hv with rfl|rfl<;>rfl⟩
structure Sp where
 src:Int
 dst:Int
 kind:Int
 deriving DecidableEq
def Sp.cells(p:Sp):List Value:=[.int .i64 p.src,.int .i64 p.dst,.int .i64 p.kind]
instance:A3 Sp:=bc3.rep ⟨3,by omega,Sp.cells,fun _=>rfl,fun x v hv=>by simp[Sp.cells]at hv;rcases hv with rfl|rfl|rfl<;>rfl⟩
structure Fw where
 src:Int
 dst:Int
 var:A7
 deriving DecidableEq
def Fw.cells(p:Fw):List Value:=[.int .i64 p.src,.int .i64 p.dst,o9 p.var]
instance:A3 Fw:=bc3.rep ⟨3,by omega,Fw.cells,fun _=>rfl,fun x v hv=>by simp[Fw.cells]at hv;rcases hv with rfl|rfl|rfl<;>rfl⟩
structure Vx where
 proc:A7
 kind:Int
 id:Int
 slot:A7
 deriving DecidableEq
def Vx.cells(p:Vx):List Value:=[o9 p.proc,.int .i64 p.kind,.int .i64 p.id,o9 p.slot]
instance:A3 Vx:=bc3.rep ⟨4,by omega,Vx.cells,fun _=>rfl,fun x v hv=>by simp[Vx.cells]at hv;rcases hv with rfl|rfl|rfl|rfl<;>rfl⟩
structure Eg where
 src:Vx
 dst:Vx
 kind:Int
 deriving DecidableEq
def Eg.cells(p:Eg):List Value:=p.src.cells++p.dst.cells++[.int .i64 p.kind]
instance:A3 Eg:=bc3.rep ⟨9,by omega,Eg.cells,fun _=>rfl,fun x v hv=>by simp[Eg.cells,Vx.cells]at hv;rcases hv with rfl|rfl|rfl|rfl|rfl|rfl|rfl|rfl|rfl<;>rfl⟩
inductive Ex where
 | mk (op n:Int) (name:A7) (kids:List Ex)
namespace Ex
def op:Ex→Int | .mk a _ _ _=>a
def n:Ex→Int | .mk _ a _ _=>a
def name:Ex→A7 | .mk _ _ a _=>a
def kids:Ex→List Ex | .mk _ _ _ a=>a
end Ex
mutual
def aL8(h:Hp):Ex→List Value→Prop
 | .mk op n name kids,cs=>∃vk,cs=[.int .i64 op,.int .i64 n,o9 name,vk]∧bj2 h vk kids.length (as3 h kids)
def as3(h:Hp):List Ex→List Value→Prop
 | [],cs=>cs=[]
 | x::xs,cs=>∃c1 c2,cs=c1++c2∧aL8 h x c1∧as3 h xs c2
end
mutual
theorem bd9{h k:Hp}(hk:B4 h k):∀(x:Ex) (cs:List Value),aL8 h x cs→aL8 k x cs
 | .mk op n name kids,cs,e=>by
  simp only[aL8]at *;obtain⟨vk,e1,e2⟩:=e;exact⟨vk,e1,aK3 hk (fun es=>aW5 hk kids es) e2⟩
theorem aW5{h k:Hp}(hk:B4 h k):∀(x:List Ex) (cs:List Value),as3 h x cs→as3 k x cs
 | [],cs,e=>by simpa only[as3]using e
 | x::xs,cs,e=>by
  simp only[as3]at *;obtain⟨c1,c2,e1,e2,e3⟩:=e;exact⟨c1,c2,e1,bd9 hk x c1 e2,aW5 hk xs c2 e3⟩
end
instance:A3 Ex where
 sz:=4
 pos:=by omega
 enc h cs x:=aL8 h x cs
 len:=by
  rintro h cs ⟨op,n,name,kids⟩ e;simp only[aL8]at e;obtain⟨vk,rfl,_⟩:=e;rfl
 mono hk:=bd9 hk _ _
 one:=by
  rintro h cs ⟨op,n,name,kids⟩ e v hv;simp only[aL8]at e;obtain⟨vk,rfl,h2⟩:=e;simp only[do3,dr8,dy0]at hv;rcases hv with rfl|rfl|rfl|rfl
  ·rfl
  ·rfl
  ·rfl
  ·exact aU3 h2
theorem be0{h:Hp}:∀(xs:List Ex) (es:List Value),as3 h xs es↔N0 h es xs
 | [],es=>by simp only[as3,N0]
 | x::xs,es=>by
  simp only[as3,N0,be0 xs];exact dt6
theorem bw7{h:Hp}{cs:List Value}{x:Ex}:A3.enc h cs x↔∃vk,cs=[.int .i64 x.op,.int .i64 x.n,o9 x.name,vk]∧R h vk x.kids:=by
 obtain⟨op,n,name,kids⟩:=x;show aL8 h _ cs↔_;simp only[aL8,bU4,Ex.op,Ex.n,Ex.name,Ex.kids];have:as3 h kids=fun es=>N0 h es kids:=by funext es;exact propext (be0 kids es)
 rw[this]
structure Ar where
 ref:Bool
 name:A7
 x:Ex
instance:A3 Ar where
 sz:=6
 pos:=by omega
 enc h cs a:=∃c,cs = .bool a.ref::o9 a.name::c∧A3.enc h c a.x
 len:=by rintro h cs a ⟨c,rfl,h2⟩;have:=A3.len h2;simp[this];rfl
 mono:=by rintro h k cs a hk ⟨c,rfl,h2⟩;exact⟨c,rfl,A3.mono hk h2⟩
 one:=by
  rintro h cs a ⟨c,rfl,h2⟩ v hv;simp only[do3]at hv;rcases hv with rfl|rfl|hv
  ·rfl
  ·rfl
  ·exact A3.one h2 v hv
inductive St where
 | mk (id kind:Int) (labels:List A7) (name proc:A7) (x:Ex) (has:Bool) (args:List Ar) (thn els:List St)
namespace St
def id:St→Int | .mk a _ _ _ _ _ _ _ _ _=>a
def kind:St→Int | .mk _ a _ _ _ _ _ _ _ _=>a
def labels:St→List A7 | .mk _ _ a _ _ _ _ _ _ _=>a
def name:St→A7 | .mk _ _ _ a _ _ _ _ _ _=>a
def proc:St→A7 | .mk _ _ _ _ a _ _ _ _ _=>a
def x:St→Ex | .mk _ _ _ _ _ a _ _ _ _=>a
def has:St→Bool | .mk _ _ _ _ _ _ a _ _ _=>a
def args:St→List Ar | .mk _ _ _ _ _ _ _ a _ _=>a
def thn:St→List St | .mk _ _ _ _ _ _ _ _ a _=>a
def els:St→List St | .mk _ _ _ _ _ _ _ _ _ a=>a
end St
mutual
def aL9(h:Hp):St→List Value→Prop
 | .mk id kind labels name proc x has args thn els,cs=>∃vl cx va vt ve,cs = .int .i64 id :: .int .i64 kind::vl::o9 name::o9 proc::cx++[.bool has,va,vt,ve] ∧
   R h vl labels∧A3.enc h cx x∧R h va args∧bj2 h vt thn.length (aj2 h thn)∧bj2 h ve els.length (aj2 h els)
def aj2(h:Hp):List St→List Value→Prop
 | [],cs=>cs=[]
 | x::xs,cs=>∃c1 c2,cs=c1++c2∧aL9 h x c1∧aj2 h xs c2
end
mutual
theorem be1{h k:Hp}(hk:B4 h k):∀(x:St) (cs:List Value),aL9 h x cs→aL9 k x cs
 | .mk id kind labels name proc x has args thn els,cs,e=>by
  simp only[aL9]at *;obtain⟨vl,cx,va,vt,ve,e1,e2,e3,e4,e5,e6⟩:=e;exact⟨vl,cx,va,vt,ve,e1,A3.mono hk e2,A3.mono hk e3,A3.mono hk e4,aK3 hk (fun es=>aB4 hk thn es) e5,aK3 hk (fun es=>aB4 hk els es) e6⟩
theorem aB4{h k:Hp}(hk:B4 h k):∀(x:List St) (cs:List Value),aj2 h x cs→aj2 k x cs
 | [],cs,e=>by simpa only[aj2]using e
 | x::xs,cs,e=>by
  simp only[aj2]at *;obtain⟨c1,c2,e1,e2,e3⟩:=e;exact⟨c1,c2,e1,be1 hk x c1 e2,aB4 hk xs c2 e3⟩
end
theorem X3{α:Type}[A3 α]{h:Hp}{v:Value}{xs:α}(hr:R h v xs):v.oneCell'=true:=A3.one hr v (by simp)
instance:A3 St where
 sz:=13
 pos:=by omega
 enc h cs x:=aL9 h x cs
 len:=by
  rintro h cs ⟨id,kind,labels,name,proc,x,has,args,thn,els⟩ e;simp only[aL9]at e;obtain⟨vl,cx,va,vt,ve,rfl,h2,h3,_⟩:=e;have h4:cx.length=4:=A3.len h3;simp[h4]
 mono hk:=be1 hk _ _
 one:=by
  rintro h cs ⟨id,kind,labels,name,proc,x,has,args,thn,els⟩ e v hv;simp only[aL9]at e;obtain⟨vl,cx,va,vt,ve,rfl,h2,h3,h4,h5,h6⟩:=e;simp only[dx5,do3,do0,dr8,dy0]at hv;rcases hv with rfl|rfl|rfl|rfl|rfl|hv|rfl|rfl|rfl|rfl
  ·rfl
  ·rfl
  ·exact X3 h2
  ·rfl
  ·rfl
  ·exact A3.one h3 v hv
  ·rfl
  ·exact X3 h4
  ·exact aU3 h5
  ·exact aU3 h6
theorem aJ4{h:Hp}:∀(xs:List St) (es:List Value),aj2 h xs es↔N0 h es xs
 | [],es=>by simp only[aj2,N0]
 | x::xs,es=>by
  simp only[aj2,N0,aJ4 xs];exact dt6
theorem bw8{h:Hp}{cs:List Value}{s:St}:A3.enc h cs s↔∃vl cx va vt ve,cs = .int .i64 s.id :: .int .i64 s.kind::vl::o9 s.name::o9 s.proc::cx++[.bool s.has,va,vt,ve] ∧
   R h vl s.labels∧A3.enc h cx s.x∧R h va s.args∧R h vt s.thn∧R h ve s.els:=by
 obtain⟨id,kind,labels,name,proc,x,has,args,thn,els⟩:=s;show aL9 h _ cs↔_;have h1:aj2 h thn=fun es=>N0 h es thn:=by funext es;exact propext (aJ4 thn es)
 have h2:aj2 h els=fun es=>N0 h es els:=by funext es;exact propext (aJ4 els es)
 simp only[aL9,bU4,h1,h2,St.id,St.kind,St.labels,St.name,St.proc,St.x,St.has,St.args,St.thn,St.els]
structure Pr where
 name:A7
 params:List Pa
 vars:List A7
 body:List St
 fin:List A7
instance:A3 Pr where
 sz:=5
 pos:=by omega
 enc h cs p:=∃v1 v2 v3 v4,cs=[o9 p.name,v1,v2,v3,v4]∧R h v1 p.params∧R h v2 p.vars∧R h v3 p.body∧R h v4 p.fin
 len:=by rintro h cs a ⟨v1,v2,v3,v4,rfl,_⟩;rfl
 mono:=by rintro h k cs a hk ⟨v1,v2,v3,v4,rfl,h1,h2,h3,h4⟩;exact⟨v1,v2,v3,v4,rfl,A3.mono hk h1,A3.mono hk h2,A3.mono hk h3,A3.mono hk h4⟩
 one:=by
  rintro h cs a ⟨v1,v2,v3,v4,rfl,h1,h2,h3,h4⟩ v hv;simp only[do3,dr8,dy0]at hv;rcases hv with rfl|rfl|rfl|rfl|rfl
  ·rfl
  ·exact X3 h1
  ·exact X3 h2
  ·exact X3 h3
  ·exact X3 h4
structure Pg where
 globals:List A7
 procs:List Pr
instance:A3 Pg where
 sz:=2
 pos:=by omega
 enc h cs p:=∃v1 v2,cs=[v1,v2]∧R h v1 p.globals∧R h v2 p.procs
 len:=by rintro h cs a ⟨v1,v2,rfl,_⟩;rfl
 mono:=by rintro h k cs a hk ⟨v1,v2,rfl,h1,h2⟩;exact⟨v1,v2,rfl,A3.mono hk h1,A3.mono hk h2⟩
 one:=by
  rintro h cs a ⟨v1,v2,rfl,h1,h2⟩ v hv;simp only[do3,dr8,dy0]at hv;rcases hv with rfl|rfl
  ·exact X3 h1
  ·exact X3 h2
structure It where
 s:St
 proc:Int
 up:Int
 next:Int
 loop:Int
instance:A3 It where
 sz:=17
 pos:=by omega
 enc h cs p:=∃c,cs=c++[.int .i64 p.proc,.int .i64 p.up,.int .i64 p.next,.int .i64 p.loop]∧A3.enc h c p.s
 len:=by rintro h cs a ⟨c,rfl,h1⟩;have h4:c.length=13:=A3.len h1;simp[h4]
 mono:=by rintro h k cs a hk ⟨c,rfl,h1⟩;exact⟨c,rfl,A3.mono hk h1⟩
 one:=by
  rintro h cs a ⟨c,rfl,h1⟩ v hv;simp only[do0,do3,dr8,dy0]at hv;rcases hv with hv|rfl|rfl|rfl|rfl
  ·exact A3.one h1 v hv
  all_goals rfl
structure Sh where
 p:Pg
 l:List It
 lo:List Int
 hi:List Int
instance:A3 Sh where
 sz:=5
 pos:=by omega
 enc h cs p:=∃c v1 v2 v3,cs=c++[v1,v2,v3]∧A3.enc h c p.p∧R h v1 p.l∧R h v2 p.lo∧R h v3 p.hi
 len:=by rintro h cs a ⟨c,v1,v2,v3,rfl,h1,_⟩;have h4:c.length=2:=A3.len h1;simp[h4]
 mono:=by rintro h k cs a hk ⟨c,v1,v2,v3,rfl,h0,h1,h2,h3⟩;exact⟨c,v1,v2,v3,rfl,A3.mono hk h0,A3.mono hk h1,A3.mono hk h2,A3.mono hk h3⟩
 one:=by
  rintro h cs a ⟨c,v1,v2,v3,rfl,h0,h1,h2,h3⟩ v hv;simp only[do0,do3,dr8,dy0]at hv;rcases hv with hv|rfl|rfl|rfl
  ·exact A3.one h0 v hv
  ·exact X3 h1
  ·exact X3 h2
  ·exact X3 h3
def SV{α:Type}[A3 α](h:Hp)(v:Value)(x:α):Prop:=∃cs,v = .agg (List.toArray cs)∧A3.enc h cs x
section
variable {α:Type} [A3 α] {h k:Hp} {v:Value} {x:α} {P:Program} {t T:TypeId} {w:World}
theorem SV.mono(hk:B4 h k):SV h v x→SV k v x:=fun⟨cs,e,h1⟩=>⟨cs,e,A3.mono hk h1⟩
theorem SV.enc:SV h v x→A3.enc h v.cells.toList x:=by
 rintro⟨cs,rfl,h1⟩;simpa[Value.cells]using h1
theorem F0{xs:List α}(hr:R h v xs)(hw:B4 h (i4 w)){k:Nat}(hk:xs[k]?=some x)(ht:H9 P t=true)(hu:(P.underlying t).isSome=true)(hi:(P.info? t).isSome=true)(hs:K1 P t=A3.sz α):
  ∃sv,SV h sv x∧(Instr.loadAt t (.pointer (some (G9 v (k*K1 P t))))).run P w = .ok sv w:=by
 obtain⟨_,es,he,hc⟩:=hr.get hk;refine⟨.agg (List.toArray es),⟨es,rfl,he⟩,?_⟩;rw[hs];exact bg4 (cs:=es) ht hu hi (by rw[hs,A3.len he]) fun j u hj=>F6 hw (hc j u hj)
end
abbrev N6(P:Program)(w:World)(t:TypeId)(a:Addr)(v:Value):Prop:=(Instr.loadAt t (.pointer (some a))).run P w = .ok v w
abbrev N7(P:Program)(S:World→Prop)(t:TypeId)(a:Addr)(v:Value):Prop:=∀K f d w,I2 P S (Instr.loadAt t (.pointer (some a))) K f d w=K (C5 f d v) w
def At{α:Type}[A3 α](h:Hp)(a:Addr)(x:α):Prop:=∃es,A3.enc h es x∧∀j u,es[j]?=some u→I3 h (a.add j)=some u
section
variable {α:Type} [A3 α] {h k:Hp} {v:Value} {x:α} {P:Program} {t T:TypeId} {w:World} {a:Addr}
theorem At.mono(hk:B4 h k):At h a x→At k a x:=fun⟨es,h1,h2⟩=>⟨es,A3.mono hk h1,fun j u hj=>F6 hk (h2 j u hj)⟩
theorem R.at_{xs:List α}(hr:R h v xs){i:Nat}(hi:xs[i]?=some x):At h (G9 v (i*A3.sz α)) x:=(hr.get hi).2
theorem Ptr.at_{p:Ptr α}(hp:R h v p):∃a,v = .pointer (some a)∧At h a p.to:=by
 obtain⟨a,es,e,h1,h2⟩:=hp;simp only[dz6,and_true]at e;exact⟨a,e,es,h1,h2⟩
theorem At.ptr(ha:At h a x):R h (.pointer (some a)) (⟨x⟩:Ptr α):=by
 obtain⟨es,h1,h2⟩:=ha;exact⟨a,es,rfl,h1,h2⟩
theorem At.sv(ha:At h a x)(ht:H9 P t=true)(hu:(P.underlying t).isSome=true)(hi:(P.info? t).isSome=true)(hs:K1 P t=A3.sz α):
  ∃sv,SV h sv x∧∀w,B4 h (i4 w)→(Instr.loadAt t (.pointer (some a))).run P w = .ok sv w:=by
 obtain⟨es,he,hc⟩:=ha;exact⟨.agg (List.toArray es),⟨es,rfl,he⟩,fun w hw=>bg4 (cs:=es) ht hu hi (by rw[hs,A3.len he]) fun j u hj=>F6 hw (hc j u hj)⟩
theorem t8{es:List Value}(hc:∀j u,es[j]?=some u→I3 h (a.add j)=some u){o:Nat}{u:Value}(ho:es[o]?=some u)(ht:H9 P t=false):
  ∀w,B4 h (i4 w)→(Instr.loadAt t (.pointer (some (a.add o)))).run P w = .ok u w:=fun w hw=>R9 ht (F6 hw (hc o u ho))
theorem ba8{β:Type}[A3 β]{y:β}{es c:List Value}(hc:∀j u,es[j]?=some u→I3 h (a.add j)=some u){o:Nat}(hy:A3.enc h c y)(hp:∀j u,c[j]?=some u→es[o+j]?=some u):At h (a.add o) y:=
 ⟨c,hy,fun j u hj=>by rw[Addr.add_add'];exact hc _ _ (hp j u hj)⟩
theorem E0{es:List Value}(hc:∀j u,es[j]?=some u→I3 h (a.add j)=some u){u:Value}(ho:es[0]?=some u)(ht:H9 P t=false):
  ∀w,B4 h (i4 w)→(Instr.loadAt t (.pointer (some a))).run P w = .ok u w:=fun w hw=>by
 have:=t8 (P:=P) (t:=t) hc ho ht w hw
 rwa [J9]at this
theorem aL6{β:Type}[A3 β]{y:β}{es c:List Value}(hc:∀j u,es[j]?=some u→I3 h (a.add j)=some u)(hy:A3.enc h c y)(hp:∀j u,c[j]?=some u→es[0+j]?=some u):At h a y:=by
 have:=ba8 hc hy hp
 rwa [J9]at this
theorem D5{S:World→Prop}{s:Sem Value}{u:Value}{K:Fr→World→Prop}{f:Fr}{d:Option Nat}{w0:World}(hS:S w0)(h:∀w',S w'→s.run P w' = .ok u w'):I2 P S s K f d w=K (C5 f d u) w:=by
 refine propext ⟨?_,fun hk=>⟨u,h,hk⟩⟩;rintro⟨v,hv,hk⟩;have:=(hv w0 hS).symm.trans (h w0 hS);simp only[Result.ok.injEq,and_true]at this;rw[←this];exact hk
theorem R5{S:World→Prop}{t:TypeId}{a:Addr}{v:Value}{w0:World}(hS:S w0)(h:∀w',S w'→N6 P w' t a v):N7 P S t a v:=fun _ _ _ _=>D5 hS h
theorem At.sv2(ha:At h a x)(ht:H9 P t=true)(hu:(P.underlying t).isSome=true)(hi:(P.info? t).isSome=true)(hs:K1 P t=A3.sz α):
  ∃sv,SV h sv x∧(∀w,B4 h (i4 w)→(Instr.loadAt t (.pointer (some a))).run P w = .ok sv w)∧(∀(S:World→Prop) (w0:World),S w0→(∀w,S w→B4 h (i4 w))→∀K f d w,I2 P S (Instr.loadAt t (.pointer (some a))) K f d w=K (C5 f d sv) w):=by
 obtain⟨sv,h1,h2⟩:=ha.sv (P:=P) (t:=t) ht hu hi hs;exact⟨sv,h1,h2,fun S w0 hS hw K f d w=>D5 hS fun w' hw'=>h2 w' (hw w' hw')⟩
theorem bv7(hv:SV h v x)(hw:B4 h (i4 w)):∃a w',(Instr.box T v).run P w = .ok (.pointer (some a)) w'∧o7 w w'∧At (i4 w') a x:=by
 obtain⟨cs,rfl,he⟩:=hv;have hx:=o7.alloc w (.cells (List.toArray cs) T);refine⟨⟨w.heap.size,0,none⟩,w.alloc (.cells (List.toArray cs) T),rfl,hx,cs,A3.mono (v8 hw (b7 hx)) he,fun j u hj=>?_⟩;rw[←al1,add_lit,dp8,dy2];simpa using hj
theorem bl1(hv:SV h v x)(hw:B4 h (i4 w)){z:Value}(hz:G3 P T=some z)(hsz:z.cells.size=K1 P T)(hs:K1 P T=A3.sz α):
  ∃a wz w',(Instr.alloc T true (.tuple #[])).run P w = .ok (.pointer (some a)) wz∧(Instr.storeAt T (.pointer (some a)) v).run P wz = .ok () w'∧o7 w w'∧At (i4 w') a x:=by
 obtain⟨cs,rfl,he⟩:=hv;obtain⟨h1,h2⟩:=aN3 (P:=P) (w:=w) (T:=T) hz hsz (cs:=List.toArray cs) (by simpa[hs]using A3.len he) (by simpa using A3.one he);have hx:=o7.alloc w (.cells (List.toArray cs) T);refine⟨_,_,_,h1,h2,hx,cs,A3.mono (v8 hw (b7 hx)) he,fun j u hj=>?_⟩;rw[←al1,add_lit,dp8,dy2];simpa using hj
end
def dw8:=@Classical.byContradiction
def dA0:=@List.any_eq_true
def dw7:=@List.getElem?_replicate
def du8:=@List.getElem?_set_ne
def dr9:=@List.mem_iff_getElem
def dr7:=@Option.getD_some
def do4:=@congrArg
abbrev W:=BitVec 64
instance:I6 W:=⟨fun x=>.int .u64 (x.toNat:Nat),fun _=>rfl⟩
section
variable {P:Program} {t:TypeId}
theorem bl0(n:Nat)(h:n<18446744073709551616):IntKind.u64.wrap (n:Int)=(n:Int):=by
 have:IntKind.u64.wrap (n:Int)=IntKind.u64.wrap (n:Int):=rfl;unfold IntKind.wrap;simp[IntKind.bits,IntKind.signed];omega
theorem by3(x:W):BitVec.ofInt IntKind.u64.bits ((x.toNat:Nat):Int)=x:=by
 show BitVec.ofInt 64 ((x.toNat:Nat):Int)=x;rw[BitVec.ofInt_natCast,BitVec.ofNat_toNat];simp
theorem bv9(f:Nat)(hf:f<1000000000000):B5 P .quo t (.int .i64 f) (.int .i64 64)=some (.int .i64 ((f / 64:Nat):Int)):=by
 have h1:(f:Int).tdiv 64=((f / 64:Nat):Int):=by rfl
 simp only[B5,E4,ds9,h1];rw[if_neg (by decide),IntWalk.i64_in _ (by omega)]
theorem cn8(f:Nat):B5 P .rem t (.int .i64 f) (.int .i64 64)=some (.int .i64 ((f % 64:Nat):Int)):=by
 have h1:(f:Int).tmod 64=((f % 64:Nat):Int):=by rfl
 simp only[B5,E4,ds9,h1];rw[if_neg (by decide)]
theorem cn9(x:W)(k:Nat)(hk:k<64):B5 P .shr t (.int .u64 ((x.toNat:Nat):Int)) (.int .i64 k)=some (.int .u64 (((x >>> k).toNat:Nat):Int)):=by
 simp only[B5];rw[if_neg (by omega)];have h1:min ((k:Int).toNat) IntKind.u64.bits=k:=by
  show min ((k:Int).toNat) 64=k;omega
 rw[h1,BitVec.toNat_ushiftRight,Nat.shiftRight_eq_div_pow];have h2:((x.toNat:Nat):Int).fdiv (2 ^ k)=((x.toNat / 2 ^ k:Nat):Int):=by
  rw[Int.fdiv_eq_ediv_of_nonneg _ (by exact Int.le_of_lt (Int.pow_pos (by decide)))];simp
 rw[h2]
theorem cn6(x:W)(k:Nat):B5 P .and t (.int .u64 (((x >>> k).toNat:Nat):Int)) (.int .u64 1)=some (.int .u64 (if x.getLsbD k then 1 else 0)):=by
 have h1:BitVec.ofInt IntKind.u64.bits 1=(1#64:W):=rfl;simp only[B5,E4,ds9,by3,h1];have h2:((x >>> k) &&& 1#64:W)=if x.getLsbD k then 1#64 else 0#64:=by
  apply BitVec.eq_of_getLsbD_eq;intro i hi;rw[BitVec.getLsbD_and,BitVec.getLsbD_ushiftRight];by_cases h0:i=0
  ·subst h0;cases hx:x.getLsbD k<;>simp[]
  ·have:(1#64:W).getLsbD i=false:=by
    rw[BitVec.getLsbD_one];simp[h0]
   rw[this,Bool.and_false];split
   ·exact this.symm
   ·simp
 show some (Value.int .u64 (IntKind.u64.wrap ((((x >>> k) &&& 1#64:W).toNat:Nat):Int)))=_;rw[h2];cases x.getLsbD k<;>rfl
theorem cN2(b:Bool):B5 P .eql t (.int .u64 (if b then 1 else 0)) (.int .u64 0)=some (.bool (!b)):=by
 cases b<;>rfl
theorem cN3(b:Bool):B5 P .eql t (.int .u64 (if b then 1 else 0)) (.int .u64 1)=some (.bool b):=by
 cases b<;>rfl
theorem cN5(k:Nat)(hk:k<64):B5 P .shl t (.int .u64 1) (.int .i64 k)=some (.int .u64 (((1#64 <<< k:W).toNat:Nat):Int)):=by
 simp only[B5];rw[if_neg (by omega)];have h1:min ((k:Int).toNat) IntKind.u64.bits=k:=by
  show min ((k:Int).toNat) 64=k;omega
 rw[h1];have h2:(1:Int)*2 ^ k=((2 ^ k:Nat):Int):=by simp
 have h3:2 ^ k<18446744073709551616:=by
  have:(2:Nat) ^ k<2 ^ 64:=Nat.pow_lt_pow_right (by decide) hk;simpa using this
 have h5:(1#64 <<< k:W).toNat=2 ^ k:=by
  rw[BitVec.toNat_shiftLeft,Nat.shiftLeft_eq];show(1*2 ^ k) % 2 ^ 64=2 ^ k;rw[Nat.one_mul];exact Nat.mod_eq_of_lt (Nat.pow_lt_pow_right (by decide) hk)
 rw[h2,bl0 _ h3,h5]
theorem cn7(x y:W):B5 P .or t (.int .u64 ((x.toNat:Nat):Int)) (.int .u64 ((y.toNat:Nat):Int))=some (.int .u64 (((x ||| y).toNat:Nat):Int)):=by
 simp only[B5,E4,ds9,by3];rw[bl0 _ (by exact(x ||| y).isLt)];rfl
theorem bo5(x y:W):B5 P .andNot t (.int .u64 ((x.toNat:Nat):Int)) (.int .u64 ((y.toNat:Nat):Int))=some (.int .u64 (((x &&& ~~~y).toNat:Nat):Int)):=by
 simp only[B5,E4,ds9,by3];rw[bl0 _ (by exact(x &&& ~~~y).isLt)];rfl
theorem cN4(x:W):B5 P .neq t (.int .u64 ((x.toNat:Nat):Int)) (.int .u64 0)=some (.bool (x != 0#64)):=by
 simp only[B5,E4,ds9]
 congr 2
 rw[dz5];simp only[bne_iff_ne,ne_eq];constructor
 ·intro h e;subst e;exact h rfl
 ·intro h e;apply h;apply BitVec.eq_of_toNat_eq;simpa using e
end
theorem di5{K:Fr→World→Prop}{f:Fr}{d:Option Nat}{w:World}{v:Value}{D:Prop}:ax0 (some v) K f d w D=K (C5 f d v) w:=propext dt6
def O2(ws:List W)(f:Nat):Bool:=(ws.getD (f / 64) 0#64).getLsbD (f % 64)
def ci3(ws:List W)(f:Nat):List W:=ws.set (f / 64) (ws.getD (f / 64) 0#64 ||| (1#64 <<< (f % 64)))
theorem cq5{ws:List W}{f:Nat}(hf:f / 64<ws.length)(g:Nat):O2 (ci3 ws f) g=(decide (g=f)||O2 ws g):=by
 unfold O2 ci3;by_cases hd:g / 64=f / 64
 ·have h1:(ws.set (f / 64) (ws.getD (f / 64) 0#64 ||| (1#64 <<< (f % 64)))).getD (g / 64) 0#64=ws.getD (f / 64) 0#64 ||| (1#64 <<< (f % 64)):=by
   rw[hd];simp[List.getD,hf]
  rw[h1,BitVec.getLsbD_or,hd];have h2:(1#64 <<< (f % 64):W).getLsbD (g % 64)=decide (g=f):=by
   rw[BitVec.getLsbD_shiftLeft,BitVec.getLsbD_one];rw[dz5];simp;omega
  rw[h2,Bool.or_comm]
 ·have h1:(ws.set (f / 64) (ws.getD (f / 64) 0#64 ||| (1#64 <<< (f % 64)))).getD (g / 64) 0#64=ws.getD (g / 64) 0#64:=by
   simp only[List.getD];rw[du8 (fun e=>hd e.symm)]
  have h3:g≠f:=fun e=>hd (by rw[e]);rw[h1];simp[h3]
theorem bE9{n f:Nat}:O2 (List.replicate n 0#64) f=false:=by
 unfold O2;have:(List.replicate n (0#64:W)).getD (f / 64) 0#64=0#64:=by
  simp only[List.getD,dw7];split<;>rfl
 rw[this];simp
theorem cu7(ws:List W)(f:Nat):(ci3 ws f).length=ws.length:=by simp[ci3]
def orB(b c:List W):List W:=List.zipWith (· ||| ·) b c
def ae1(b c:List W):Bool:=(List.zipWith (fun x y=>(y &&& ~~~x:W) != 0#64) b c).any id
theorem cp8{α:Type}(g:W→W→α)(d:α)(hd:g 0#64 0#64=d){b c:List W}(hl:b.length=c.length)(i:Nat):(List.zipWith g b c).getD i d=g (b.getD i 0#64) (c.getD i 0#64):=by
 simp only[List.getD,List.getElem?_zipWith];by_cases hi:i<b.length
 ·rw[dm4 hi,dm4 (by omega)];rfl
 ·rw[du3 (by omega),du3 (by omega)];simp[hd]
theorem aw3{b c:List W}(hl:b.length=c.length)(f:Nat):O2 (orB b c) f=(O2 b f||O2 c f):=by
 unfold O2 orB;rw[cp8 (· ||| ·) 0#64 (by simp) hl,BitVec.getLsbD_or]
theorem br3{b c:List W}(hl:b.length=c.length):ae1 b c=true↔∃f,O2 c f=true∧O2 b f=false:=by
 unfold ae1;rw[dA0];constructor
 ·rintro⟨x,hx,hx1⟩;simp only[id]at hx1;subst hx1;obtain⟨i,hi,e⟩:=dr9.1 hx;rw[List.getElem_zipWith]at e;simp only[List.length_zipWith]at hi;have hne:(c[i]'(by omega) &&& ~~~b[i]'(by omega):W)≠0#64:=by simpa using e
  have:∃k,k<64∧(c[i]'(by omega) &&& ~~~b[i]'(by omega):W).getLsbD k=true:=by
   refine dw8 fun hno=>hne ?_;apply BitVec.eq_of_getLsbD_eq;intro k hk;have h1:¬(c[i]'(by omega) &&& ~~~b[i]'(by omega):W).getLsbD k=true:=fun h2=>hno ⟨k,hk,h2⟩;simp only[Bool.not_eq_true]at h1;rw[h1];simp
  obtain⟨k,hk,hk2⟩:=this;rw[BitVec.getLsbD_and,BitVec.getLsbD_not]at hk2;have hd1:(i*64+k) / 64=i:=by omega
  have hd2:(i*64+k) % 64=k:=by omega
  simp only[do6,dq8,Bool.not_eq_true']at hk2;refine⟨i*64+k,?_,?_⟩
  ·unfold O2;rw[hd1,hd2];simp only[List.getD,dm4 (show i<c.length by omega),dr7];exact hk2.1
  ·unfold O2;rw[hd1,hd2];simp only[List.getD,dm4 (show i<b.length by omega),dr7];exact hk2.2.2
 ·rintro⟨f,h1,h2⟩;have hi:f / 64<c.length:=by
   refine dw8 fun hno=>?_;unfold O2 at h1;simp only[List.getD,du3 (show c.length≤f / 64 by omega),Option.getD_none]at h1;simp at h1
  refine⟨true,?_,rfl⟩;refine dr9.2 ⟨f / 64,by simp;omega,?_⟩;rw[List.getElem_zipWith];simp only[bne_iff_ne,ne_eq];intro e;unfold O2 at h1 h2;simp only[List.getD,dm4 hi,dm4 (show f / 64<b.length by omega),dr7]at h1 h2;have:=do4 (fun x:W=>x.getLsbD (f % 64)) e;simp only[BitVec.getLsbD_and,BitVec.getLsbD_not,h1,h2]at this;simp at this;omega
theorem by9{b c:List W}(hl:b.length=c.length):(orB b c).length=b.length:=by simp[orB,hl]
def du6:=@Bool.true_and
def bC1:Value→Option Bool
 | .bool b=>some b
 | _=>none
theorem de4{b:Bool}:bC1 (.bool b)=some b:=rfl
theorem de5:bC1 undef=none:=rfl
theorem cN9{ops:Array Oper}{f:Fr}{j:Nat}:aG8 ops f j=match cq3 ops j with|some d=>bC1 (f d)|none=>none:=by
 unfold aG8 cq3;cases(ops[j]?).bind (·.dst)with
 | none=>rfl
 | some d=>
  show(match f d with | .bool b=>some b|_=>none)=bC1 (f d);unfold bC1;cases f d<;>rfl
theorem dk1{P:Program}{ops:Array Oper}{l:List Oper}{K:Fr→World→Prop}{f:Fr}{w:World}{d:Option Nat}{op:Op}{ty:TypeId}{pos:String}{aft:Array Edge}{j:Nat}{b:Bool}:
  Rn P ops (⟨d,op,ty,pos,aft,some (j,b)⟩::l) K f w =
   if aG8 ops f j=some b then B2 P none ⟨d,op,ty,pos,aft,none⟩ (Rn P ops l K) f w else Rn P ops l K (C5 f d undef) w:=propext dt6
theorem dc7{P:Program}{Q:Exit→Fr→World→Prop}{f:Fr}{w:World}{id:Nat}{ops:Array Oper}:CW P (.region id ops false) Q f w=Rn P ops ops.toList (Q .normal) f w:=propext dt6
theorem dd2{P:Program}{ops:Array Oper}{K:Fr→World→Prop}{f:Fr}{w:World}:Rn P ops [] K f w=K f w:=propext dt6
theorem dg6{P:Program}{ops:Array Oper}{l:List Oper}{K:Fr→World→Prop}{f:Fr}{w:World}{d:Option Nat}{op:Op}{ty:TypeId}{pos:String}{aft:Array Edge}:
  Rn P ops (⟨d,op,ty,pos,aft,none⟩::l) K f w=B2 P none ⟨d,op,ty,pos,aft,none⟩ (Rn P ops l K) f w:=propext dt6
theorem dj3{K:Fr→World→Prop}{f:Fr}{d:Option Nat}{w:World}{v:Value}:ac8 (.ok v w) K f d=K (C5 f d v) w:=propext dt6
theorem dj4{K:Fr→World→Prop}{f:Fr}{d:Option Nat}{w:World}{v:Unit}:aT6 (.ok v w) K f d=K (C5 f d undef) w:=propext dt6
theorem aT4(h:Hp){α:Type}[A3 α]:R h (.slice none 0 0) ([]:List α):=⟨none,0,0,rfl,rfl,dn9 _,[],rfl,fun j u hj=>by simp at hj⟩
section
variable {P:Program} {t:TypeId}
theorem bk1(b:Array UInt8):(.string ⟨b⟩:Value)=o9 (ofA b):=by
 simp[o9,ofA]
theorem dd4{a:A7}{b:Array UInt8}:B5 P .eql t (o9 a) (.string ⟨b⟩)=some (.bool (decide (a=ofA b))):=by
 rw[bk1,bV0]
theorem de1{a:A7}{b:Array UInt8}:B5 P .neq t (o9 a) (.string ⟨b⟩)=some (.bool (!decide (a=ofA b))):=by
 rw[bk1,cB9]
def chr(s:A7)(i:Nat):Option UInt8:=s.b[i]?
theorem cM9(l:List UInt8)(i:Nat):(⟨l.toArray⟩:ByteArray)[i]?=l[i]?:=by
 by_cases h:i<l.length
 ·rw[getElem?_pos (⟨l.toArray⟩:ByteArray) i (by show i<l.toArray.size;simpa using h),ByteArray.getElem_eq_getElem_data];simp[h]
 ·rw[getElem?_neg (⟨l.toArray⟩:ByteArray) i (by show ¬i<l.toArray.size;simpa using h)];simp[h]
theorem bX7{s:A7}{k:IntKind}{i:Nat}{c:UInt8}(h:bA0 P t=true)(ha:bB9 P t=none)(hc:chr s i=some c):U4 P t (o9 s) (.int k (i:Int))=some (.int .u8 (c.toNat:Int)):=by
 have h2:(⟨s.b.toArray⟩:ByteArray)[i]?=some c:=(cM9 s.b i).trans hc;simp only[U4,ha,o9,h,du6,dp0,h2,dt2,dh5,ds9]
theorem dh6{v:Value}(he:(K6 P t).isSome=true)(hs:isS v=true):P8 P t v=some (.int .i64 (vlen v:Nat)):=by
 simp only[P8,he,hs,ds9]
theorem dd9{a b:Int}:B5 P .lss t (.int .i64 a) (.int .i64 b)=some (.bool (decide (a<b))):=by simp[B5,E4]
theorem dd8{a b:Int}:B5 P .leq t (.int .i64 a) (.int .i64 b)=some (.bool (decide (a≤b))):=by simp[B5,E4]
theorem dd7{a b:Int}:B5 P .gtr t (.int .i64 a) (.int .i64 b)=some (.bool (decide (b<a))):=by simp[B5,E4]
theorem dd6{a b:Int}:B5 P .geq t (.int .i64 a) (.int .i64 b)=some (.bool (decide (b≤a))):=by simp[B5,E4]
theorem dd5{a b:Int}:B5 P .eql t (.int .i64 a) (.int .i64 b)=some (.bool (decide (a=b))):=by simp[B5,E4];rfl
theorem de2{a b:Int}:B5 P .neq t (.int .i64 a) (.int .i64 b)=some (.bool (!decide (a=b))):=by simp[B5,E4];rfl
theorem dd3{a b:Int}:B5 P .add t (.int .i64 a) (.int .i64 b)=some (.int .i64 (IntKind.i64.wrap (a+b))):=by simp[B5,E4]
theorem de3{a b:Int}:B5 P .sub t (.int .i64 a) (.int .i64 b)=some (.int .i64 (IntKind.i64.wrap (a-b))):=by simp[B5,E4]
theorem cT8{a b:Int}:B5 P .leq t (.int .u8 a) (.int .u8 b)=some (.bool (decide (a≤b))):=by simp[B5,E4]
theorem cT7{a b:Int}:B5 P .geq t (.int .u8 a) (.int .u8 b)=some (.bool (decide (b≤a))):=by simp[B5,E4]
theorem dj9{b:Bool}:unV .not (.bool b)=some (.bool (!b)):=by simp[unV]
theorem bd0{a:Option Addr}{op:BinOp}(ho:op = .eql)(h:eqT P t=2):B5 P op t (.pointer a) (.pointer none)=some (.bool a.isNone):=by
 subst ho;simp[B5,h]
end
def dz8:=@Nat.le_of_not_lt
theorem bb4{w:World}{b:Nat}(h:w.heap.size≤b):i4 w b=none:=by
 show w.heap[b]?=none;simp[h]
theorem C0{w:World}{b:Nat}(h:i4 w b=none):w.heap.size≤b:=dz8 fun hlt=>by simp[i4,hlt]at h
theorem W5{v:Value}(h:isS v=true):v.oneCell'=true:=by
 cases v<;>simp[isS]at h;rfl
theorem D8{v:Value}(h:isS v=true):v.cells=#[v]:=by
 cases v<;>simp[isS]at h;rfl
section
variable {P:Program} {h:Hp} {w:World} {t T:TypeId} {v:Value}
theorem E7{gb i:Nat}{cs:Array Value}{u:Value}(hh:w.heap[gb]?=some (.cells cs T (0,0)))(hu:cs[i]?=some u)(ht:H9 P t=false):(Instr.loadAt t (.pointer (some ⟨gb,i,none⟩))).run P w = .ok u w:=
 R9 ht (by rw[du1 w gb i cs T (0,0) hh];exact hu)
theorem aj0{gb i:Nat}{cs:Array Value}{x:Value}(hh:w.heap[gb]?=some (.cells cs T (0,0)))(hi:i<cs.size)(hx:x.cells=#[x])(h1:x.oneCell'=true){inf:TypeInfo}(hinf:P.info? t=some inf)(hs:inf.size=1):
  ∃w',(Instr.storeAt t (.pointer (some ⟨gb,i,none⟩)) x).run P w = .ok () w'∧w'.heap[gb]?=some (.cells (cs.setIfInBounds i x) T (0,0))∧p9 (fun b=>b=gb) w w':=by
 have hcell:w.cell? ⟨gb,i,.none⟩=some cs[i]:=by rw[du1 w gb i cs T (0,0) hh,dv4 hi]
 have hfr:w.frozen? ⟨gb,i,.none⟩=false:=frozen_of_row w gb i cs T hh;exact⟨_,aH6 (P:=P) (t:=t) hinf hs hx h1 hcell hfr,heap_setCell_same w gb i cs T x hh,p9.setCell _ _ _ rfl⟩
theorem ak9{gb:Nat}{cur cs:Array Value}(hh:w.heap[gb]?=some (.cells cur T (0,0))){z:Value}(hz:G3 P T=some z)(hcur:cur.size=K1 P T)(hc:cs.size=K1 P T)(h1:∀u∈cs.toList,u.oneCell'=true):
  ∃w',(Instr.storeAt T (.pointer (some ⟨gb,0,none⟩)) (.agg cs)).run P w = .ok () w'∧w'.heap[gb]?=some (.cells cs T (0,0))∧p9 (fun b=>b=gb) w w':=by
 obtain⟨i,hi,hiz⟩:=z7 hz;have hst:=run_storeCells_from (P:=P) gb T cs.toList 0 cur w hh (by simp[hc,hcur]) h1;simp only[dy1,dx1,Array.toArray_toList]at hst;refine⟨_,?_,setRow_heap w gb cur cs T (0,0) hh,p9.setRow _ _ _ rfl⟩;unfold Instr.storeAt storeVar;simp only[Instr.sureAddr,do9,dq0,do1,sizeOf,N2,hi,Value.cells];rw[C6 hi]at hc;simp only[hc,ne_eq,not_true_eq_false,du7];exact hst
theorem Z3{gb:Nat}{cs:Array Value}(hh:w.heap[gb]?=some (.cells cs T (0,0)))(ht:H9 P T=true)(hu:(P.underlying T).isSome=true)(hi:(P.info? T).isSome=true)(hs:K1 P T=cs.size):
  (Instr.loadAt T (.pointer (some ⟨gb,0,none⟩))).run P w = .ok (.agg cs) w:=by
 have:=bg4 (P:=P) (w:=w) (a:=⟨gb,0,none⟩) (cs:=cs.toList) ht hu hi (by simpa using hs) fun j u hj=>by
  have ha:(⟨gb,0,.none⟩:Addr).add j=⟨gb,j,.none⟩:=by unfold Addr.add;split<;>simp_all
  rw[ha,du1 w gb j cs T (0,0) hh];simpa using hj
 simpa using this
theorem M1{fn:Func}{R:Value→World→Prop}{f:Fr}{a:Nat}{ty:TypeId}{ad:Addr}(h:fn.results=#[.cell a ty])(hf:f a = .pointer (some ad))(hl:(Instr.loadAt ty (.pointer (some ad))).run P w = .ok v w)(hR:R v w):aI5 P fn R .ret f w:=by
 refine⟨[v],?_,hR⟩;rw[h];refine⟨?_,trivial⟩;show(do loadVar ty (←asAddr (f a)):Sem Value).run P w = .ok v w;rw[hf];exact hl
theorem cq6{h:Hp}{w:World}{N:Nat→Prop}(hw:B4 h (i4 w))(hN:∀b,N b→h b=none):B4 h (B6 w N):=fun b o e=>by
 have hn:¬N b:=fun hb=>by rw[hN b hb]at e;cases e
 rw[C9 hn];exact hw b o e
theorem D2{w w':World}{N:Nat→Prop}(hm:p9 N w w'):B4 (B6 w N) (i4 w'):=H7 (B8 w N) hm fun b hb=>H1 hb
theorem bF0{w w':World}{N:Nat→Prop}(hm:p9 N w w')(hN:∀b,N b→b<w.heap.size):B4 (B6 w N) (B6 w' N):=G4 hm (fun b h=>h) fun b h=>.inl h
section
variable {α:Type} [A3 α] {x:α} {N:Nat→Prop}
theorem dc0(hv:SV h v x)(hw:B4 h (B6 w N))(hN:∀b,N b→b<w.heap.size){z:Value}(hz:G3 P T=some z)(hsz:z.cells.size=K1 P T)(hs:K1 P T=A3.sz α):
  ∃a wz w',(Instr.alloc T true (.tuple #[])).run P w = .ok (.pointer (some a)) wz∧(Instr.storeAt T (.pointer (some a)) v).run P wz = .ok () w'∧o7 w w'∧At (B6 w' N) a x:=by
 obtain⟨cs,rfl,he⟩:=hv;obtain⟨h1,h2⟩:=aN3 (P:=P) (w:=w) (T:=T) hz hsz (cs:=List.toArray cs) (by simpa[hs]using A3.len he) (by simpa using A3.one he);have hx:=o7.alloc w (.cells (List.toArray cs) T);refine⟨_,_,_,h1,h2,hx,cs,A3.mono (v8 hw (bF0 (hx.weaken fun _ _ h=>h.elim) hN)) he,fun j u hj=>?_⟩;have hn:¬N w.heap.size:=fun hb=>by have:=hN _ hb;omega
 have:I3 (i4 (w.alloc (.cells (List.toArray cs) T))) ((⟨w.heap.size,0,none⟩:Addr).add j)=some u:=by
  rw[←al1,add_lit,dp8,dy2];simpa using hj
 rw[add_lit]at this ⊢;unfold I3 at *;simp only at *;rw[C9 hn];exact this
end
end
section
variable {P:Program}
theorem C8{k:Nat}{args:List Value}{w:World}{K:Fr→World→Prop}{f:Fr}{d:Option Nat}{v:Value}
  (h:Calls P k args.toArray w fun e w'=>∃u,e = .returned u∧(u=v∧w'=w)) (hk:K (C5 f d v) w) (hb:ah2 P k=true:=by kernel_rfl):as7 P k args w K f d:=
 y5 h (fun u w' ⟨hu,hw⟩=>by rw[hu,hw];exact hk) hb
theorem B1{k:Nat}{args:List Value}{w:World}{K:Fr→World→Prop}{f:Fr}{d:Option Nat}{v:Value}
  (h:Calls P k args.toArray w fun e w'=>∃u,e = .returned u∧(u=v∧o7 w w')) (hk:∀w',o7 w w'→K (C5 f d v) w') (hb:ah2 P k=true:=by kernel_rfl):as7 P k args w K f d:=
 y5 h (fun u w' ⟨hu,hw⟩=>by rw[hu];exact hk w' hw) hb
end
section
variable {P:Program} {t T:TypeId}
theorem bj8(g o:Nat):∀(vs:List Value) (i:Nat) (cur:Array Value) (w:World),w.heap[g]?=some (.cells cur T (0,0))→o+i+vs.length≤cur.size→(∀v∈vs,v.oneCell'=true) →
  ∃w',(storeCells ⟨g,o,none⟩ vs i).run P w = .ok () w'∧w'.heap[g]?=some (.cells (cur.toList.take (o+i)++vs++cur.toList.drop (o+i+vs.length)).toArray T (0,0))∧p9 (fun b=>b=g) w w'
 | [],i,cur,w,hg,hl,_=>by
  refine⟨w,rfl,?_,p9.refl _⟩;simp only[dp6,dt3,Nat.add_zero,dr0,Array.toArray_toList];exact hg
 | v::rest,i,cur,w,hg,hl,h1=>by
  simp only[do7]at hl;have hi:o+i<cur.size:=by omega
  have hadd:(⟨g,o,none⟩:Addr).add i=⟨g,o+i,none⟩:=add_lit g o i;have hcell:w.cell? ⟨g,o+i,none⟩=some cur[o+i]:=by rw[du1 w g (o+i) cur T (0,0) hg,dv4 hi]
  have hfro:w.frozen? ⟨g,o+i,none⟩=false:=frozen_of_row w g (o+i) cur T hg;have hst:(store ((⟨g,o,none⟩:Addr).add i) v).run P w = .ok () (w.setCell ⟨g,o+i,none⟩ v):=by
   rw[hadd,run_store P w _ v _ (h1 v (by simp)),hcell];simp[hfro]
  obtain⟨w',h2,h3,h4⟩:=bj8 g o rest (i+1) (cur.setIfInBounds (o+i) v) (w.setCell ⟨g,o+i,none⟩ v) (heap_setCell_same w g (o+i) cur T v hg) (by simp;omega) (fun x hx=>h1 x (by simp[hx]));refine⟨w',?_,?_,(p9.setCell (M:=fun b=>b=g) w ⟨g,o+i,none⟩ v rfl).trans h4⟩
  ·simp only[storeCells,do9,hst,do1,h2]
  ·rw[h3]
   congr 3
   have hlen:cur.toList.length=cur.size:=by simp
   simp only[Array.toList_setIfInBounds,do7];rw[show o+(i+1)=o+i+1 by omega,List.take_set,dn2 (by omega),List.set_append_right (h:=by simp;omega)];have e1:o+i-(cur.toList.take (o+i)).length=0:=by simp;omega
   rw[e1,List.drop_set_of_lt (by omega)];simp[do8,dw1,Nat.add_comm 1]
theorem bV1{w:World}{gb o:Nat}{cur:Array Value}{cs:List Value}(hh:w.heap[gb]?=some (.cells cur T (0,0)))(ho:o+cs.length≤cur.size)(h1:∀u∈cs,u.oneCell'=true)(hi:(P.info? t).isSome=true)(hs:K1 P t=cs.length):
  ∃w',(Instr.storeAt t (.pointer (some ⟨gb,o,none⟩)) (.agg (List.toArray cs))).run P w = .ok () w'∧w'.heap[gb]?=some (.cells (cur.toList.take o++cs++cur.toList.drop (o+cs.length)).toArray T (0,0))∧p9 (fun b=>b=gb) w w':=by
 obtain⟨w',h2,h3,h4⟩:=bj8 (P:=P) gb o cs 0 cur w hh (by omega) h1;refine⟨w',?_,h3,h4⟩;obtain⟨i,hi'⟩:=ds2.1 hi;have hsz:i.size=cs.length:=by rw[←hs,C6 hi']
 unfold Instr.storeAt storeVar;simp only[Instr.sureAddr,do9,dq0,do1,sizeOf,N2,hi',Value.cells,hsz];simp only[dw2,ne_eq,not_true_eq_false,du7];exact h2
end
def J6(k:Hp)(a:Addr)(v:Value):Prop:=∃cs,v = .agg (List.toArray cs)∧∀j u,cs[j]?=some u→I3 k (a.add j)=some u
theorem ag8{c d:List Value}(h:(Value.agg (List.toArray c)) = .agg (List.toArray d)):d=c:=by
 simp only[Value.agg.injEq]at h;have:=do4 Array.toList h;simpa using this.symm
section
variable {α:Type} [A3 α] {h k:Hp} {v:Value} {x:α} {P:Program} {t T:TypeId} {w:World} {a:Addr} {N:Nat→Prop}
theorem J6.mono{k':Hp}(hk:B4 k k'):J6 k a v→J6 k' a v:=fun⟨cs,e,hc⟩=>⟨cs,e,fun j u hj=>F6 hk (hc j u hj)⟩
theorem bc9{es c:List Value}(hc:∀j u,es[j]?=some u→I3 k (a.add j)=some u){o:Nat}(hp:∀j u,c[j]?=some u→es[o+j]?=some u):J6 k (a.add o) (.agg (List.toArray c)):=
 ⟨c,rfl,fun j u hj=>by rw[Addr.add_add'];exact hc _ _ (hp j u hj)⟩
theorem bo2{es c:List Value}(hc:∀j u,es[j]?=some u→I3 k (a.add j)=some u)(hp:∀j u,c[j]?=some u→es[0+j]?=some u):J6 k a (.agg (List.toArray c)):=by
 have:=bc9 hc hp
 rwa [J9]at this
theorem J6.whole(ha:J6 k a v)(hv:SV h v x)(ht:H9 P t=true)(hu:(P.underlying t).isSome=true)(hi:(P.info? t).isSome=true)(hs:K1 P t=A3.sz α):
  (∀w,B4 k (i4 w)→(Instr.loadAt t (.pointer (some a))).run P w = .ok v w)∧(∀(S:World→Prop) (w0:World),S w0→(∀w,S w→B4 k (i4 w))→∀K f d w,I2 P S (Instr.loadAt t (.pointer (some a))) K f d w=K (C5 f d v) w):=by
 obtain⟨cs,rfl,hc⟩:=ha;obtain⟨cs2,e,he⟩:=hv;obtain rfl:=ag8 e;have h1:∀w,B4 k (i4 w)→(Instr.loadAt t (.pointer (some a))).run P w = .ok (.agg (List.toArray cs2)) w:=fun w hw=>bg4 ht hu hi (by rw[hs,A3.len he]) fun j u hj=>F6 hw (hc j u hj);exact⟨h1,fun S w0 hS hw K f d w=>D5 hS fun w' hw'=>h1 w' (hw w' hw')⟩
theorem bU7{w:World}{cs:List Value}(hN:∀b,N b→b<w.heap.size):J6 (B6 (w.alloc (.cells (List.toArray cs) T)) N) ⟨w.heap.size,0,none⟩ (.agg (List.toArray cs)):=by
 refine⟨cs,rfl,fun j u hj=>?_⟩;have hn:¬N w.heap.size:=fun hb=>by have:=hN _ hb;omega
 have:I3 (i4 (w.alloc (.cells (List.toArray cs) T))) ((⟨w.heap.size,0,none⟩:Addr).add j)=some u:=by
  rw[←al1,add_lit,dp8,dy2];simpa using hj
 rw[add_lit]at this ⊢;unfold I3 at *;simp only at *;rw[C9 hn];exact this
theorem cc4(hv:SV h v x)(hN:∀b,N b→b<w.heap.size):∃a w',(Instr.box T v).run P w = .ok (.pointer (some a)) w'∧o7 w w'∧J6 (B6 w' N) a v:=by
 obtain⟨cs,rfl,he⟩:=hv;exact⟨⟨w.heap.size,0,none⟩,w.alloc (.cells (List.toArray cs) T),rfl,o7.alloc w _,bU7 hN⟩
theorem cj9(hv:SV h v x)(hN:∀b,N b→b<w.heap.size){z:Value}(hz:G3 P T=some z)(hsz:z.cells.size=K1 P T)(hs:K1 P T=A3.sz α):
  ∃a wz w',(Instr.alloc T true (.tuple #[])).run P w = .ok (.pointer (some a)) wz∧(Instr.storeAt T (.pointer (some a)) v).run P wz = .ok () w'∧o7 w w'∧J6 (B6 w' N) a v:=by
 obtain⟨cs,rfl,he⟩:=hv;obtain⟨h1,h2⟩:=aN3 (P:=P) (w:=w) (T:=T) hz hsz (cs:=List.toArray cs) (by simpa[hs]using A3.len he) (by simpa using A3.one he);exact⟨_,_,_,h1,h2,o7.alloc w _,bU7 hN⟩
end
theorem p9.chain{M N:Nat→Prop}{a b c:World}(h:p9 M a b)(k:p9 N b c)(hN:∀i,i<a.heap.size→N i→M i):p9 M a c:=
 ⟨k.os.trans h.os,k.tape.trans h.tape,k.output.trans h.output,dn4 h.size k.size,fun i hi hm=>(k.block i (dt8 hi h.size) fun hn=>hm (hN i hi hn)).trans (h.block i hi hm)⟩
theorem p9.up{M:Nat→Prop}{a b:World}(h:o7 a b):p9 M a b:=h.weaken fun _ _ h=>h.elim
theorem cH4:H9 prog 2=false:=by kernel_rfl
theorem aQ3:K1 prog 3=1:=by kernel_rfl
theorem ay5:G3 prog 3=some (.int .i64 0):=by kernel_rfl
theorem F4:H9 prog 3=false:=by kernel_rfl
theorem aD8:K1 prog 4=1:=by kernel_rfl
theorem T7:G3 prog 4=some (.bool false):=by kernel_rfl
theorem aj7:H9 prog 4=false:=by kernel_rfl
theorem db0:K1 prog 9=1:=by kernel_rfl
theorem db6:G3 prog 9=some (.string ⟨#[]⟩):=by kernel_rfl
theorem W2:H9 prog 9=false:=by kernel_rfl
theorem cH3:bB9 prog 9=none:=by kernel_rfl
theorem cy3:bA0 prog 9=true:=by kernel_rfl
theorem cy2:K1 prog 22=1:=by kernel_rfl
theorem bK8:G3 prog 22=some (.slice none 0 0):=by kernel_rfl
theorem M2:H9 prog 22=false:=by kernel_rfl
theorem da7:eqT prog 22=3:=by kernel_rfl
theorem bK3:H9 prog 23=false:=by kernel_rfl
theorem cx4:(prog.info? 25).isSome=true:=by kernel_rfl
theorem bK6:K1 prog 25=2:=by kernel_rfl
theorem cM3:G3 prog 25=some (.agg #[.slice none 0 0,.slice none 0 0]):=by kernel_rfl
theorem cx0:H9 prog 25=true:=by kernel_rfl
theorem cy6:(prog.underlying 25).isSome=true:=by kernel_rfl
theorem da2:N9 prog 25=some (#[.slice none 0 0,.slice none 0 0],[(0,1),(1,1)]):=by kernel_rfl
theorem da8:K1 prog 30=1:=by kernel_rfl
theorem db3:G3 prog 30=some (.slice none 0 0):=by kernel_rfl
theorem bK4:H9 prog 30=false:=by kernel_rfl
theorem da9:K1 prog 32=1:=by kernel_rfl
theorem db4:G3 prog 32=some (.slice none 0 0):=by kernel_rfl
theorem cL9:H9 prog 32=false:=by kernel_rfl
theorem aH8:(prog.info? 36).isSome=true:=by kernel_rfl
theorem ad5:K1 prog 36=4:=by kernel_rfl
theorem bu1:G3 prog 36=some (.agg #[.string ⟨#[]⟩,.int .i64 0,.int .i64 0,.string ⟨#[]⟩]):=by kernel_rfl
theorem aP9:H9 prog 36=true:=by kernel_rfl
theorem aQ4:(prog.underlying 36).isSome=true:=by kernel_rfl
theorem cx8:N9 prog 36=some (#[.string ⟨#[]⟩,.int .i64 0,.int .i64 0,.string ⟨#[]⟩],[(0,1),(1,1),(2,1),(3,1)]):=by kernel_rfl
theorem bZ9:H9 prog 39=false:=by kernel_rfl
theorem aQ1:(prog.info? 41).isSome=true:=by kernel_rfl
theorem ad6:K1 prog 41=4:=by kernel_rfl
theorem cz3:G3 prog 41=some (.agg #[.int .i64 0,.int .i64 0,.string ⟨#[]⟩,.slice none 0 0]):=by kernel_rfl
theorem aZ6:H9 prog 41=true:=by kernel_rfl
theorem aZ7:(prog.underlying 41).isSome=true:=by kernel_rfl
theorem cx9:N9 prog 41=some (#[.int .i64 0,.int .i64 0,.string ⟨#[]⟩,.slice none 0 0],[(0,1),(1,1),(2,1),(3,1)]):=by kernel_rfl
theorem ca0:H9 prog 42=false:=by kernel_rfl
theorem az9:H9 prog 43=false:=by kernel_rfl
theorem aQ2:(prog.info? 45).isSome=true:=by kernel_rfl
theorem ai7:K1 prog 45=13:=by kernel_rfl
theorem cz4:G3 prog 45=some (.agg #[.int .i64 0,.int .i64 0,.slice none 0 0,.string ⟨#[]⟩,.string ⟨#[]⟩,.int .i64 0,.int .i64 0,.string ⟨#[]⟩,.slice none 0 0,.bool false,.slice none 0 0,.slice none 0 0,.slice none 0 0]):=by kernel_rfl
theorem bk3:H9 prog 45=true:=by kernel_rfl
theorem bk9:(prog.underlying 45).isSome=true:=by kernel_rfl
theorem bu0:N9 prog 45=some (#[.int .i64 0,.int .i64 0,.slice none 0 0,.string ⟨#[]⟩,.string ⟨#[]⟩,.int .i64 0,.int .i64 0,.string ⟨#[]⟩,.slice none 0 0,.bool false,.slice none 0 0,.slice none 0 0,.slice none 0 0],[(0,1),(1,1),(2,1),(3,1),(4,1),(5,4),(9,1),(10,1),(11,1),(12,1)]):=by kernel_rfl
theorem ca1:H9 prog 49=false:=by kernel_rfl
theorem ad3:(prog.info? 51).isSome=true:=by kernel_rfl
theorem I8:K1 prog 51=5:=by kernel_rfl
theorem ca2:G3 prog 51=some (.agg #[.string ⟨#[]⟩,.slice none 0 0,.slice none 0 0,.slice none 0 0,.slice none 0 0]):=by kernel_rfl
theorem ae3:H9 prog 51=true:=by kernel_rfl
theorem ae4:(prog.underlying 51).isSome=true:=by kernel_rfl
theorem cM1:N9 prog 51=some (#[.string ⟨#[]⟩,.slice none 0 0,.slice none 0 0,.slice none 0 0,.slice none 0 0],[(0,1),(1,1),(2,1),(3,1),(4,1)]):=by kernel_rfl
theorem da3:N9 prog 57=some (#[.int .i64 0,.int .i64 0,.slice none 0 0,.string ⟨#[]⟩,.string ⟨#[]⟩,.int .i64 0,.int .i64 0,.string ⟨#[]⟩,.slice none 0 0,.bool false,.slice none 0 0,.slice none 0 0,.slice none 0 0,.int .i64 0,.int .i64 0,.bool false],[(0,13),(13,1),(14,1),(15,1)]):=by kernel_rfl
theorem bK5:(prog.info? 60).isSome=true:=by kernel_rfl
theorem bk8:K1 prog 60=9:=by kernel_rfl
theorem cM4:G3 prog 60=some (.agg #[.string ⟨#[]⟩,.int .i64 0,.int .i64 0,.string ⟨#[]⟩,.string ⟨#[]⟩,.int .i64 0,.int .i64 0,.string ⟨#[]⟩,.int .i64 0]):=by kernel_rfl
theorem cx1:H9 prog 60=true:=by kernel_rfl
theorem cy7:(prog.underlying 60).isSome=true:=by kernel_rfl
theorem da4:N9 prog 60=some (#[.string ⟨#[]⟩,.int .i64 0,.int .i64 0,.string ⟨#[]⟩,.string ⟨#[]⟩,.int .i64 0,.int .i64 0,.string ⟨#[]⟩,.int .i64 0],[(0,4),(4,4),(8,1)]):=by kernel_rfl
theorem aH9:(prog.info? 68).isSome=true:=by kernel_rfl
theorem ad7:K1 prog 68=2:=by kernel_rfl
theorem db5:G3 prog 68=some (.agg #[.string ⟨#[]⟩,.bool false]):=by kernel_rfl
theorem aQ0:H9 prog 68=true:=by kernel_rfl
theorem aQ5:(prog.underlying 68).isSome=true:=by kernel_rfl
theorem cy0:N9 prog 68=some (#[.string ⟨#[]⟩,.bool false],[(0,1),(1,1)]):=by kernel_rfl
theorem bk4:H9 prog 78=false:=by kernel_rfl
theorem bk5:H9 prog 89=false:=by kernel_rfl
theorem db1:K1 prog 90=1:=by kernel_rfl
theorem db7:G3 prog 90=some (.slice none 0 0):=by kernel_rfl
theorem cx2:H9 prog 90=false:=by kernel_rfl
theorem db2:K1 prog 91=1:=by kernel_rfl
theorem db8:G3 prog 91=some (.slice none 0 0):=by kernel_rfl
theorem ak6:H9 prog 91=false:=by kernel_rfl
theorem da5:N9 prog 93=some (#[.pointer none,.slice none 0 0,.slice none 0 0,.slice none 0 0,.slice none 0 0,.slice none 0 0],[(0,1),(1,1),(2,1),(3,1),(4,1),(5,1)]):=by kernel_rfl
theorem cx5:(prog.info? 97).isSome=true:=by kernel_rfl
theorem bK7:K1 prog 97=3:=by kernel_rfl
theorem db9:G3 prog 97=some (.agg #[.int .i64 0,.int .i64 0,.string ⟨#[]⟩]):=by kernel_rfl
theorem cM0:H9 prog 97=true:=by kernel_rfl
theorem cM2:(prog.underlying 97).isSome=true:=by kernel_rfl
theorem da6:N9 prog 97=some (#[.int .i64 0,.int .i64 0,.string ⟨#[]⟩],[(0,1),(1,1),(2,1)]):=by kernel_rfl
theorem as4:(prog.info? 101).isSome=true:=by kernel_rfl
theorem S4:K1 prog 101=6:=by kernel_rfl
theorem cy8:G3 prog 101=some (.agg #[.bool false,.string ⟨#[]⟩,.int .i64 0,.int .i64 0,.string ⟨#[]⟩,.slice none 0 0]):=by kernel_rfl
theorem ay1:H9 prog 101=true:=by kernel_rfl
theorem ay3:(prog.underlying 101).isSome=true:=by kernel_rfl
theorem cx6:N9 prog 101=some (#[.bool false,.string ⟨#[]⟩,.int .i64 0,.int .i64 0,.string ⟨#[]⟩,.slice none 0 0],[(0,1),(1,1),(2,4)]):=by kernel_rfl
theorem cP7:H9 prog 105=false:=by kernel_rfl
theorem cx3:(prog.info? 107).isSome=true:=by kernel_rfl
theorem cy1:K1 prog 107=2:=by kernel_rfl
theorem bT4:G3 prog 107=some (.agg #[.int .i64 0,.int .i64 0]):=by kernel_rfl
theorem cw8:H9 prog 107=true:=by kernel_rfl
theorem cy4:(prog.underlying 107).isSome=true:=by kernel_rfl
theorem bT1:N9 prog 107=some (#[.int .i64 0,.int .i64 0],[(0,1),(1,1)]):=by kernel_rfl
theorem cQ7:K1 prog 111=1:=by kernel_rfl
theorem cy9:G3 prog 111=some (.slice none 0 0):=by kernel_rfl
theorem aU9:H9 prog 111=false:=by kernel_rfl
theorem aD7:K1 prog 112=1:=by kernel_rfl
theorem T5:G3 prog 112=some (.slice none 0 0):=by kernel_rfl
theorem R0:H9 prog 112=false:=by kernel_rfl
theorem bS7:K6 prog 112=some 3:=by kernel_rfl
theorem cQ6:eqT prog 112=3:=by kernel_rfl
theorem cP8:N9 prog 114=some (#[.slice none 0 0,.slice none 0 0,.slice none 0 0,.slice none 0 0,.slice none 0 0],[(0,2),(2,1),(3,1),(4,1)]):=by kernel_rfl
theorem cP9:N9 prog 116=some (#[.pointer none,.int .i64 0,.string ⟨#[]⟩,.slice none 0 0,.slice none 0 0,.slice none 0 0,.slice none 0 0,.slice none 0 0,.slice none 0 0],[(0,1),(1,1),(2,5),(7,1),(8,1)]):=by kernel_rfl
theorem Y5:(prog.info? 121).isSome=true:=by kernel_rfl
theorem I5:K1 prog 121=17:=by kernel_rfl
theorem bT5:G3 prog 121=some (.agg #[.int .i64 0,.int .i64 0,.slice none 0 0,.string ⟨#[]⟩,.string ⟨#[]⟩,.int .i64 0,.int .i64 0,.string ⟨#[]⟩,.slice none 0 0,.bool false,.slice none 0 0,.slice none 0 0,.slice none 0 0,.int .i64 0,.int .i64 0,.int .i64 0,.int .i64 0]):=by kernel_rfl
theorem aa4:H9 prog 121=true:=by kernel_rfl
theorem aa5:(prog.underlying 121).isSome=true:=by kernel_rfl
theorem cx7:N9 prog 121=some (#[.int .i64 0,.int .i64 0,.slice none 0 0,.string ⟨#[]⟩,.string ⟨#[]⟩,.int .i64 0,.int .i64 0,.string ⟨#[]⟩,.slice none 0 0,.bool false,.slice none 0 0,.slice none 0 0,.slice none 0 0,.int .i64 0,.int .i64 0,.int .i64 0,.int .i64 0],[(0,13),(13,1),(14,1),(15,1),(16,1)]):=by kernel_rfl
theorem ay2:H9 prog 126=false:=by kernel_rfl
theorem bT0:(prog.info? 128).isSome=true:=by kernel_rfl
theorem bk7:K1 prog 128=2:=by kernel_rfl
theorem cz0:G3 prog 128=some (.agg #[.int .i64 0,.int .i64 0]):=by kernel_rfl
theorem cw9:H9 prog 128=true:=by kernel_rfl
theorem cy5:(prog.underlying 128).isSome=true:=by kernel_rfl
theorem cQ0:N9 prog 128=some (#[.int .i64 0,.int .i64 0],[(0,1),(1,1)]):=by kernel_rfl
theorem bS8:H9 prog 144=false:=by kernel_rfl
theorem bA3:K1 prog 149=1:=by kernel_rfl
theorem aV1:G3 prog 149=some (.slice none 0 0):=by kernel_rfl
theorem aj5:H9 prog 149=false:=by kernel_rfl
theorem cQ1:N9 prog 151=some (#[.pointer none,.int .i64 0,.int .i64 0,.slice none 0 0,.slice none 0 0],[(0,1),(1,1),(2,1),(3,1),(4,1)]):=by kernel_rfl
theorem cQ8:K1 prog 153=1:=by kernel_rfl
theorem cz1:G3 prog 153=some (.slice none 0 0):=by kernel_rfl
theorem T4:H9 prog 153=false:=by kernel_rfl
theorem bk6:(prog.info? 186).isSome=true:=by kernel_rfl
theorem aK6:K1 prog 186=3:=by kernel_rfl
theorem cz2:G3 prog 186=some (.agg #[.int .i64 0,.int .i64 0,.int .i64 0]):=by kernel_rfl
theorem bS9:H9 prog 186=true:=by kernel_rfl
theorem bT3:(prog.underlying 186).isSome=true:=by kernel_rfl
theorem cQ2:N9 prog 186=some (#[.int .i64 0,.int .i64 0,.int .i64 0],[(0,1),(1,1),(2,1)]):=by kernel_rfl
theorem bA2:(prog.info? 189).isSome=true:=by kernel_rfl
theorem ad4:K1 prog 189=2:=by kernel_rfl
theorem aV2:G3 prog 189=some (.agg #[.slice none 0 0,.int .i64 0]):=by kernel_rfl
theorem bA1:H9 prog 189=true:=by kernel_rfl
theorem bA5:(prog.underlying 189).isSome=true:=by kernel_rfl
theorem cQ3:N9 prog 189=some (#[.slice none 0 0,.int .i64 0],[(0,1),(1,1)]):=by kernel_rfl
theorem cQ4:N9 prog 197=some (#[.int .i64 0],[(0,1)]):=by kernel_rfl
theorem bA4:K1 prog 220=1:=by kernel_rfl
theorem ay4:G3 prog 220=some (.int .u64 0):=by kernel_rfl
theorem aj6:H9 prog 220=false:=by kernel_rfl
theorem cQ5:N9 prog 234=some (#[.slice none 0 0,.slice none 0 0],[(0,1),(1,1)]):=by kernel_rfl
theorem bT2:K1 prog 275=1:=by kernel_rfl
theorem aV3:G3 prog 275=some (.slice none 0 0):=by kernel_rfl
theorem aV0:H9 prog 275=false:=by kernel_rfl
theorem hm:prog.follows .mixedOrders=true:=by kernel_rfl

theorem TY:(prog.info? 3).isSome=true∧K1 prog 3=1∧(prog.info? 4).isSome=true∧K1 prog 4=1∧(prog.info? 9).isSome=true∧K1 prog 9=1∧K6 prog 9=none∧bA0 prog 9=true∧(prog.info? 22).isSome=true∧K1 prog 22=1∧K6 prog 22=some 9∧K6 prog 23=some 51∧B9 prog 25 0=some (0,22)∧B9 prog 25 1=some (1,23)∧K6 prog 30=some 36∧K6 prog 32=some 60∧(prog.info? 36).isSome=true∧K1 prog 36=4∧B9 prog 36 0=some (0,9)∧B9 prog 36 1=some (1,3)∧B9 prog 36 2=some (2,3)∧B9 prog 36 3=some (3,9)∧K6 prog 39=some 41∧(prog.info? 41).isSome=true∧K1 prog 41=4∧B9 prog 41 0=some (0,3)∧B9 prog 41 1=some (1,2)∧B9 prog 41 2=some (2,9)∧B9 prog 41 3=some (3,39)∧K6 prog 42=some 101∧K6 prog 43=some 45∧(prog.info? 45).isSome=true∧K1 prog 45=13∧B9 prog 45 0=some (0,3)∧B9 prog 45 1=some (1,3)∧B9 prog 45 2=some (2,22)∧B9 prog 45 3=some (3,9)∧B9 prog 45 4=some (4,9)∧B9 prog 45 5=some (5,41)∧B9 prog 45 6=some (9,4)∧B9 prog 45 7=some (10,42)∧B9 prog 45 8=some (11,43)∧B9 prog 45 9=some (12,43)∧K6 prog 49=some 68∧(prog.info? 51).isSome=true∧K1 prog 51=5∧B9 prog 51 0=some (0,9)∧B9 prog 51 1=some (1,49)∧B9 prog 51 2=some (2,22)∧B9 prog 51 3=some (3,43)∧B9 prog 51 4=some (4,22)∧K6 prog 54=some 57∧(prog.info? 57).isSome=true∧K1 prog 57=16∧B9 prog 57 0=some (0,45)∧B9 prog 57 1=some (13,3)∧(prog.info? 60).isSome=true∧K1 prog 60=9∧B9 prog 60 0=some (0,36)∧B9 prog 60 1=some (4,36)∧B9 prog 60 2=some (8,3)∧(prog.info? 68).isSome=true∧K1 prog 68=2∧B9 prog 68 0=some (0,9)∧B9 prog 68 1=some (1,4)∧K6 prog 90=some 126∧K6 prog 91=some 22∧B9 prog 93 0=some (0,89)∧B9 prog 93 1=some (1,90)∧B9 prog 93 2=some (2,91)∧B9 prog 93 3=some (3,91)∧B9 prog 93 4=some (4,91)∧B9 prog 93 5=some (5,91)∧K6 prog 95=some 97∧(prog.info? 97).isSome=true∧K1 prog 97=3∧B9 prog 97 0=some (0,3)∧B9 prog 97 1=some (1,3)∧B9 prog 97 2=some (2,9)∧(prog.info? 101).isSome=true∧K1 prog 101=6∧B9 prog 101 0=some (0,4)∧B9 prog 101 1=some (1,9)∧B9 prog 101 2=some (2,41)∧B9 prog 107 0=some (0,105)∧K6 prog 111=some 121∧(prog.info? 112).isSome=true∧K1 prog 112=1∧K6 prog 112=some 3∧B9 prog 114 0=some (0,25)∧B9 prog 114 1=some (2,111)∧B9 prog 114 2=some (3,112)∧B9 prog 114 3=some (4,112)∧B9 prog 116 0=some (0,78)∧B9 prog 116 2=some (2,51)∧B9 prog 116 3=some (7,30)∧B9 prog 116 4=some (8,32)∧(prog.info? 121).isSome=true∧K1 prog 121=17∧B9 prog 121 0=some (0,45)∧B9 prog 121 1=some (13,3)∧B9 prog 121 3=some (15,3)∧B9 prog 121 4=some (16,3)∧K6 prog 125=some 128∧(prog.info? 126).isSome=true∧K1 prog 126=1∧(prog.info? 128).isSome=true∧K1 prog 128=2∧K6 prog 128=none∧bB9 prog 128=some (2,3)∧K6 prog 144=some 186∧(prog.info? 149).isSome=true∧K1 prog 149=1∧K6 prog 149=some 4∧B9 prog 151 0=some (0,89)∧B9 prog 151 1=some (1,3)∧B9 prog 151 2=some (2,3)∧B9 prog 151 3=some (3,144)∧B9 prog 151 4=some (4,149)∧K6 prog 153=some 112∧K6 prog 166=some 149∧eqT prog 177=2∧(prog.info? 186).isSome=true∧K1 prog 186=3∧B9 prog 186 0=some (0,3)∧B9 prog 186 1=some (1,3)∧B9 prog 186 2=some (2,3)∧B9 prog 189 0=some (0,153)∧B9 prog 189 1=some (1,3)∧B9 prog 197 0=some (0,3)∧(prog.info? 220).isSome=true∧K1 prog 220=1∧B9 prog 234 0=some (0,153)∧B9 prog 234 1=some (1,153)∧K6 prog 243=some 275∧(prog.info? 275).isSome=true∧K1 prog 275=1∧K6 prog 275=some 220:=⟨by kernel_rfl,aQ3,by kernel_rfl,aD8,by kernel_rfl,db0,by kernel_rfl,cy3,by kernel_rfl,cy2,by kernel_rfl,by kernel_rfl,by kernel_rfl,by kernel_rfl,by kernel_rfl,by kernel_rfl,aH8,ad5,by kernel_rfl,by kernel_rfl,by kernel_rfl,by kernel_rfl,by kernel_rfl,aQ1,ad6,by kernel_rfl,by kernel_rfl,by kernel_rfl,by kernel_rfl,by kernel_rfl,by kernel_rfl,aQ2,ai7,by kernel_rfl,by kernel_rfl,by kernel_rfl,by kernel_rfl,by kernel_rfl,by kernel_rfl,by kernel_rfl,by kernel_rfl,by kernel_rfl,by kernel_rfl,by kernel_rfl,ad3,I8,by kernel_rfl,by kernel_rfl,by kernel_rfl,by kernel_rfl,by kernel_rfl,by kernel_rfl,by kernel_rfl,by kernel_rfl,by kernel_rfl,by kernel_rfl,bK5,bk8,by kernel_rfl,by kernel_rfl,by kernel_rfl,aH9,ad7,by kernel_rfl,by kernel_rfl,by kernel_rfl,by kernel_rfl,by kernel_rfl,by kernel_rfl,by kernel_rfl,by kernel_rfl,by kernel_rfl,by kernel_rfl,by kernel_rfl,cx5,bK7,by kernel_rfl,by kernel_rfl,by kernel_rfl,as4,S4,by kernel_rfl,by kernel_rfl,by kernel_rfl,by kernel_rfl,by kernel_rfl,by kernel_rfl,aD7,bS7,by kernel_rfl,by kernel_rfl,by kernel_rfl,by kernel_rfl,by kernel_rfl,by kernel_rfl,by kernel_rfl,by kernel_rfl,Y5,I5,by kernel_rfl,by kernel_rfl,by kernel_rfl,by kernel_rfl,by kernel_rfl,by kernel_rfl,by kernel_rfl,bT0,bk7,by kernel_rfl,by kernel_rfl,by kernel_rfl,by kernel_rfl,bA3,by kernel_rfl,by kernel_rfl,by kernel_rfl,by kernel_rfl,by kernel_rfl,by kernel_rfl,by kernel_rfl,by kernel_rfl,by kernel_rfl,bk6,aK6,by kernel_rfl,by kernel_rfl,by kernel_rfl,by kernel_rfl,by kernel_rfl,by kernel_rfl,by kernel_rfl,bA4,by kernel_rfl,by kernel_rfl,by kernel_rfl,by kernel_rfl,bT2,by kernel_rfl⟩
theorem cW1{l:List Value}(h:l.length=2):∃a b,l=[a,b]:=by
 match l,h with
 | [a,b],_=>exact⟨a,b,rfl⟩
theorem bq5{l:List Value}(h:l.length=4):∃a b c d,l=[a,b,c,d]:=by
 match l,h with
 | [a,b,c,d],_=>exact⟨a,b,c,d,rfl⟩
theorem aC6{l:List Value}(h:l.length=13):∃a b c d e f g i j k m n o,l=[a,b,c,d,e,f,g,i,j,k,m,n,o]:=by
 match l,h with
 | [a,b,c,d,e,f,g,i,j,k,m,n,o],_=>exact⟨a,b,c,d,e,f,g,i,j,k,m,n,o,rfl⟩
theorem cD2{h:Hp}{cs:List Value}{x:Pa}:A3.enc h cs x→cs=([o9 x.name]:List Value)++([.bool x.ref]:List Value):=by
 intro he;exact he
theorem At.pa{h:Hp}{a:Addr}{x:Pa}(ha:At h a x):(∀w,B4 h (i4 w)→N6 prog w 9 a (o9 x.name)∧N6 prog w 4 (a.add 1) (.bool x.ref))∧(∀(S:World→Prop) (w0:World),S w0→(∀w,S w→B4 h (i4 w))→N7 prog S 9 a (o9 x.name)∧N7 prog S 4 (a.add 1) (.bool x.ref)):=by
 obtain⟨cs,he,hc⟩:=ha;obtain rfl:=cD2 he;exact⟨fun w hw=>⟨E0 hc rfl W2 w hw,t8 hc (o:=1) rfl aj7 w hw⟩,fun S w0 hS hw=>⟨R5 hS fun w' hw'=>E0 hc rfl W2 w' (hw w' hw'),R5 hS fun w' hw'=>t8 hc (o:=1) rfl aj7 w' (hw w' hw')⟩⟩
theorem At.pa_v{h:Hp}{a:Addr}{x:Pa}(ha:At h a x):∃sv,SV h sv x∧(∀w,B4 h (i4 w)→N6 prog w 68 a sv)∧(∀(S:World→Prop) (w0:World),S w0→(∀w,S w→B4 h (i4 w))→N7 prog S 68 a sv):=ha.sv2 aQ0 aQ5 aH9 ad7
theorem bV4{h:Hp}{v:Value}{x:Pa}{w:World}(hv:SV h v x)(hw:B4 h (i4 w)):∃a w',(Instr.box 68 v).run prog w = .ok (.pointer (some a)) w'∧o7 w w'∧At (i4 w') a x:=bv7 hv hw
theorem as1{h:Hp}{v:Value}{x:Pa}{w:World}(hv:SV h v x)(hw:B4 h (i4 w)):∃a wz w',(Instr.alloc 68 true (.tuple #[])).run prog w = .ok (.pointer (some a)) wz∧(Instr.storeAt 68 (.pointer (some a)) v).run prog wz = .ok () w'∧o7 w w'∧At (i4 w') a x:=bl1 hv hw db5 rfl ad7
theorem cD4{h:Hp}{cs:List Value}{x:Sp}:A3.enc h cs x→cs=([.int .i64 x.src]:List Value)++([.int .i64 x.dst]:List Value)++([.int .i64 x.kind]:List Value):=by
 intro he;exact he
theorem At.sp{h:Hp}{a:Addr}{x:Sp}(ha:At h a x):(∀w,B4 h (i4 w)→N6 prog w 3 a (.int .i64 x.src)∧N6 prog w 3 (a.add 1) (.int .i64 x.dst)∧N6 prog w 3 (a.add 2) (.int .i64 x.kind))∧(∀(S:World→Prop) (w0:World),S w0→(∀w,S w→B4 h (i4 w))→N7 prog S 3 a (.int .i64 x.src)∧N7 prog S 3 (a.add 1) (.int .i64 x.dst)∧N7 prog S 3 (a.add 2) (.int .i64 x.kind)):=by
 obtain⟨cs,he,hc⟩:=ha;obtain rfl:=cD4 he;exact⟨fun w hw=>⟨E0 hc rfl F4 w hw,t8 hc (o:=1) rfl F4 w hw,t8 hc (o:=2) rfl F4 w hw⟩,fun S w0 hS hw=>⟨R5 hS fun w' hw'=>E0 hc rfl F4 w' (hw w' hw'),R5 hS fun w' hw'=>t8 hc (o:=1) rfl F4 w' (hw w' hw'),R5 hS fun w' hw'=>t8 hc (o:=2) rfl F4 w' (hw w' hw')⟩⟩
theorem At.sp_v{h:Hp}{a:Addr}{x:Sp}(ha:At h a x):∃sv,SV h sv x∧(∀w,B4 h (i4 w)→N6 prog w 186 a sv)∧(∀(S:World→Prop) (w0:World),S w0→(∀w,S w→B4 h (i4 w))→N7 prog S 186 a sv):=ha.sv2 bS9 bT3 bk6 aK6
theorem bV5{h:Hp}{v:Value}{x:Sp}{w:World}(hv:SV h v x)(hw:B4 h (i4 w)):∃a w',(Instr.box 186 v).run prog w = .ok (.pointer (some a)) w'∧o7 w w'∧At (i4 w') a x:=bv7 hv hw
theorem cH9{h:Hp}{v:Value}{x:Sp}{w:World}(hv:SV h v x)(hw:B4 h (i4 w)):∃a wz w',(Instr.alloc 186 true (.tuple #[])).run prog w = .ok (.pointer (some a)) wz∧(Instr.storeAt 186 (.pointer (some a)) v).run prog wz = .ok () w'∧o7 w w'∧At (i4 w') a x:=bl1 hv hw cz2 rfl aK6
theorem cD1{h:Hp}{cs:List Value}{x:Fw}:A3.enc h cs x→cs=([.int .i64 x.src]:List Value)++([.int .i64 x.dst]:List Value)++([o9 x.var]:List Value):=by
 intro he;exact he
theorem At.fw{h:Hp}{a:Addr}{x:Fw}(ha:At h a x):(∀w,B4 h (i4 w)→N6 prog w 3 a (.int .i64 x.src)∧N6 prog w 3 (a.add 1) (.int .i64 x.dst)∧N6 prog w 9 (a.add 2) (o9 x.var))∧(∀(S:World→Prop) (w0:World),S w0→(∀w,S w→B4 h (i4 w))→N7 prog S 3 a (.int .i64 x.src)∧N7 prog S 3 (a.add 1) (.int .i64 x.dst)∧N7 prog S 9 (a.add 2) (o9 x.var)):=by
 obtain⟨cs,he,hc⟩:=ha;obtain rfl:=cD1 he;exact⟨fun w hw=>⟨E0 hc rfl F4 w hw,t8 hc (o:=1) rfl F4 w hw,t8 hc (o:=2) rfl W2 w hw⟩,fun S w0 hS hw=>⟨R5 hS fun w' hw'=>E0 hc rfl F4 w' (hw w' hw'),R5 hS fun w' hw'=>t8 hc (o:=1) rfl F4 w' (hw w' hw'),R5 hS fun w' hw'=>t8 hc (o:=2) rfl W2 w' (hw w' hw')⟩⟩
theorem cH7{h:Hp}{v:Value}{x:Fw}{w:World}(hv:SV h v x)(hw:B4 h (i4 w)):∃a wz w',(Instr.alloc 97 true (.tuple #[])).run prog w = .ok (.pointer (some a)) wz∧(Instr.storeAt 97 (.pointer (some a)) v).run prog wz = .ok () w'∧o7 w w'∧At (i4 w') a x:=bl1 hv hw db9 rfl bK7
theorem cD5{h:Hp}{cs:List Value}{x:Vx}:A3.enc h cs x→cs=([o9 x.proc]:List Value)++([.int .i64 x.kind]:List Value)++([.int .i64 x.id]:List Value)++([o9 x.slot]:List Value):=by
 intro he;exact he
theorem At.vx{h:Hp}{a:Addr}{x:Vx}(ha:At h a x):(∀w,B4 h (i4 w)→N6 prog w 9 a (o9 x.proc)∧N6 prog w 3 (a.add 1) (.int .i64 x.kind)∧N6 prog w 3 (a.add 2) (.int .i64 x.id)∧N6 prog w 9 (a.add 3) (o9 x.slot))∧(∀(S:World→Prop) (w0:World),S w0→(∀w,S w→B4 h (i4 w))→N7 prog S 9 a (o9 x.proc)∧N7 prog S 3 (a.add 1) (.int .i64 x.kind)∧N7 prog S 3 (a.add 2) (.int .i64 x.id)∧N7 prog S 9 (a.add 3) (o9 x.slot)):=by
 obtain⟨cs,he,hc⟩:=ha;obtain rfl:=cD5 he;exact⟨fun w hw=>⟨E0 hc rfl W2 w hw,t8 hc (o:=1) rfl F4 w hw,t8 hc (o:=2) rfl F4 w hw,t8 hc (o:=3) rfl W2 w hw⟩,fun S w0 hS hw=>⟨R5 hS fun w' hw'=>E0 hc rfl W2 w' (hw w' hw'),R5 hS fun w' hw'=>t8 hc (o:=1) rfl F4 w' (hw w' hw'),R5 hS fun w' hw'=>t8 hc (o:=2) rfl F4 w' (hw w' hw'),R5 hS fun w' hw'=>t8 hc (o:=3) rfl W2 w' (hw w' hw')⟩⟩
theorem J6.vx_v{h k:Hp}{a:Addr}{v:Value}{x:Vx}(hv:SV h v x)(ha:J6 k a v):(∀w,B4 k (i4 w)→N6 prog w 36 a v)∧(∀(S:World→Prop) (w0:World),S w0→(∀w,S w→B4 k (i4 w))→N7 prog S 36 a v):=ha.whole hv aP9 aQ4 aH8 ad5
theorem bV8{h:Hp}{v:Value}{x:Vx}{w:World}(N:Nat→Prop)(hv:SV h v x)(hN:∀b,N b→b<w.heap.size):∃a w',(Instr.box 36 v).run prog w = .ok (.pointer (some a)) w'∧o7 w w'∧J6 (B6 w' N) a v:=cc4 hv hN
theorem ca6{h:Hp}{v:Value}{x:Vx}{w:World}(N:Nat→Prop)(hv:SV h v x)(hN:∀b,N b→b<w.heap.size):∃a wz w',(Instr.alloc 36 true (.tuple #[])).run prog w = .ok (.pointer (some a)) wz∧(Instr.storeAt 36 (.pointer (some a)) v).run prog wz = .ok () w'∧o7 w w'∧J6 (B6 w' N) a v:=cj9 hv hN bu1 rfl ad5
theorem At.vx_v{h:Hp}{a:Addr}{x:Vx}(ha:At h a x):∃sv,SV h sv x∧(∀w,B4 h (i4 w)→N6 prog w 36 a sv)∧(∀(S:World→Prop) (w0:World),S w0→(∀w,S w→B4 h (i4 w))→N7 prog S 36 a sv):=ha.sv2 aP9 aQ4 aH8 ad5
theorem bb1{h:Hp}{v:Value}{x:Vx}{w:World}(hv:SV h v x)(hw:B4 h (i4 w)):∃a w',(Instr.box 36 v).run prog w = .ok (.pointer (some a)) w'∧o7 w w'∧At (i4 w') a x:=bv7 hv hw
theorem ca4{h:Hp}{v:Value}{x:Vx}{w:World}(hv:SV h v x)(hw:B4 h (i4 w)):∃a wz w',(Instr.alloc 36 true (.tuple #[])).run prog w = .ok (.pointer (some a)) wz∧(Instr.storeAt 36 (.pointer (some a)) v).run prog wz = .ok () w'∧o7 w w'∧At (i4 w') a x:=bl1 hv hw bu1 rfl ad5
theorem cD0{h:Hp}{cs:List Value}{x:Eg}:A3.enc h cs x→∃c_src c_dst,cs=c_src++c_dst++([.int .i64 x.kind]:List Value)∧A3.enc h c_src x.src∧A3.enc h c_dst x.dst:=by
 intro he;exact⟨x.src.cells,x.dst.cells,he,rfl,rfl⟩
theorem At.eg{h:Hp}{a:Addr}{x:Eg}(ha:At h a x):At h a x.src∧At h (a.add 4) x.dst∧(∀w,B4 h (i4 w)→N6 prog w 3 (a.add 8) (.int .i64 x.kind))∧(∀(S:World→Prop) (w0:World),S w0→(∀w,S w→B4 h (i4 w))→N7 prog S 3 (a.add 8) (.int .i64 x.kind)):=by
 obtain⟨cs,he,hc⟩:=ha;obtain⟨c_src,c_dst,rfl,h_src,h_dst⟩:=cD0 he;obtain⟨a_src0,a_src1,a_src2,a_src3,rfl⟩:=bq5 (A3.len h_src);obtain⟨a_dst0,a_dst1,a_dst2,a_dst3,rfl⟩:=bq5 (A3.len h_dst);exact⟨aL6 hc h_src (fun j u hj=>by
  match j,hj with
  | 0,hj=>exact hj
  | 1,hj=>exact hj
  | 2,hj=>exact hj
  | 3,hj=>exact hj
  | m+4,hj=>simp at hj),ba8 hc h_dst (fun j u hj=>by
  match j,hj with
  | 0,hj=>exact hj
  | 1,hj=>exact hj
  | 2,hj=>exact hj
  | 3,hj=>exact hj
  | m+4,hj=>simp at hj),fun w hw=>t8 hc (o:=8) rfl F4 w hw,fun S w0 hS hw=>R5 hS fun w' hw'=>t8 hc (o:=8) rfl F4 w' (hw w' hw')⟩
theorem At.eg_v{h:Hp}{a:Addr}{x:Eg}(ha:At h a x):∃sv,SV h sv x∧(∀w,B4 h (i4 w)→N6 prog w 60 a sv)∧(∀(S:World→Prop) (w0:World),S w0→(∀w,S w→B4 h (i4 w))→N7 prog S 60 a sv):=ha.sv2 cx1 cy7 bK5 bk8
theorem cH5{h:Hp}{v:Value}{x:Eg}{w:World}(hv:SV h v x)(hw:B4 h (i4 w)):∃a wz w',(Instr.alloc 60 true (.tuple #[])).run prog w = .ok (.pointer (some a)) wz∧(Instr.storeAt 60 (.pointer (some a)) v).run prog wz = .ok () w'∧o7 w w'∧At (i4 w') a x:=bl1 hv hw cM4 rfl bk8
theorem bW7{h:Hp}{cs:List Value}{x:Ex}:A3.enc h cs x→∃v_kids,cs=([.int .i64 x.op]:List Value)++([.int .i64 x.n]:List Value)++([o9 x.name]:List Value)++([v_kids]:List Value)∧R h v_kids x.kids:=by
 intro he;obtain⟨vk,rfl,h1⟩:=bw7.1 he;exact⟨vk,rfl,h1⟩
theorem At.ex{h:Hp}{a:Addr}{x:Ex}(ha:At h a x):∃v_kids,R h v_kids x.kids∧(∀w,B4 h (i4 w)→N6 prog w 3 a (.int .i64 x.op)∧N6 prog w 2 (a.add 1) (.int .i64 x.n)∧N6 prog w 9 (a.add 2) (o9 x.name)∧N6 prog w 39 (a.add 3) v_kids)∧(∀(S:World→Prop) (w0:World),S w0→(∀w,S w→B4 h (i4 w))→N7 prog S 3 a (.int .i64 x.op)∧N7 prog S 2 (a.add 1) (.int .i64 x.n)∧N7 prog S 9 (a.add 2) (o9 x.name)∧N7 prog S 39 (a.add 3) v_kids):=by
 obtain⟨cs,he,hc⟩:=ha;obtain⟨v_kids,rfl,h_kids⟩:=bW7 he;exact⟨_,h_kids,fun w hw=>⟨E0 hc rfl F4 w hw,t8 hc (o:=1) rfl cH4 w hw,t8 hc (o:=2) rfl W2 w hw,t8 hc (o:=3) rfl bZ9 w hw⟩,fun S w0 hS hw=>⟨R5 hS fun w' hw'=>E0 hc rfl F4 w' (hw w' hw'),R5 hS fun w' hw'=>t8 hc (o:=1) rfl cH4 w' (hw w' hw'),R5 hS fun w' hw'=>t8 hc (o:=2) rfl W2 w' (hw w' hw'),R5 hS fun w' hw'=>t8 hc (o:=3) rfl bZ9 w' (hw w' hw')⟩⟩
theorem J6.ex{h k:Hp}{a:Addr}{v:Value}{x:Ex}(hv:SV h v x)(ha:J6 k a v):∃v_kids,R h v_kids x.kids∧(∀w,B4 k (i4 w)→N6 prog w 3 a (.int .i64 x.op)∧N6 prog w 2 (a.add 1) (.int .i64 x.n)∧N6 prog w 9 (a.add 2) (o9 x.name)∧N6 prog w 39 (a.add 3) v_kids)∧(∀(S:World→Prop) (w0:World),S w0→(∀w,S w→B4 k (i4 w))→N7 prog S 3 a (.int .i64 x.op)∧N7 prog S 2 (a.add 1) (.int .i64 x.n)∧N7 prog S 9 (a.add 2) (o9 x.name)∧N7 prog S 39 (a.add 3) v_kids):=by
 obtain⟨cs,rfl,he⟩:=hv;obtain⟨cs2,e2,hc⟩:=ha;obtain rfl:=ag8 e2;obtain⟨v_kids,rfl,h_kids⟩:=bW7 he;exact⟨_,h_kids,fun w hw=>⟨E0 hc rfl F4 w hw,t8 hc (o:=1) rfl cH4 w hw,t8 hc (o:=2) rfl W2 w hw,t8 hc (o:=3) rfl bZ9 w hw⟩,fun S w0 hS hw=>⟨R5 hS fun w' hw'=>E0 hc rfl F4 w' (hw w' hw'),R5 hS fun w' hw'=>t8 hc (o:=1) rfl cH4 w' (hw w' hw'),R5 hS fun w' hw'=>t8 hc (o:=2) rfl W2 w' (hw w' hw'),R5 hS fun w' hw'=>t8 hc (o:=3) rfl bZ9 w' (hw w' hw')⟩⟩
theorem J6.ex_v{h k:Hp}{a:Addr}{v:Value}{x:Ex}(hv:SV h v x)(ha:J6 k a v):(∀w,B4 k (i4 w)→N6 prog w 41 a v)∧(∀(S:World→Prop) (w0:World),S w0→(∀w,S w→B4 k (i4 w))→N7 prog S 41 a v):=ha.whole hv aZ6 aZ7 aQ1 ad6
theorem bb2{h:Hp}{v:Value}{x:Ex}{w:World}(N:Nat→Prop)(hv:SV h v x)(hN:∀b,N b→b<w.heap.size):∃a w',(Instr.box 41 v).run prog w = .ok (.pointer (some a)) w'∧o7 w w'∧J6 (B6 w' N) a v:=cc4 hv hN
theorem cI0{h:Hp}{v:Value}{x:Ex}{w:World}(N:Nat→Prop)(hv:SV h v x)(hN:∀b,N b→b<w.heap.size):∃a wz w',(Instr.alloc 41 true (.tuple #[])).run prog w = .ok (.pointer (some a)) wz∧(Instr.storeAt 41 (.pointer (some a)) v).run prog wz = .ok () w'∧o7 w w'∧J6 (B6 w' N) a v:=cj9 hv hN cz3 rfl ad6
theorem At.ex_v{h:Hp}{a:Addr}{x:Ex}(ha:At h a x):∃sv,SV h sv x∧(∀w,B4 h (i4 w)→N6 prog w 41 a sv)∧(∀(S:World→Prop) (w0:World),S w0→(∀w,S w→B4 h (i4 w))→N7 prog S 41 a sv):=ha.sv2 aZ6 aZ7 aQ1 ad6
theorem ag9{h:Hp}{v:Value}{x:Ex}{w:World}(hv:SV h v x)(hw:B4 h (i4 w)):∃a w',(Instr.box 41 v).run prog w = .ok (.pointer (some a)) w'∧o7 w w'∧At (i4 w') a x:=bv7 hv hw
theorem cH6{h:Hp}{v:Value}{x:Ex}{w:World}(hv:SV h v x)(hw:B4 h (i4 w)):∃a wz w',(Instr.alloc 41 true (.tuple #[])).run prog w = .ok (.pointer (some a)) wz∧(Instr.storeAt 41 (.pointer (some a)) v).run prog wz = .ok () w'∧o7 w w'∧At (i4 w') a x:=bl1 hv hw cz3 rfl ad6
theorem bW6{h:Hp}{cs:List Value}{x:Ar}:A3.enc h cs x→∃c_x,cs=([.bool x.ref]:List Value)++([o9 x.name]:List Value)++c_x∧A3.enc h c_x x.x:=by
 rintro⟨c,rfl,h1⟩;exact⟨c,rfl,h1⟩
theorem At.ar{h:Hp}{a:Addr}{x:Ar}(ha:At h a x):At h (a.add 2) x.x∧(∀w,B4 h (i4 w)→N6 prog w 4 a (.bool x.ref)∧N6 prog w 9 (a.add 1) (o9 x.name))∧(∀(S:World→Prop) (w0:World),S w0→(∀w,S w→B4 h (i4 w))→N7 prog S 4 a (.bool x.ref)∧N7 prog S 9 (a.add 1) (o9 x.name)):=by
 obtain⟨cs,he,hc⟩:=ha;obtain⟨c_x,rfl,h_x⟩:=bW6 he;obtain⟨a_x0,a_x1,a_x2,a_x3,rfl⟩:=bq5 (A3.len h_x);exact⟨ba8 hc h_x (fun j u hj=>by
  match j,hj with
  | 0,hj=>exact hj
  | 1,hj=>exact hj
  | 2,hj=>exact hj
  | 3,hj=>exact hj
  | m+4,hj=>simp at hj),fun w hw=>⟨E0 hc rfl aj7 w hw,t8 hc (o:=1) rfl W2 w hw⟩,fun S w0 hS hw=>⟨R5 hS fun w' hw'=>E0 hc rfl aj7 w' (hw w' hw'),R5 hS fun w' hw'=>t8 hc (o:=1) rfl W2 w' (hw w' hw')⟩⟩
theorem J6.ar{h k:Hp}{a:Addr}{v:Value}{x:Ar}(hv:SV h v x)(ha:J6 k a v):∃u_x,SV h u_x x.x∧J6 k (a.add 2) u_x∧(∀w,B4 k (i4 w)→N6 prog w 4 a (.bool x.ref)∧N6 prog w 9 (a.add 1) (o9 x.name))∧(∀(S:World→Prop) (w0:World),S w0→(∀w,S w→B4 k (i4 w))→N7 prog S 4 a (.bool x.ref)∧N7 prog S 9 (a.add 1) (o9 x.name)):=by
 obtain⟨cs,rfl,he⟩:=hv;obtain⟨cs2,e2,hc⟩:=ha;obtain rfl:=ag8 e2;obtain⟨c_x,rfl,h_x⟩:=bW6 he;obtain⟨a_x0,a_x1,a_x2,a_x3,rfl⟩:=bq5 (A3.len h_x);exact⟨_,⟨_,rfl,h_x⟩,bc9 hc (fun j u hj=>by
  match j,hj with
  | 0,hj=>exact hj
  | 1,hj=>exact hj
  | 2,hj=>exact hj
  | 3,hj=>exact hj
  | m+4,hj=>simp at hj),fun w hw=>⟨E0 hc rfl aj7 w hw,t8 hc (o:=1) rfl W2 w hw⟩,fun S w0 hS hw=>⟨R5 hS fun w' hw'=>E0 hc rfl aj7 w' (hw w' hw'),R5 hS fun w' hw'=>t8 hc (o:=1) rfl W2 w' (hw w' hw')⟩⟩
theorem ca5{h:Hp}{v:Value}{x:Ar}{w:World}(N:Nat→Prop)(hv:SV h v x)(hN:∀b,N b→b<w.heap.size):∃a wz w',(Instr.alloc 101 true (.tuple #[])).run prog w = .ok (.pointer (some a)) wz∧(Instr.storeAt 101 (.pointer (some a)) v).run prog wz = .ok () w'∧o7 w w'∧J6 (B6 w' N) a v:=cj9 hv hN cy8 rfl S4
theorem At.ar_v{h:Hp}{a:Addr}{x:Ar}(ha:At h a x):∃sv,SV h sv x∧(∀w,B4 h (i4 w)→N6 prog w 101 a sv)∧(∀(S:World→Prop) (w0:World),S w0→(∀w,S w→B4 h (i4 w))→N7 prog S 101 a sv):=ha.sv2 ay1 ay3 as4 S4
theorem bV2{h:Hp}{v:Value}{x:Ar}{w:World}(hv:SV h v x)(hw:B4 h (i4 w)):∃a w',(Instr.box 101 v).run prog w = .ok (.pointer (some a)) w'∧o7 w w'∧At (i4 w') a x:=bv7 hv hw
theorem aG2{h:Hp}{v:Value}{x:Ar}{w:World}(hv:SV h v x)(hw:B4 h (i4 w)):∃a wz w',(Instr.alloc 101 true (.tuple #[])).run prog w = .ok (.pointer (some a)) wz∧(Instr.storeAt 101 (.pointer (some a)) v).run prog wz = .ok () w'∧o7 w w'∧At (i4 w') a x:=bl1 hv hw cy8 rfl S4
theorem bX0{h:Hp}{cs:List Value}{x:St}:A3.enc h cs x→∃v_labels c_x v_args v_thn v_els,cs=([.int .i64 x.id]:List Value)++([.int .i64 x.kind]:List Value)++([v_labels]:List Value)++([o9 x.name]:List Value)++([o9 x.proc]:List Value)++c_x++([.bool x.has]:List Value)++([v_args]:List Value)++([v_thn]:List Value)++([v_els]:List Value)∧R h v_labels x.labels∧A3.enc h c_x x.x∧R h v_args x.args∧R h v_thn x.thn∧R h v_els x.els:=by
 intro he;obtain⟨vl,cx,va,vt,ve,rfl,h1,h2,h3,h4,h5⟩:=bw8.1 he;exact⟨vl,cx,va,vt,ve,by simp,h1,h2,h3,h4,h5⟩
theorem At.st{h:Hp}{a:Addr}{x:St}(ha:At h a x):∃v_labels v_args v_thn v_els,R h v_labels x.labels∧R h v_args x.args∧R h v_thn x.thn∧R h v_els x.els∧At h (a.add 5) x.x∧(∀w,B4 h (i4 w)→N6 prog w 3 a (.int .i64 x.id)∧N6 prog w 3 (a.add 1) (.int .i64 x.kind)∧N6 prog w 22 (a.add 2) v_labels∧N6 prog w 9 (a.add 3) (o9 x.name)∧N6 prog w 9 (a.add 4) (o9 x.proc)∧N6 prog w 4 (a.add 9) (.bool x.has)∧N6 prog w 42 (a.add 10) v_args∧N6 prog w 43 (a.add 11) v_thn∧N6 prog w 43 (a.add 12) v_els)∧(∀(S:World→Prop) (w0:World),S w0→(∀w,S w→B4 h (i4 w))→N7 prog S 3 a (.int .i64 x.id)∧N7 prog S 3 (a.add 1) (.int .i64 x.kind)∧N7 prog S 22 (a.add 2) v_labels∧N7 prog S 9 (a.add 3) (o9 x.name)∧N7 prog S 9 (a.add 4) (o9 x.proc)∧N7 prog S 4 (a.add 9) (.bool x.has)∧N7 prog S 42 (a.add 10) v_args∧N7 prog S 43 (a.add 11) v_thn∧N7 prog S 43 (a.add 12) v_els):=by
 obtain⟨cs,he,hc⟩:=ha;obtain⟨v_labels,c_x,v_args,v_thn,v_els,rfl,h_labels,h_x,h_args,h_thn,h_els⟩:=bX0 he;obtain⟨a_x0,a_x1,a_x2,a_x3,rfl⟩:=bq5 (A3.len h_x);exact⟨_,_,_,_,h_labels,h_args,h_thn,h_els,ba8 hc h_x (fun j u hj=>by
  match j,hj with
  | 0,hj=>exact hj
  | 1,hj=>exact hj
  | 2,hj=>exact hj
  | 3,hj=>exact hj
  | m+4,hj=>simp at hj),fun w hw=>⟨E0 hc rfl F4 w hw,t8 hc (o:=1) rfl F4 w hw,t8 hc (o:=2) rfl M2 w hw,t8 hc (o:=3) rfl W2 w hw,t8 hc (o:=4) rfl W2 w hw,t8 hc (o:=9) rfl aj7 w hw,t8 hc (o:=10) rfl ca0 w hw,t8 hc (o:=11) rfl az9 w hw,t8 hc (o:=12) rfl az9 w hw⟩,fun S w0 hS hw=>⟨R5 hS fun w' hw'=>E0 hc rfl F4 w' (hw w' hw'),R5 hS fun w' hw'=>t8 hc (o:=1) rfl F4 w' (hw w' hw'),R5 hS fun w' hw'=>t8 hc (o:=2) rfl M2 w' (hw w' hw'),R5 hS fun w' hw'=>t8 hc (o:=3) rfl W2 w' (hw w' hw'),R5 hS fun w' hw'=>t8 hc (o:=4) rfl W2 w' (hw w' hw'),R5 hS fun w' hw'=>t8 hc (o:=9) rfl aj7 w' (hw w' hw'),R5 hS fun w' hw'=>t8 hc (o:=10) rfl ca0 w' (hw w' hw'),R5 hS fun w' hw'=>t8 hc (o:=11) rfl az9 w' (hw w' hw'),R5 hS fun w' hw'=>t8 hc (o:=12) rfl az9 w' (hw w' hw')⟩⟩
theorem J6.st{h k:Hp}{a:Addr}{v:Value}{x:St}(hv:SV h v x)(ha:J6 k a v):∃v_labels u_x v_args v_thn v_els,R h v_labels x.labels∧SV h u_x x.x∧J6 k (a.add 5) u_x∧R h v_args x.args∧R h v_thn x.thn∧R h v_els x.els∧(∀w,B4 k (i4 w)→N6 prog w 3 a (.int .i64 x.id)∧N6 prog w 3 (a.add 1) (.int .i64 x.kind)∧N6 prog w 22 (a.add 2) v_labels∧N6 prog w 9 (a.add 3) (o9 x.name)∧N6 prog w 9 (a.add 4) (o9 x.proc)∧N6 prog w 4 (a.add 9) (.bool x.has)∧N6 prog w 42 (a.add 10) v_args∧N6 prog w 43 (a.add 11) v_thn∧N6 prog w 43 (a.add 12) v_els)∧(∀(S:World→Prop) (w0:World),S w0→(∀w,S w→B4 k (i4 w))→N7 prog S 3 a (.int .i64 x.id)∧N7 prog S 3 (a.add 1) (.int .i64 x.kind)∧N7 prog S 22 (a.add 2) v_labels∧N7 prog S 9 (a.add 3) (o9 x.name)∧N7 prog S 9 (a.add 4) (o9 x.proc)∧N7 prog S 4 (a.add 9) (.bool x.has)∧N7 prog S 42 (a.add 10) v_args∧N7 prog S 43 (a.add 11) v_thn∧N7 prog S 43 (a.add 12) v_els):=by
 obtain⟨cs,rfl,he⟩:=hv;obtain⟨cs2,e2,hc⟩:=ha;obtain rfl:=ag8 e2;obtain⟨v_labels,c_x,v_args,v_thn,v_els,rfl,h_labels,h_x,h_args,h_thn,h_els⟩:=bX0 he;obtain⟨a_x0,a_x1,a_x2,a_x3,rfl⟩:=bq5 (A3.len h_x);exact⟨_,_,_,_,_,h_labels,⟨_,rfl,h_x⟩,bc9 hc (fun j u hj=>by
  match j,hj with
  | 0,hj=>exact hj
  | 1,hj=>exact hj
  | 2,hj=>exact hj
  | 3,hj=>exact hj
  | m+4,hj=>simp at hj),h_args,h_thn,h_els,fun w hw=>⟨E0 hc rfl F4 w hw,t8 hc (o:=1) rfl F4 w hw,t8 hc (o:=2) rfl M2 w hw,t8 hc (o:=3) rfl W2 w hw,t8 hc (o:=4) rfl W2 w hw,t8 hc (o:=9) rfl aj7 w hw,t8 hc (o:=10) rfl ca0 w hw,t8 hc (o:=11) rfl az9 w hw,t8 hc (o:=12) rfl az9 w hw⟩,fun S w0 hS hw=>⟨R5 hS fun w' hw'=>E0 hc rfl F4 w' (hw w' hw'),R5 hS fun w' hw'=>t8 hc (o:=1) rfl F4 w' (hw w' hw'),R5 hS fun w' hw'=>t8 hc (o:=2) rfl M2 w' (hw w' hw'),R5 hS fun w' hw'=>t8 hc (o:=3) rfl W2 w' (hw w' hw'),R5 hS fun w' hw'=>t8 hc (o:=4) rfl W2 w' (hw w' hw'),R5 hS fun w' hw'=>t8 hc (o:=9) rfl aj7 w' (hw w' hw'),R5 hS fun w' hw'=>t8 hc (o:=10) rfl ca0 w' (hw w' hw'),R5 hS fun w' hw'=>t8 hc (o:=11) rfl az9 w' (hw w' hw'),R5 hS fun w' hw'=>t8 hc (o:=12) rfl az9 w' (hw w' hw')⟩⟩
theorem J6.st_v{h k:Hp}{a:Addr}{v:Value}{x:St}(hv:SV h v x)(ha:J6 k a v):(∀w,B4 k (i4 w)→N6 prog w 45 a v)∧(∀(S:World→Prop) (w0:World),S w0→(∀w,S w→B4 k (i4 w))→N7 prog S 45 a v):=ha.whole hv bk3 bk9 aQ2 ai7
theorem bV7{h:Hp}{v:Value}{x:St}{w:World}(N:Nat→Prop)(hv:SV h v x)(hN:∀b,N b→b<w.heap.size):∃a w',(Instr.box 45 v).run prog w = .ok (.pointer (some a)) w'∧o7 w w'∧J6 (B6 w' N) a v:=cc4 hv hN
theorem cI1{h:Hp}{v:Value}{x:St}{w:World}(N:Nat→Prop)(hv:SV h v x)(hN:∀b,N b→b<w.heap.size):∃a wz w',(Instr.alloc 45 true (.tuple #[])).run prog w = .ok (.pointer (some a)) wz∧(Instr.storeAt 45 (.pointer (some a)) v).run prog wz = .ok () w'∧o7 w w'∧J6 (B6 w' N) a v:=cj9 hv hN cz4 rfl ai7
theorem At.st_v{h:Hp}{a:Addr}{x:St}(ha:At h a x):∃sv,SV h sv x∧(∀w,B4 h (i4 w)→N6 prog w 45 a sv)∧(∀(S:World→Prop) (w0:World),S w0→(∀w,S w→B4 h (i4 w))→N7 prog S 45 a sv):=ha.sv2 bk3 bk9 aQ2 ai7
theorem ah0{h:Hp}{v:Value}{x:St}{w:World}(hv:SV h v x)(hw:B4 h (i4 w)):∃a w',(Instr.box 45 v).run prog w = .ok (.pointer (some a)) w'∧o7 w w'∧At (i4 w') a x:=bv7 hv hw
theorem aQ7{h:Hp}{v:Value}{x:St}{w:World}(hv:SV h v x)(hw:B4 h (i4 w)):∃a wz w',(Instr.alloc 45 true (.tuple #[])).run prog w = .ok (.pointer (some a)) wz∧(Instr.storeAt 45 (.pointer (some a)) v).run prog wz = .ok () w'∧o7 w w'∧At (i4 w') a x:=bl1 hv hw cz4 rfl ai7
theorem bW9{h:Hp}{cs:List Value}{x:Pr}:A3.enc h cs x→∃v_params v_vars v_body v_fin,cs=([o9 x.name]:List Value)++([v_params]:List Value)++([v_vars]:List Value)++([v_body]:List Value)++([v_fin]:List Value)∧R h v_params x.params∧R h v_vars x.vars∧R h v_body x.body∧R h v_fin x.fin:=by
 rintro⟨v1,v2,v3,v4,rfl,h1,h2,h3,h4⟩;exact⟨v1,v2,v3,v4,rfl,h1,h2,h3,h4⟩
theorem At.pr{h:Hp}{a:Addr}{x:Pr}(ha:At h a x):∃v_params v_vars v_body v_fin,R h v_params x.params∧R h v_vars x.vars∧R h v_body x.body∧R h v_fin x.fin∧(∀w,B4 h (i4 w)→N6 prog w 9 a (o9 x.name)∧N6 prog w 49 (a.add 1) v_params∧N6 prog w 22 (a.add 2) v_vars∧N6 prog w 43 (a.add 3) v_body∧N6 prog w 22 (a.add 4) v_fin)∧(∀(S:World→Prop) (w0:World),S w0→(∀w,S w→B4 h (i4 w))→N7 prog S 9 a (o9 x.name)∧N7 prog S 49 (a.add 1) v_params∧N7 prog S 22 (a.add 2) v_vars∧N7 prog S 43 (a.add 3) v_body∧N7 prog S 22 (a.add 4) v_fin):=by
 obtain⟨cs,he,hc⟩:=ha;obtain⟨v_params,v_vars,v_body,v_fin,rfl,h_params,h_vars,h_body,h_fin⟩:=bW9 he;exact⟨_,_,_,_,h_params,h_vars,h_body,h_fin,fun w hw=>⟨E0 hc rfl W2 w hw,t8 hc (o:=1) rfl ca1 w hw,t8 hc (o:=2) rfl M2 w hw,t8 hc (o:=3) rfl az9 w hw,t8 hc (o:=4) rfl M2 w hw⟩,fun S w0 hS hw=>⟨R5 hS fun w' hw'=>E0 hc rfl W2 w' (hw w' hw'),R5 hS fun w' hw'=>t8 hc (o:=1) rfl ca1 w' (hw w' hw'),R5 hS fun w' hw'=>t8 hc (o:=2) rfl M2 w' (hw w' hw'),R5 hS fun w' hw'=>t8 hc (o:=3) rfl az9 w' (hw w' hw'),R5 hS fun w' hw'=>t8 hc (o:=4) rfl M2 w' (hw w' hw')⟩⟩
theorem J6.pr{h k:Hp}{a:Addr}{v:Value}{x:Pr}(hv:SV h v x)(ha:J6 k a v):∃v_params v_vars v_body v_fin,R h v_params x.params∧R h v_vars x.vars∧R h v_body x.body∧R h v_fin x.fin∧(∀w,B4 k (i4 w)→N6 prog w 9 a (o9 x.name)∧N6 prog w 49 (a.add 1) v_params∧N6 prog w 22 (a.add 2) v_vars∧N6 prog w 43 (a.add 3) v_body∧N6 prog w 22 (a.add 4) v_fin)∧(∀(S:World→Prop) (w0:World),S w0→(∀w,S w→B4 k (i4 w))→N7 prog S 9 a (o9 x.name)∧N7 prog S 49 (a.add 1) v_params∧N7 prog S 22 (a.add 2) v_vars∧N7 prog S 43 (a.add 3) v_body∧N7 prog S 22 (a.add 4) v_fin):=by
 obtain⟨cs,rfl,he⟩:=hv;obtain⟨cs2,e2,hc⟩:=ha;obtain rfl:=ag8 e2;obtain⟨v_params,v_vars,v_body,v_fin,rfl,h_params,h_vars,h_body,h_fin⟩:=bW9 he;exact⟨_,_,_,_,h_params,h_vars,h_body,h_fin,fun w hw=>⟨E0 hc rfl W2 w hw,t8 hc (o:=1) rfl ca1 w hw,t8 hc (o:=2) rfl M2 w hw,t8 hc (o:=3) rfl az9 w hw,t8 hc (o:=4) rfl M2 w hw⟩,fun S w0 hS hw=>⟨R5 hS fun w' hw'=>E0 hc rfl W2 w' (hw w' hw'),R5 hS fun w' hw'=>t8 hc (o:=1) rfl ca1 w' (hw w' hw'),R5 hS fun w' hw'=>t8 hc (o:=2) rfl M2 w' (hw w' hw'),R5 hS fun w' hw'=>t8 hc (o:=3) rfl az9 w' (hw w' hw'),R5 hS fun w' hw'=>t8 hc (o:=4) rfl M2 w' (hw w' hw')⟩⟩
theorem J6.pr_v{h k:Hp}{a:Addr}{v:Value}{x:Pr}(hv:SV h v x)(ha:J6 k a v):(∀w,B4 k (i4 w)→N6 prog w 51 a v)∧(∀(S:World→Prop) (w0:World),S w0→(∀w,S w→B4 k (i4 w))→N7 prog S 51 a v):=ha.whole hv ae3 ae4 ad3 I8
theorem bV6{h:Hp}{v:Value}{x:Pr}{w:World}(N:Nat→Prop)(hv:SV h v x)(hN:∀b,N b→b<w.heap.size):∃a w',(Instr.box 51 v).run prog w = .ok (.pointer (some a)) w'∧o7 w w'∧J6 (B6 w' N) a v:=cc4 hv hN
theorem ay7{h:Hp}{v:Value}{x:Pr}{w:World}(N:Nat→Prop)(hv:SV h v x)(hN:∀b,N b→b<w.heap.size):∃a wz w',(Instr.alloc 51 true (.tuple #[])).run prog w = .ok (.pointer (some a)) wz∧(Instr.storeAt 51 (.pointer (some a)) v).run prog wz = .ok () w'∧o7 w w'∧J6 (B6 w' N) a v:=cj9 hv hN ca2 rfl I8
theorem bb0{h:Hp}{v:Value}{x:Pr}{w:World}(hv:SV h v x)(hw:B4 h (i4 w)):∃a w',(Instr.box 51 v).run prog w = .ok (.pointer (some a)) w'∧o7 w w'∧At (i4 w') a x:=bv7 hv hw
theorem as2{h:Hp}{v:Value}{x:Pr}{w:World}(hv:SV h v x)(hw:B4 h (i4 w)):∃a wz w',(Instr.alloc 51 true (.tuple #[])).run prog w = .ok (.pointer (some a)) wz∧(Instr.storeAt 51 (.pointer (some a)) v).run prog wz = .ok () w'∧o7 w w'∧At (i4 w') a x:=bl1 hv hw ca2 rfl I8
theorem bw6{h:Hp}{cs:List Value}{x:Pg}:A3.enc h cs x→∃v_globals v_procs,cs=([v_globals]:List Value)++([v_procs]:List Value)∧R h v_globals x.globals∧R h v_procs x.procs:=by
 rintro⟨v1,v2,rfl,h1,h2⟩;exact⟨v1,v2,rfl,h1,h2⟩
theorem At.pg{h:Hp}{a:Addr}{x:Pg}(ha:At h a x):∃v_globals v_procs,R h v_globals x.globals∧R h v_procs x.procs∧(∀w,B4 h (i4 w)→N6 prog w 22 a v_globals∧N6 prog w 23 (a.add 1) v_procs)∧(∀(S:World→Prop) (w0:World),S w0→(∀w,S w→B4 h (i4 w))→N7 prog S 22 a v_globals∧N7 prog S 23 (a.add 1) v_procs):=by
 obtain⟨cs,he,hc⟩:=ha;obtain⟨v_globals,v_procs,rfl,h_globals,h_procs⟩:=bw6 he;exact⟨_,_,h_globals,h_procs,fun w hw=>⟨E0 hc rfl M2 w hw,t8 hc (o:=1) rfl bK3 w hw⟩,fun S w0 hS hw=>⟨R5 hS fun w' hw'=>E0 hc rfl M2 w' (hw w' hw'),R5 hS fun w' hw'=>t8 hc (o:=1) rfl bK3 w' (hw w' hw')⟩⟩
theorem J6.pg{h k:Hp}{a:Addr}{v:Value}{x:Pg}(hv:SV h v x)(ha:J6 k a v):∃v_globals v_procs,R h v_globals x.globals∧R h v_procs x.procs∧(∀w,B4 k (i4 w)→N6 prog w 22 a v_globals∧N6 prog w 23 (a.add 1) v_procs)∧(∀(S:World→Prop) (w0:World),S w0→(∀w,S w→B4 k (i4 w))→N7 prog S 22 a v_globals∧N7 prog S 23 (a.add 1) v_procs):=by
 obtain⟨cs,rfl,he⟩:=hv;obtain⟨cs2,e2,hc⟩:=ha;obtain rfl:=ag8 e2;obtain⟨v_globals,v_procs,rfl,h_globals,h_procs⟩:=bw6 he;exact⟨_,_,h_globals,h_procs,fun w hw=>⟨E0 hc rfl M2 w hw,t8 hc (o:=1) rfl bK3 w hw⟩,fun S w0 hS hw=>⟨R5 hS fun w' hw'=>E0 hc rfl M2 w' (hw w' hw'),R5 hS fun w' hw'=>t8 hc (o:=1) rfl bK3 w' (hw w' hw')⟩⟩
theorem J6.pg_v{h k:Hp}{a:Addr}{v:Value}{x:Pg}(hv:SV h v x)(ha:J6 k a v):(∀w,B4 k (i4 w)→N6 prog w 25 a v)∧(∀(S:World→Prop) (w0:World),S w0→(∀w,S w→B4 k (i4 w))→N7 prog S 25 a v):=ha.whole hv cx0 cy6 cx4 bK6
theorem ac2{h:Hp}{v:Value}{x:Pg}{w:World}(N:Nat→Prop)(hv:SV h v x)(hN:∀b,N b→b<w.heap.size):∃a w',(Instr.box 25 v).run prog w = .ok (.pointer (some a)) w'∧o7 w w'∧J6 (B6 w' N) a v:=cc4 hv hN
theorem At.pg_v{h:Hp}{a:Addr}{x:Pg}(ha:At h a x):∃sv,SV h sv x∧(∀w,B4 h (i4 w)→N6 prog w 25 a sv)∧(∀(S:World→Prop) (w0:World),S w0→(∀w,S w→B4 h (i4 w))→N7 prog S 25 a sv):=ha.sv2 cx0 cy6 cx4 bK6
theorem N8{h:Hp}{v:Value}{x:Pg}{w:World}(hv:SV h v x)(hw:B4 h (i4 w)):∃a w',(Instr.box 25 v).run prog w = .ok (.pointer (some a)) w'∧o7 w w'∧At (i4 w') a x:=bv7 hv hw
theorem cH8{h:Hp}{v:Value}{x:Pg}{w:World}(hv:SV h v x)(hw:B4 h (i4 w)):∃a wz w',(Instr.alloc 25 true (.tuple #[])).run prog w = .ok (.pointer (some a)) wz∧(Instr.storeAt 25 (.pointer (some a)) v).run prog wz = .ok () w'∧o7 w w'∧At (i4 w') a x:=bl1 hv hw cM3 rfl bK6
theorem aE5{h:Hp}{cs:List Value}{x:It}:A3.enc h cs x→∃c_s,cs=c_s++([.int .i64 x.proc]:List Value)++([.int .i64 x.up]:List Value)++([.int .i64 x.next]:List Value)++([.int .i64 x.loop]:List Value)∧A3.enc h c_s x.s:=by
 rintro⟨c,rfl,h1⟩;exact⟨c,by simp,h1⟩
theorem At.it{h:Hp}{a:Addr}{x:It}(ha:At h a x):At h a x.s∧(∀w,B4 h (i4 w)→N6 prog w 3 (a.add 13) (.int .i64 x.proc)∧N6 prog w 3 (a.add 14) (.int .i64 x.up)∧N6 prog w 3 (a.add 15) (.int .i64 x.next)∧N6 prog w 3 (a.add 16) (.int .i64 x.loop))∧(∀(S:World→Prop) (w0:World),S w0→(∀w,S w→B4 h (i4 w))→N7 prog S 3 (a.add 13) (.int .i64 x.proc)∧N7 prog S 3 (a.add 14) (.int .i64 x.up)∧N7 prog S 3 (a.add 15) (.int .i64 x.next)∧N7 prog S 3 (a.add 16) (.int .i64 x.loop)):=by
 obtain⟨cs,he,hc⟩:=ha;obtain⟨c_s,rfl,h_s⟩:=aE5 he;obtain⟨a_s0,a_s1,a_s2,a_s3,a_s4,a_s5,a_s6,a_s7,a_s8,a_s9,a_s10,a_s11,a_s12,rfl⟩:=aC6 (A3.len h_s);exact⟨aL6 hc h_s (fun j u hj=>by
  match j,hj with
  | 0,hj=>exact hj
  | 1,hj=>exact hj
  | 2,hj=>exact hj
  | 3,hj=>exact hj
  | 4,hj=>exact hj
  | 5,hj=>exact hj
  | 6,hj=>exact hj
  | 7,hj=>exact hj
  | 8,hj=>exact hj
  | 9,hj=>exact hj
  | 10,hj=>exact hj
  | 11,hj=>exact hj
  | 12,hj=>exact hj
  | m+13,hj=>simp at hj),fun w hw=>⟨t8 hc (o:=13) rfl F4 w hw,t8 hc (o:=14) rfl F4 w hw,t8 hc (o:=15) rfl F4 w hw,t8 hc (o:=16) rfl F4 w hw⟩,fun S w0 hS hw=>⟨R5 hS fun w' hw'=>t8 hc (o:=13) rfl F4 w' (hw w' hw'),R5 hS fun w' hw'=>t8 hc (o:=14) rfl F4 w' (hw w' hw'),R5 hS fun w' hw'=>t8 hc (o:=15) rfl F4 w' (hw w' hw'),R5 hS fun w' hw'=>t8 hc (o:=16) rfl F4 w' (hw w' hw')⟩⟩
theorem J6.it{h k:Hp}{a:Addr}{v:Value}{x:It}(hv:SV h v x)(ha:J6 k a v):∃u_s,SV h u_s x.s∧J6 k a u_s∧(∀w,B4 k (i4 w)→N6 prog w 3 (a.add 13) (.int .i64 x.proc)∧N6 prog w 3 (a.add 14) (.int .i64 x.up)∧N6 prog w 3 (a.add 15) (.int .i64 x.next)∧N6 prog w 3 (a.add 16) (.int .i64 x.loop))∧(∀(S:World→Prop) (w0:World),S w0→(∀w,S w→B4 k (i4 w))→N7 prog S 3 (a.add 13) (.int .i64 x.proc)∧N7 prog S 3 (a.add 14) (.int .i64 x.up)∧N7 prog S 3 (a.add 15) (.int .i64 x.next)∧N7 prog S 3 (a.add 16) (.int .i64 x.loop)):=by
 obtain⟨cs,rfl,he⟩:=hv;obtain⟨cs2,e2,hc⟩:=ha;obtain rfl:=ag8 e2;obtain⟨c_s,rfl,h_s⟩:=aE5 he;obtain⟨a_s0,a_s1,a_s2,a_s3,a_s4,a_s5,a_s6,a_s7,a_s8,a_s9,a_s10,a_s11,a_s12,rfl⟩:=aC6 (A3.len h_s);exact⟨_,⟨_,rfl,h_s⟩,bo2 hc (fun j u hj=>by
  match j,hj with
  | 0,hj=>exact hj
  | 1,hj=>exact hj
  | 2,hj=>exact hj
  | 3,hj=>exact hj
  | 4,hj=>exact hj
  | 5,hj=>exact hj
  | 6,hj=>exact hj
  | 7,hj=>exact hj
  | 8,hj=>exact hj
  | 9,hj=>exact hj
  | 10,hj=>exact hj
  | 11,hj=>exact hj
  | 12,hj=>exact hj
  | m+13,hj=>simp at hj),fun w hw=>⟨t8 hc (o:=13) rfl F4 w hw,t8 hc (o:=14) rfl F4 w hw,t8 hc (o:=15) rfl F4 w hw,t8 hc (o:=16) rfl F4 w hw⟩,fun S w0 hS hw=>⟨R5 hS fun w' hw'=>t8 hc (o:=13) rfl F4 w' (hw w' hw'),R5 hS fun w' hw'=>t8 hc (o:=14) rfl F4 w' (hw w' hw'),R5 hS fun w' hw'=>t8 hc (o:=15) rfl F4 w' (hw w' hw'),R5 hS fun w' hw'=>t8 hc (o:=16) rfl F4 w' (hw w' hw')⟩⟩
theorem J6.it_v{h k:Hp}{a:Addr}{v:Value}{x:It}(hv:SV h v x)(ha:J6 k a v):(∀w,B4 k (i4 w)→N6 prog w 121 a v)∧(∀(S:World→Prop) (w0:World),S w0→(∀w,S w→B4 k (i4 w))→N7 prog S 121 a v):=ha.whole hv aa4 aa5 Y5 I5
theorem cC0{h:Hp}{v:Value}{x:It}{w:World}(N:Nat→Prop)(hv:SV h v x)(hN:∀b,N b→b<w.heap.size):∃a w',(Instr.box 121 v).run prog w = .ok (.pointer (some a)) w'∧o7 w w'∧J6 (B6 w' N) a v:=cc4 hv hN
theorem aG3{h:Hp}{v:Value}{x:It}{w:World}(N:Nat→Prop)(hv:SV h v x)(hN:∀b,N b→b<w.heap.size):∃a wz w',(Instr.alloc 121 true (.tuple #[])).run prog w = .ok (.pointer (some a)) wz∧(Instr.storeAt 121 (.pointer (some a)) v).run prog wz = .ok () w'∧o7 w w'∧J6 (B6 w' N) a v:=cj9 hv hN bT5 rfl I5
theorem bV3{h:Hp}{v:Value}{x:It}{w:World}(hv:SV h v x)(hw:B4 h (i4 w)):∃a w',(Instr.box 121 v).run prog w = .ok (.pointer (some a)) w'∧o7 w w'∧At (i4 w') a x:=bv7 hv hw
theorem ay6{h:Hp}{v:Value}{x:It}{w:World}(hv:SV h v x)(hw:B4 h (i4 w)):∃a wz w',(Instr.alloc 121 true (.tuple #[])).run prog w = .ok (.pointer (some a)) wz∧(Instr.storeAt 121 (.pointer (some a)) v).run prog wz = .ok () w'∧o7 w w'∧At (i4 w') a x:=bl1 hv hw bT5 rfl I5
theorem cD3{h:Hp}{cs:List Value}{x:Sh}:A3.enc h cs x→∃c_p v_l v_lo v_hi,cs=c_p++([v_l]:List Value)++([v_lo]:List Value)++([v_hi]:List Value)∧A3.enc h c_p x.p∧R h v_l x.l∧R h v_lo x.lo∧R h v_hi x.hi:=by
 rintro⟨c,v1,v2,v3,rfl,h1,h2,h3,h4⟩;exact⟨c,v1,v2,v3,by simp,h1,h2,h3,h4⟩
theorem At.sh{h:Hp}{a:Addr}{x:Sh}(ha:At h a x):∃v_l v_lo v_hi,R h v_l x.l∧R h v_lo x.lo∧R h v_hi x.hi∧At h a x.p∧(∀w,B4 h (i4 w)→N6 prog w 111 (a.add 2) v_l∧N6 prog w 112 (a.add 3) v_lo∧N6 prog w 112 (a.add 4) v_hi)∧(∀(S:World→Prop) (w0:World),S w0→(∀w,S w→B4 h (i4 w))→N7 prog S 111 (a.add 2) v_l∧N7 prog S 112 (a.add 3) v_lo∧N7 prog S 112 (a.add 4) v_hi):=by
 obtain⟨cs,he,hc⟩:=ha;obtain⟨c_p,v_l,v_lo,v_hi,rfl,h_p,h_l,h_lo,h_hi⟩:=cD3 he;obtain⟨a_p0,a_p1,rfl⟩:=cW1 (A3.len h_p);exact⟨_,_,_,h_l,h_lo,h_hi,aL6 hc h_p (fun j u hj=>by
  match j,hj with
  | 0,hj=>exact hj
  | 1,hj=>exact hj
  | m+2,hj=>simp at hj),fun w hw=>⟨t8 hc (o:=2) rfl aU9 w hw,t8 hc (o:=3) rfl R0 w hw,t8 hc (o:=4) rfl R0 w hw⟩,fun S w0 hS hw=>⟨R5 hS fun w' hw'=>t8 hc (o:=2) rfl aU9 w' (hw w' hw'),R5 hS fun w' hw'=>t8 hc (o:=3) rfl R0 w' (hw w' hw'),R5 hS fun w' hw'=>t8 hc (o:=4) rfl R0 w' (hw w' hw')⟩⟩
section
variable {P:Program} {w:World} {h:Hp} {t T sz by_:Nat} {v:Value}
theorem af6{α:Type}[A3 α]{e:TypeId}(hs:E6 P t T sz by_=true)(hsz:A3.sz α=sz){xs ys:List α}(ho:A8 h w T v xs){u:Value}(hu:R h u ys)
  (hl:xs.length+ys.length≤1000000000000) (hb:(xs.length+ys.length)*by_≤140737488355328) (hw:B4 h (i4 w)) :
  ∃v' w',(Builtin.append_ #[t,t] e #[v,u]).run P w = .ok v' w'∧A8 h w' T v' (xs++ys)∧p9 (A4 v) w w'∧D7 w v v':=by
 obtain⟨h1,⟨z,hz,hzs⟩,h3,h4,h5,h6⟩:=Q0 hs;obtain⟨i,hi,hiz⟩:=z7 hz;have hby:i.bytes=by_:=by rw[←h4,at4 hi]
 have hsi:i.size=sz:=by rw[←h3,C6 hi]
 obtain⟨a,n,c,he,hn,hnc,es,hes,hce⟩:=hu;simp at he;subst he;have ht:=L6 h1;by_cases hy:ys=[]
 ·subst hy;refine⟨v,w,?_,by simpa using ho,p9.refl _,fun b hb=>.inl hb⟩;have hn0:n=0:=by simpa using hn
  subst hn0;rcases ho with⟨rfl,rfl⟩|⟨b,c',cur,rfl,k1,k2,k3,k4,k5,k6⟩
  ·cases a<;>simp[Builtin.append_,run_underlying ht,sizeOf,typeInfo,hi,Builtin.lenOf,Builtin.firstCells,loadCells,loadCellsFrom]
  ·cases a<;>simp[Builtin.append_,run_underlying ht,sizeOf,typeInfo,hi,Builtin.lenOf,Builtin.firstCells,loadCells,loadCellsFrom,k3,storeCells]
 ·have hne:es≠[]:=by
   intro e;have:=J8 hes;rw[e]at this;have hp:0<ys.length:=List.length_pos_iff.2 hy;have:=A3.pos (α:=α);have:=Nat.mul_pos hp this;simp at *;omega
  obtain⟨x0,hx0⟩:∃x0,es[0]?=some x0:=by
   cases es with
   | nil=>exact absurd rfl hne
   | cons x _=>exact⟨x,rfl⟩
  obtain⟨ad,rfl,_⟩:=hce 0 x0 hx0;exact aK0 (e:=e) ht hi hiz (by rw[hsi,hsz]) (by rw[hzs,hsi]) ho (ad:=ad) hn hes (fun j u hj=>by
   obtain⟨ad',e',hc⟩:=hce j u hj;obtain rfl:=do2 e';exact F6 hw hc) hy (by simp only[maxLen];omega) (by rw[hby];exact hb) hw
theorem cO5{α:Type}[A3 α](hs:E6 P t T sz by_=true)(hw:B4 h (i4 w)):
  ∃v w',(Instr.buildSlice t 0 #[]).run P w = .ok v w'∧A8 h w' T v ([]:List α)∧o7 w w'∧(∀b,A4 v b→w.heap.size≤b):=by
 obtain⟨h1,⟨z,hz,hzs⟩,h3,h4,h5,h6⟩:=Q0 hs;obtain⟨i,hi,hiz⟩:=z7 hz;refine⟨.slice (some ⟨w.heap.size,0,none⟩) 0 0,w.alloc (.cells #[] T),?_,.inr ⟨w.heap.size,0,#[],rfl,aw4 hw (dn9 _),dq7 w _,by simp,by simp,by simp,by simp[N0]⟩,o7.alloc _ _,fun b hb=>by simp[A4,Value.ownBlock]at hb;omega⟩;unfold Instr.buildSlice;simp only[do9,F3,L6 h1,do1,N4 (show(P.info? T).isSome=true by rw[hi];rfl),Sem.run_ite,Nat.zero_mul,dq0];rw[if_neg (by decide),if_pos trivial];have e0:∀(g:Nat→Value),(Array.range 0).map g=#[]:=fun g=>by simp
 simp only[e0,Instr.fill];rfl
end
section
variable {P:Program} {h k:Hp} {w:World} {t T sz by_:Nat} {v u:Value}
theorem V5{α:Type}[I6 α]{e:TypeId}(hs:E6 P t T 1 by_=true){xs ys:List α}(ho:A8 h w T v xs)(hu:R k u ys)(hk:B4 k (i4 w))(h63:xs.length+ys.length≤1000000000000)(hb:(xs.length+ys.length)*by_≤140737488355328)(hw:B4 h (i4 w)):
  ∃v' w',(Builtin.append_ #[t,t] e #[v,u]).run P w = .ok v' w'∧A8 h w' T v' (xs++ys)∧p9 (A4 v) w w'∧D7 w v v':=by
 obtain⟨h1,⟨z,hz,hzs⟩,h3,h4,h5,h6⟩:=Q0 hs;obtain⟨i,hi,hiz⟩:=z7 hz;have hby:i.bytes=by_:=by rw[←h4,at4 hi]
 have hsi:i.size=1:=by rw[←h3,C6 hi]
 by_cases hy:ys=[]
 ·subst hy;obtain⟨a,n,c,he,hn,hnc,es,hes,hce⟩:=hu;have hu':R h u ([]:List α):=⟨a,n,c,he,hn,hnc,[],rfl,fun j u hj=>by simp at hj⟩;exact af6 hs rfl ho hu' h63 hb hw
 ·obtain⟨a,n,c,he,hn,hnc,es,hes,hce⟩:=hu;simp at he;subst he;have hne:es≠[]:=by
   intro e;have:=J8 hes;rw[e]at this;have hp:0<ys.length:=List.length_pos_iff.2 hy;have h7:(A3.sz α)=1:=rfl;rw[h7]at this;simp at this;omega
  obtain⟨x0,hx0⟩:∃x0,es[0]?=some x0:=by
   cases es with
   | nil=>exact absurd rfl hne
   | cons x _=>exact⟨x,rfl⟩
  obtain⟨ad,rfl,_⟩:=hce 0 x0 hx0;exact aK0 (e:=e) (L6 h1) hi hiz (by rw[hsi];rfl) (by rw[hzs,hsi]) ho (ad:=ad) hn (aS3 hes) (fun j u hj=>by
   obtain⟨ad',e',hc⟩:=hce j u hj;obtain rfl:=do2 e';exact F6 hk hc) hy (by simp only[maxLen];omega) (by rw[hby];exact hb) hw
end
section
variable {P:Program} {K:Fr→World→Prop} {f:Fr} {w:World} {d:Option Nat} {ty:TypeId} {pos:String} {aft:Array Edge} {S:World→Prop}
def bd1(P:Program)(g:Value)(args:List Value)(w:World)(K:Fr→World→Prop)(f:Fr)(d:Option Nat):Prop:=match g with
 | .func (.func k) first cap=>as7 P k (first.toList++args++cap.toList) w K f d
 | _=>False
theorem cU9{k:Nat}{first cap:Array Value}{args:List Value}:bd1 P (.func (.func k) first cap) args w K f d=as7 P k (first.toList++args++cap.toList) w K f d:=propext dt6
theorem cX0{j:Nat}{asz:Array Operand}{ts:Array TypeId}:B2 P none ⟨d,.call {callee:=.value (.tmp j),args:=asz,argTypes:=ts},ty,pos,aft,none⟩ K f w=bd1 P (f j) (asz.toList.map (ev f)) w K f d:=by
 simp only[B2,ar6,Y1,ba3,ev,aH3,bd1]
 all_goals (generalize f j=g;cases g<;>try rfl)
theorem cW7{j:Nat}{asz:Array Operand}{ts:Array TypeId}:B2 P (some S) ⟨d,.call {callee:=.value (.tmp j),args:=asz,argTypes:=ts},ty,pos,aft,none⟩ K f w=bd1 P (f j) (asz.toList.map (ev f)) w (F2 S K) f d:=by
 simp only[B2,ar6,Y1,ba3,ev,aH3,bd1]
 all_goals (generalize f j=g;cases g<;>try rfl)
end
theorem cV2{P:Program}{b d:Code}{Q:Exit→Fr→World→Prop}{f:Fr}{w:World}(keep:List Nat)(I:Fr→World→Prop)(hkp:keep.all (fun i=>!(wrC b).contains i)=true)
  (h1:CW P b (ab9 I Q) f w) (h2:∀f' w',(∀i∈keep,f' i=f i)→I f' w'→CW P d Q f' w'):CW P (.seq b d) Q f w:=by
 rw[bc2];refine ck4 b (ab9 I Q) _ f w (fun e f' w' hf h=>?_) h1;have hk':∀i∈keep,f' i=f i:=fun i hi=>hf i fun hm=>by
  have:=dt1.1 hkp i hi;simp[hm]at this
 cases e
 case normal=>exact h2 f' w' hk' h
 all_goals exact h
def ac6(c:UInt8):Bool:=decide (97≤c.toNat)&&decide (c.toNat≤122)
def aJ2(c:UInt8):Bool:=decide (48≤c.toNat)&&decide (c.toNat≤57)
def X6(c:UInt8):Bool:=ac6 c||aJ2 c
def aj8:List A7:=[ofA #[103,108,111,98,97,108],ofA #[112,114,111,99],ofA #[118,97,114],ofA #[114,101,102],ofA #[105,102],ofA #[101,108,115,101],ofA #[119,104,105,108,101],ofA #[98,114,101,97,107],ofA #[99,111,110,116,105,110,117,101],ofA #[114,101,116,117,114,110],ofA #[103,111,116,111],ofA #[114,101,97,100],ofA #[112,114,105,110,116]]
def bl3(s:A7):Bool:=aj8.contains s
def K7(s:A7):Bool:=match s.b with
 | []=>false
 | c::l=>decide (l.length<8)&&ac6 c&&l.all X6 && !bl3 s
def O1(l:List A7):Bool:=l.all K7
def ab3(op:Int):Int:=if op=1∨op=2 then 0 else if op=3∨op=4 then 1 else if 5≤op∧op≤17 then 2 else -1
def P3:Nat→Ex→Bool
 | 0,_=>false
 | n+1,x=>if(x.kids.length:Int)≠ab3 x.op then false
   else if x.op=1 then decide (0≤x.n)&&decide (x.name=e0)
   else if x.op=2 then decide (x.n=0)&&K7 x.name
   else if x.n≠0∨x.name≠e0 then false
   else x.kids.all (P3 n)
def br6(x:Ex):Bool:=decide (x.op=0)&&decide (x.n=0)&&decide (x.name=e0)&&decide (x.kids.length=0)
def T0(s:A7)(b:Bool):Bool:=(b&&K7 s)||(!b&&decide (s=e0))
def Y6(x:Ex)(b:Bool):Bool:=(b&&P3 20 x)||(!b&&br6 x)
def aE8(l:List Ar):Bool:=l.all fun a=>T0 a.name a.ref&&Y6 a.x (!a.ref)
structure Fl where
 name:Bool
 proc:Bool
 x:Bool
 has:Bool
 thn:Bool
 els:Bool
def R7(s:St):Option Fl:=
 if s.kind=1 then some ⟨true,false,true,s.has,false,false⟩
 else if s.kind=2∨s.kind=10 then some ⟨true,false,false,s.has,false,false⟩
 else if s.kind=3 then some ⟨false,false,true,s.has,false,false⟩
 else if s.kind=4 then some ⟨decide (s.name≠e0),true,false,s.has,false,false⟩
 else if s.kind=5 then some ⟨false,false,true,s.has,true,true⟩
 else if s.kind=6 then some ⟨false,false,true,s.has,true,false⟩
 else if s.kind=9 then some ⟨false,false,s.has,false,false,false⟩
 else if s.kind=7∨s.kind=8 then some ⟨false,false,false,s.has,false,false⟩
 else none
def R6(s:St):Bool:=match R7 s with
 | none=>false
 | some k=>!(k.has||(!k.thn&&decide (0<s.thn.length))||(!k.els&&decide (0<s.els.length))||(!decide (s.kind=4)&&decide (0<s.args.length))) &&
   T0 s.name k.name&&T0 s.proc k.proc&&Y6 s.x k.x&&aE8 s.args
def G6:Nat→List St→Int→Option Int
 | 0,l,n=>if l.length=0 then some n else none
 | d+1,l,n=>l.foldlM (fun n s=>if n+1>200∨s.id≠n+1∨O1 s.labels=false∨R6 s=false then none else(G6 d s.thn (n+1)).bind fun m=>G6 d s.els m) n
def R3(f:Pr)(n:Int):Option Int:=
 if f.params.length>8∨f.vars.length>16∨K7 f.name=false∨O1 f.vars=false∨O1 f.fin=false∨(f.params.all fun a=>K7 a.name)=false then none else G6 12 f.body n
def M6(p:Pg):Bool:=decide (p.globals.length≤16)&&decide (p.procs.length≤16)&&O1 p.globals&&(p.procs.foldlM (fun n f=>R3 f n) 0).isSome
mutual
def ah1:Ex→List A7→List A7
 | .mk op _ name kids,out=>al4 kids (if op=2∧out.contains name=false then out++[name]else out)
def al4:List Ex→List A7→List A7
 | [],out=>out
 | x::xs,out=>al4 xs (ah1 x out)
end
def aa1(x:Ex):List A7:=if P3 20 x then ah1 x []else[]
mutual
def V7:St→Nat
 | .mk _ _ _ _ _ _ _ _ thn els=>1+A6 thn+A6 els
def A6:List St→Nat
 | []=>0
 | t::l=>V7 t+A6 l
end
theorem aq0(t:St):V7 t=1+A6 t.thn+A6 t.els:=by
 cases t;simp only[V7,St.thn,St.els]
theorem bt5(t:St):0<V7 t:=by rw[aq0];omega
theorem bN1:∀{l:List St} {t:St},t∈l→V7 t≤A6 l
 | s::l,t,h=>by
  rw[A6];rcases do3.1 h with rfl|h
  ·omega
  ·have:=bN1 h;omega
theorem aJ1:∀(l m:List St),A6 (l++m)=A6 l+A6 m
 | [],m=>by simp[A6]
 | s::l,m=>by rw[dx5,A6,A6,aJ1 l m];omega
theorem Q8:∀(l:List St),l.length≤A6 l
 | []=>by simp
 | s::l=>by have:=Q8 l;have:=bt5 s;rw[A6,do7];omega
def wtT(s:A7):Nat:=1+s.b.length
def av4:List A7→Nat
 | []=>0
 | s::l=>wtT s+av4 l
mutual
def S6:Ex→Nat
 | .mk _ _ name kids=>wtT name+aq5 kids
def aq5:List Ex→Nat
 | []=>0
 | x::l=>S6 x+aq5 l
end
def aj9(a:Ar):Nat:=S6 a.x+wtT a.name
def Z2:List Ar→Nat
 | []=>0
 | a::l=>aj9 a+Z2 l
mutual
def O7:St→Nat
 | .mk _ _ labels name proc x _ args thn els=>S6 x+av4 labels+wtT name+wtT proc+Z2 args+G1 thn+G1 els
def G1:List St→Nat
 | []=>0
 | x::l=>O7 x+G1 l
end
def bl7:List Pa→Nat
 | []=>0
 | a::l=>wtT a.name+bl7 l
def T8(f:Pr):Nat:=wtT f.name+av4 f.vars+av4 f.fin+bl7 f.params+G1 f.body
def aA0:List Pr→Nat
 | []=>0
 | f::l=>T8 f+aA0 l
def D3(p:Pg):Nat:=av4 p.globals+aA0 p.procs
theorem Q7:∀(l:List A7),l.length≤av4 l
 | []=>by simp[av4]
 | s::l=>by have:=Q7 l;simp only[av4,wtT,do7];omega
theorem aE0(x:Ex):1≤S6 x:=by cases x;simp only[S6,wtT];omega
theorem bu6:∀(l:List Ex),l.length≤aq5 l
 | []=>by simp[aq5]
 | s::l=>by have:=bu6 l;have:=aE0 s;simp only[aq5,do7];omega
theorem aV7:∀{l:List Ex} {s:Ex},s∈l→S6 s≤aq5 l
 | t::l,s,h=>by
  simp only[aq5];rcases do3.1 h with rfl|h
  ·omega
  ·have:=aV7 h;omega
theorem bA9(x:Ex):S6 x=wtT x.name+aq5 x.kids:=by cases x;simp only[S6,Ex.name,Ex.kids]
theorem ag4:∀(l:List Ar),l.length≤Z2 l
 | []=>by simp[Z2]
 | s::l=>by have:=ag4 l;have:=aE0 s.x;simp only[Z2,aj9,do7];omega
theorem aG4:∀{l:List Ar} {s:Ar},s∈l→aj9 s≤Z2 l
 | t::l,s,h=>by
  simp only[Z2];rcases do3.1 h with rfl|h
  ·omega
  ·have:=aG4 h;omega
theorem P2(s:St):O7 s=S6 s.x+av4 s.labels+wtT s.name+wtT s.proc+Z2 s.args+G1 s.thn+G1 s.els:=by
 cases s;simp only[O7,St.x,St.labels,St.name,St.proc,St.args,St.thn,St.els]
theorem bL0(s:St):3≤O7 s:=by rw[P2];have:=aE0 s.x;simp only[wtT];omega
theorem bv1:∀(l:List St),3*l.length≤G1 l
 | []=>by simp[G1]
 | s::l=>by have:=bv1 l;have:=bL0 s;simp only[G1,do7];omega
theorem ag7:∀{l:List St} {s:St},s∈l→O7 s≤G1 l
 | t::l,s,h=>by
  simp only[G1];rcases do3.1 h with rfl|h
  ·omega
  ·have:=ag7 h;omega
theorem ag5:∀(l:List Pa),l.length≤bl7 l
 | []=>by simp[bl7]
 | s::l=>by have:=ag5 l;simp only[bl7,wtT,do7];omega
theorem ac0:∀(l:List Pr),l.length≤aA0 l
 | []=>by simp[aA0]
 | s::l=>by have:=ac0 l;simp only[aA0,T8,wtT,do7];omega
theorem ag6:∀{l:List Pr} {s:Pr},s∈l→T8 s≤aA0 l
 | t::l,s,h=>by
  simp only[aA0];rcases do3.1 h with rfl|h
  ·omega
  ·have:=ag6 h;omega
mutual
theorem bv0:∀(s:St),3*V7 s≤O7 s
 | .mk _ _ labels name proc x _ args thn els=>by
  have h1:=aq6 thn;have h2:=aq6 els;have h3:=aE0 x;simp only[V7,O7,wtT];omega
theorem aq6:∀(l:List St),3*A6 l≤G1 l
 | []=>by simp[A6,G1]
 | s::l=>by
  have h1:=bv0 s;have h2:=aq6 l;simp only[A6,G1];omega
end
def dx3:=@Bool.eq_false_iff
def dy7:=@Bool.or_true
def dy6:=@Bool.true_or
def dm6:=@List.forall_mem_cons
def dn3:=@List.getElem_mem
def dn5:=@Nat.zero_le
def dq3:=@decide_eq_decide
theorem zJ{a b:Prop}(x:a)(y:b):a∧b:=⟨x,y⟩
def n7:=zJ (zJ (zJ (zJ (zJ (zJ @bc2 @dd0) (zJ @dc3 (zJ @cS8 @dc6))) (zJ (zJ @dc7 @dc4) (zJ @dc5 (zJ @dg4 @dg0)))) (zJ (zJ (zJ @cZ8 @dg1) (zJ @dg2 (zJ @cT9 @cR4))) (zJ (zJ @cU0 @cU1) (zJ @de7 (zJ @de6 @dd2))))) (zJ (zJ (zJ (zJ @dg6 @dk1) (zJ @cS6 (zJ @df6 @cS7))) (zJ (zJ @df7 @di7) (zJ @dk7 (zJ @cF8 @cX8)))) (zJ (zJ (zJ @cF9 @cX9) (zJ @cY0 (zJ @cP3 @cK7))) (zJ (zJ @cK6 @cX7) (zJ @di9 (zJ @di8 @cP2)))))) (zJ (zJ (zJ (zJ (zJ @dj1 @dj0) (zJ @df4 (zJ @cA9 @cW9))) (zJ (zJ @di3 @cF6) (zJ @cS5 (zJ @cO8 @dh8)))) (zJ (zJ (zJ @di4 @cS4) (zJ @df3 (zJ @cX1 @df2))) (zJ (zJ @ev.eq_1 @ev.eq_2) (zJ @ev.eq_3 (zJ @ev.eq_4 @C5.eq_1))))) (zJ (zJ (zJ (zJ @C5.eq_2 @dk0) (zJ @di5 (zJ @dj3 @dj4))) (zJ (zJ @List.map_cons.{0,0} @List.map_nil.{0,0}) (zJ @List.map_toArray.{0,0} (zJ @bB7.eq_1 @bB7.eq_2)))) (zJ (zJ (zJ @cN9 @de4) (zJ @de5 (zJ @cq3.eq_1 @List.getElem?_toArray.{0}))) (zJ (zJ @List.getElem?_cons_zero.{0} (zJ @List.getElem?_cons_succ.{0} @Option.bind_some.{0,0})) (zJ @Option.some.injEq.{0} (zJ @dt7 @Bool.true_eq_false))))))
def n8:=zJ (zJ (zJ (zJ (zJ @cX0 (zJ @cW7 @cU9)) (zJ @Option.map_some.{0,0} (zJ @Option.map_none.{0,0} @Int.toNat_zero))) (zJ (zJ @Option.isNone_none.{0} (zJ @Option.isNone_some.{0} @J9)) (zJ @bx1.eq_1 (zJ @bx1.eq_2 @cC4.eq_1)))) (zJ (zJ (zJ @aW4.eq_1 (zJ @aW4.eq_2 @cs8.eq_1)) (zJ @cs7.eq_1 (zJ @TY @Option.isSome_some.{0}))) (zJ (zJ @du6 (zJ @Bool.and_true @dw3)) (zJ @dp0 (zJ @dh5 @Int.cast_ofNat_Int))))) (zJ (zJ (zJ (zJ @decide_true (zJ @add_lit @dp8)) (zJ @Nat.zero_mul (zJ @Nat.one_mul @Bool.not_true))) (zJ (zJ @Bool.not_false (zJ @dh6 @cW0)) (zJ @dd9 (zJ @dd8 @dd7)))) (zJ (zJ (zJ @dd6 (zJ @dd5 @de2)) (zJ @dd3 (zJ @de3 @cT8))) (zJ (zJ @cT7 (zJ @dd4 @de1)) (zJ (zJ @bV0 @cB9) (zJ @de0 @dj9)))))
theorem bg5(c:UInt8)(w:World):p7 prog 208 #[.int .u8 c.toNat] w fun u w'=>(u = .bool (ac6 c)∧w'=w):=by
 refine p8 [.int .u8 c.toNat] func208 rfl ?_;unfold ac6;have h1:decide ((97:Int)≤(c.toNat:Int))=decide (97≤c.toNat):=dq3.2 (by omega);have h2:decide ((c.toNat:Int)≤(122:Int))=decide (c.toNat≤122):=dq3.2 (by omega);cases hb:decide (97≤c.toNat)
 ·simp only[n7,n8,simprocAttr,h1,hb];refine o6 results208 ?_;simp only[p6,simprocAttr];exact⟨by trivial,by trivial⟩
 ·simp only[n7,n8,simprocAttr,h1,h2,hb];refine o6 results208 ?_;simp only[p6,simprocAttr];exact⟨by simp,by trivial⟩
theorem cd8(c:UInt8)(w:World):p7 prog 248 #[.int .u8 c.toNat] w fun u w'=>(u = .bool (aJ2 c)∧w'=w):=by
 refine p8 [.int .u8 c.toNat] func248 rfl ?_;unfold aJ2;have h1:decide ((48:Int)≤(c.toNat:Int))=decide (48≤c.toNat):=dq3.2 (by omega);have h2:decide ((c.toNat:Int)≤(57:Int))=decide (c.toNat≤57):=dq3.2 (by omega);cases hb:decide (48≤c.toNat)
 ·simp only[n7,n8,simprocAttr,h1,hb];refine o6 results248 ?_;simp only[p6,simprocAttr];exact⟨by trivial,by trivial⟩
 ·simp only[n7,n8,simprocAttr,h1,h2,hb];refine o6 results248 ?_;simp only[p6,simprocAttr];exact⟨by simp,by trivial⟩
theorem cl7(s:A7)(w:World):p7 prog 210 #[o9 s] w fun u w'=>(u = .bool (bl3 s)∧w'=w):=by
 refine p8 [o9 s] func210 rfl ?_;have hw:bl3 s=aj8.any fun x=>decide (s=x):=by
  unfold bl3;rw[←List.any_beq]
  congr 1
 simp only[aj8,List.any_cons,List.any_nil]at hw;simp only[n7,n8,simprocAttr];refine m8 (fun h1=>?_) (fun h1=>?_)
 ·simp only[n7,simprocAttr,h1];refine o6 results210 ?_;simp only[p6,simprocAttr];exact⟨by rw[hw];simp only[h1,dy6],by trivial⟩
 simp only[n7,n8,simprocAttr];refine m8 (fun h2=>?_) (fun h2=>?_)
 ·simp only[n7,simprocAttr,h2];refine o6 results210 ?_;simp only[p6,simprocAttr];exact⟨by rw[hw];simp only[h2,dy6,dy7],by trivial⟩
 simp only[n7,n8,simprocAttr];refine m8 (fun h3=>?_) (fun h3=>?_)
 ·simp only[n7,simprocAttr,h3];refine o6 results210 ?_;simp only[p6,simprocAttr];exact⟨by rw[hw];simp only[h3,dy6,dy7],by trivial⟩
 simp only[n7,n8,simprocAttr];refine m8 (fun h4=>?_) (fun h4=>?_)
 ·simp only[n7,simprocAttr,h4];refine o6 results210 ?_;simp only[p6,simprocAttr];exact⟨by rw[hw];simp only[h4,dy6,dy7],by trivial⟩
 simp only[n7,n8,simprocAttr];refine m8 (fun h5=>?_) (fun h5=>?_)
 ·simp only[n7,simprocAttr,h5];refine o6 results210 ?_;simp only[p6,simprocAttr];exact⟨by rw[hw];simp only[h5,dy6,dy7],by trivial⟩
 simp only[n7,n8,simprocAttr];refine m8 (fun h6=>?_) (fun h6=>?_)
 ·simp only[n7,simprocAttr,h6];refine o6 results210 ?_;simp only[p6,simprocAttr];exact⟨by rw[hw];simp only[h6,dy6,dy7],by trivial⟩
 simp only[n7,n8,simprocAttr];refine m8 (fun h7=>?_) (fun h7=>?_)
 ·simp only[n7,simprocAttr,h7];refine o6 results210 ?_;simp only[p6,simprocAttr];exact⟨by rw[hw];simp only[h7,dy6,dy7],by trivial⟩
 simp only[n7,n8,simprocAttr];refine m8 (fun h8=>?_) (fun h8=>?_)
 ·simp only[n7,simprocAttr,h8];refine o6 results210 ?_;simp only[p6,simprocAttr];exact⟨by rw[hw];simp only[h8,dy6,dy7],by trivial⟩
 simp only[n7,n8,simprocAttr];refine m8 (fun h9=>?_) (fun h9=>?_)
 ·simp only[n7,simprocAttr,h9];refine o6 results210 ?_;simp only[p6,simprocAttr];exact⟨by rw[hw];simp only[h9,dy6,dy7],by trivial⟩
 simp only[n7,n8,simprocAttr];refine m8 (fun h10=>?_) (fun h10=>?_)
 ·simp only[n7,simprocAttr,h10];refine o6 results210 ?_;simp only[p6,simprocAttr];exact⟨by rw[hw];simp only[h10,dy6,dy7],by trivial⟩
 simp only[n7,n8,simprocAttr];refine m8 (fun h11=>?_) (fun h11=>?_)
 ·simp only[n7,simprocAttr,h11];refine o6 results210 ?_;simp only[p6,simprocAttr];exact⟨by rw[hw];simp only[h11,dy6,dy7],by trivial⟩
 simp only[n7,n8,simprocAttr];refine m8 (fun h12=>?_) (fun h12=>?_)
 ·simp only[n7,simprocAttr,h12];refine o6 results210 ?_;simp only[p6,simprocAttr];exact⟨by rw[hw];simp only[h12,dy6,dy7],by trivial⟩
 simp only[n7,n8,simprocAttr];refine m8 (fun h13=>?_) (fun h13=>?_)
 ·simp only[n7,simprocAttr];refine o6 results210 ?_;simp only[p6,simprocAttr];exact⟨by rw[hw];simp only[h13,dy6,dy7],by trivial⟩
 ·simp only[n7,simprocAttr];refine o6 results210 ?_;simp only[p6,simprocAttr];exact⟨by rw[hw];simp only[h1,h2,h3,h4,h5,h6,h7,h8,h9,h10,h11,h12,h13,Bool.or_false],by trivial⟩
theorem bW0{s:A7}{k:Nat}(hk:k<s.b.length):∃c,chr s k=some c∧s.b.take (k+1)=s.b.take k++[c]∧c∈s.b:=
 ⟨_,dm4 hk,dn2 hk,dn3 hk⟩
theorem cG6(s:A7)(w:World)(hl:s.b.length≤1000000):p7 prog 209 #[o9 s,.int .i64 0] w fun u w'=>(∃k:Nat,u = .int .i64 k∧decide (k=s.b.length)=s.b.all X6∧w'=w):=by
 refine p8 [o9 s,.int .i64 0] func209 rfl ?_;simp only[n7,n8,simprocAttr];refine n9 [0] (σ:=Nat) (fun k f w'=>f 1 = .int .i64 k∧k≤s.b.length∧(s.b.take k).all X6=true∧w'=w) (fun k=>s.b.length-k) 0 ?_ ?_
 ·simp only[p6,simprocAttr];exact⟨by trivial,dn5 _,by simp,by trivial⟩
 ·rintro k f w' hk ⟨h1,hkl,hall,rfl⟩;simp only[dm6,p6,simprocAttr]at hk;obtain⟨g0,_⟩:=hk;by_cases hlt:k<s.b.length
  ·have hd:decide ((k:Int)<(s.b.length:Nat))=true:=by simpa using hlt
   obtain⟨c,hc,htk,hmem⟩:=bW0 hlt;have hix:=bX7 (P:=prog) (t:=9) (k:=.i64) cy3 cH3 hc;simp only[n7,n8,simprocAttr,g0,h1,hd,hix];refine y5 (bg5 c _) ?_;rintro u w1 ⟨rfl,rfl⟩;cases hlet:ac6 c
   ·simp only[n7,simprocAttr,g0,h1,hix];refine y5 (cd8 c _) ?_;rintro u w2 ⟨rfl,rfl⟩;cases hdig:aJ2 c
    ·simp only[n7,simprocAttr,h1];refine o6 results209 ?_;simp only[p6,simprocAttr];refine⟨k,by trivial,?_,by trivial⟩;have h2:s.b.all X6=false:=by
      rw[dx3];intro h3;have:=dt1.1 h3 c hmem;simp[X6,hlet,hdig]at this
     rw[h2];simp;omega
    ·simp only[n7,n8,simprocAttr,h1];refine⟨k+1,by omega,by rw[B0 k (by omega)],by omega,?_,by trivial⟩;rw[htk,List.all_append,hall];simp[X6,hdig]
   ·simp only[n7,n8,simprocAttr,h1];refine⟨k+1,by omega,by rw[B0 k (by omega)],by omega,?_,by trivial⟩;rw[htk,List.all_append,hall];simp[X6,hlet]
  ·have hd:decide ((k:Int)<(s.b.length:Nat))=false:=by simpa using hlt
   have hke:k=s.b.length:=by omega
   simp only[n7,n8,simprocAttr,g0,h1,hd];refine o6 results209 ?_;simp only[p6,simprocAttr];refine⟨k,by trivial,?_,by trivial⟩;subst hke;rw[dn6]at hall;rw[hall];simp
theorem aA6(s:A7)(w:World):p7 prog 142 #[o9 s] w fun u w'=>(u = .bool (K7 s)∧w'=w):=by
 refine p8 [o9 s] func142 rfl ?_;cases hs:s.b with
 | nil=>
  have hl:s.b.length=0:=by rw[hs];rfl
  have h1:decide (((s.b.length:Nat):Int)<1)=true:=by rw[hl];rfl
  simp only[n7,n8,simprocAttr,h1];refine o6 results142 ?_;simp only[p6,simprocAttr];exact⟨by rw[K7,hs],by trivial⟩
 | cons c l=>
  have hl:s.b.length=l.length+1:=by rw[hs];rfl
  have hnf:K7 s=(decide (l.length<8)&&ac6 c&&l.all X6 && !bl3 s):=by rw[K7,hs]
  have hall:s.b.all X6=(X6 c&&l.all X6):=by rw[hs];rfl
  have h1:decide (((s.b.length:Nat):Int)<1)=false:=by rw[hl];simp;omega
  have hc:chr s 0=some c:=by unfold chr;rw[hs];rfl
  have hix:U4 prog 9 (o9 s) (.int .i64 0)=some (.int .u8 (c.toNat:Int)):=bX7 (k:=.i64) (i:=0) cy3 cH3 hc;cases h2:decide ((8:Int)<((s.b.length:Nat):Int))
  ·have hl8:l.length<8:=by simp at h2;omega
   simp only[n7,n8,simprocAttr,h1,h2,hix];refine y5 (bg5 c _) ?_;rintro u w1 ⟨rfl,rfl⟩;cases hlet:ac6 c
   ·simp only[n7,n8,simprocAttr];refine o6 results142 ?_;simp only[p6,simprocAttr];exact⟨by rw[hnf,hlet];simp,by trivial⟩
   ·simp only[n7,n8,simprocAttr];refine y5 (cG6 s _ (by omega)) ?_;rintro u w2 ⟨k,rfl,hk,rfl⟩;have hk2:decide ((k:Int)=((s.b.length:Nat):Int))=l.all X6:=by
     rw[hall,show X6 c=true by simp[X6,hlet],du6]at hk;rw[←hk];exact dq3.2 (by omega)
    cases ha:l.all X6
    ·rw[ha]at hk2;simp only[n7,n8,simprocAttr,hk2];refine o6 results142 ?_;simp only[p6,simprocAttr];exact⟨by rw[hnf,ha];simp,by trivial⟩
    ·rw[ha]at hk2;simp only[n7,n8,simprocAttr,hk2];refine y5 (cl7 s _) ?_;rintro u w3 ⟨rfl,rfl⟩;simp only[n7,n8,simprocAttr];refine o6 results142 ?_;simp only[p6,simprocAttr];exact⟨by rw[hnf,ha,hlet];simp[hl8],by trivial⟩
  ·simp only[n7,n8,simprocAttr,h1,h2];refine o6 results142 ?_;simp only[p6,simprocAttr];exact⟨by rw[hnf,show decide (l.length<8)=false by simp at h2 ⊢;omega];rfl,by trivial⟩
def dx2:=@List.sum_cons
def D1:=zJ (zJ (zJ (zJ @dd1 @dg5) (zJ @df1 @cS3)) (zJ (zJ @cO7 @dh7) (zJ @cA7 @cW6))) (zJ (zJ (zJ @di2 @cF4) (zJ @cS2 @df0)) (zJ (zJ @cW8 @de9) (zJ @List.drop_succ_cons.{0} @List.drop_zero.{0})))
theorem aB3(l:List St){k:Nat}(hk:k<l.length):A6 (l.take (k+1))=A6 (l.take k)+V7 l[k]:=by
 rw[dn2 hk,aJ1];simp[A6]
theorem ao7(l:List St)(k:Nat):A6 (l.take k)≤A6 l:=by
 have:=aJ1 (l.take k) (l.drop k);rw[dr0]at this;omega
theorem bj1:∀(m:Nat) (t:St) (v:Value) (w:World),V7 t≤m→SV (i4 w) v t→O7 t≤1000000→p7 prog 182 #[v] w fun u w'=>(u = .int .i64 (V7 t:Nat)∧o7 w w')
 | 0,t,v,w,hsm,_,_=>absurd (bt5 t) (by omega)
 | m+1,t,v,w,hsm,hv,hwt=>by
  refine p8 [v] func182 rfl ?_;obtain⟨a,w1,hbx,hx,ha⟩:=ah0 hv (d7 _);obtain⟨vl,va,vt,ve,hl,hra,ht,he,hatx,ld,sd⟩:=ha.st;have l1:=ld w1 (d7 _);have hS1:=ht.isS;have hn1:=ht.vlen;have hS2:=he.isS;have hn2:=he.vlen;have hsz:=bv0 t;have heq:=aq0 t;have hwe:=P2 t;have hc1:=Q8 t.thn;have hc2:=Q8 t.els;simp only[n7,n8,simprocAttr,hbx,l1,hS1,hn1];refine n9 [1,9,10] (σ:=Nat) (fun k f w'=>f 11 = .int .i64 k∧k≤t.thn.length∧f 3 = .int .i64 ((1+A6 (t.thn.take k):Nat):Int)∧o7 w1 w') (fun k=>t.thn.length-k) 0 ?_ ?_
  ·simp only[p6,simprocAttr];exact⟨by trivial,dn5 _,by simp[A6],p9.refl _⟩
  ·rintro k f w2 hk ⟨h11,hkl,h3,hx2⟩;simp only[dm6,p6,simprocAttr]at hk;obtain⟨e1,e9,e10,_⟩:=hk;simp only[n7,n8,simprocAttr,h11,e10];refine m8 (fun hc=>?_) (fun hc=>?_)
   ·have hlt:k<t.thn.length:=by simpa using hc
    have hin:=ht.inS hlt;obtain⟨sv,hsv,hld⟩:=F0 (P:=prog) (t:=45) ht (b7 hx2) (dm4 hlt) bk3 bk9 aQ2 ai7;rw[ai7]at hld;have htk:=aB3 t.thn hlt;have hle1:=ao7 t.thn (k+1);have hwm:=ag7 (dn3 hlt);generalize t.thn[k]=s at hsv htk hwm;obtain⟨b,wz,w3,hal,hst,hx3,hat⟩:=aQ7 (hsv.mono (b7 hx2)) (d7 _);obtain⟨ss,hss,lss,_⟩:=hat.st_v;have l3:=lss w3 (d7 _);simp only[n7,n8,z6,simprocAttr,h11,e9,hin,hld,hal,hst,l3,h3];refine B1 (bj1 m s ss w3 (by omega) hss (by omega)) (fun w4 hx4=>?_);simp only[n7,n8,simprocAttr,h11];exact⟨k+1,by omega,by rw[B0 k (by omega)],by omega,by rw[L0 _ (by omega)];congr 1;omega,hx2.trans (hx3.trans hx4)⟩
   ·have hge:k=t.thn.length:=by simp at hc;omega
    subst hge;rw[dn6]at h3;have l2:=ld w2 (b7 hx2);simp only[n7,n8,simprocAttr,e1,l2,hS2,hn2];refine n9 [1,21,22] (σ:=Nat) (fun k f w'=>f 23 = .int .i64 k∧k≤t.els.length∧f 3 = .int .i64 ((1+A6 t.thn+A6 (t.els.take k):Nat):Int)∧o7 w1 w') (fun k=>t.els.length-k) 0 ?_ ?_
    ·simp only[p6,simprocAttr];exact⟨by trivial,dn5 _,by simp[A6,h3],hx2⟩
    ·rintro k f w2 hk ⟨h23,hkl,h3,hx2⟩;simp only[dm6,p6,simprocAttr]at hk;obtain⟨e1,e21,e22,_⟩:=hk;simp only[n7,n8,simprocAttr,h23,e22];refine m8 (fun hc=>?_) (fun hc=>?_)
     ·have hlt:k<t.els.length:=by simpa using hc
      have hin:=he.inS hlt;obtain⟨sv,hsv,hld⟩:=F0 (P:=prog) (t:=45) he (b7 hx2) (dm4 hlt) bk3 bk9 aQ2 ai7;rw[ai7]at hld;have htk:=aB3 t.els hlt;have hle1:=ao7 t.els (k+1);have hwm:=ag7 (dn3 hlt);generalize t.els[k]=s at hsv htk hwm;obtain⟨b,wz,w3,hal,hst,hx3,hat⟩:=aQ7 (hsv.mono (b7 hx2)) (d7 _);obtain⟨ss,hss,lss,_⟩:=hat.st_v;have l3:=lss w3 (d7 _);simp only[n7,n8,z6,simprocAttr,h23,e21,hin,hld,hal,hst,l3,h3];refine B1 (bj1 m s ss w3 (by omega) hss (by omega)) (fun w4 hx4=>?_);simp only[n7,n8,simprocAttr,h23];exact⟨k+1,by omega,by rw[B0 k (by omega)],by omega,by rw[L0 _ (by omega)];congr 1;omega,hx2.trans (hx3.trans hx4)⟩
     ·have hge:k=t.els.length:=by simp at hc;omega
      subst hge;rw[dn6]at h3;simp only[n7,simprocAttr,h3];refine o6 results182 ?_;simp only[p6,simprocAttr];exact⟨by rw[heq],hx.trans hx2⟩
theorem cd6:∀(m:Nat) (l:List St) (v:Value) (w:World),A6 l≤m→R (i4 w) v l→G1 l≤1000000→p7 prog 54 #[v] w fun u w'=>(u = .int .i64 (A6 l:Nat)∧o7 w w'):=by
 intro m
 induction m with
 | zero=>
  intro l v w hsm hv hwt;have hl0:l.length=0:=by have:=Q8 l;omega
  refine p8 [v] func54 rfl ?_;have hS:=hv.isS;have hn:=hv.vlen;simp only[n7,n8,simprocAttr,hS,hn];refine n9 [7,8] (σ:=Nat) (fun k f w'=>f 9 = .int .i64 0∧f 3 = .int .i64 ((l.length:Nat):Int)∧w'=w) (fun k=>0) 0 ?_ ?_
  ·simp only[p6,simprocAttr];exact⟨by trivial,by trivial,by trivial⟩
  ·rintro k f w2 hk ⟨h9,h3,rfl⟩;simp only[dm6,p6,simprocAttr]at hk;obtain⟨e7,e8,_⟩:=hk;have d0:decide ((0:Int)<((l.length:Nat):Int))=false:=by rw[hl0];decide
   simp only[n7,n8,simprocAttr,h9,e8,d0,h3];refine o6 results54 ?_;simp only[p6,simprocAttr];exact⟨by rw[List.eq_nil_of_length_eq_zero hl0];rfl,p9.refl _⟩
 | succ m ih=>
  intro l v w hsm hv hwt;refine p8 [v] func54 rfl ?_;have hS:=hv.isS;have hn:=hv.vlen;have hwsz:=aq6 l;have hcl:=Q8 l;simp only[n7,n8,simprocAttr,hS,hn];refine n9 [0,7,8] (σ:=Nat) (fun k f w'=>f 9 = .int .i64 k∧k≤l.length∧f 3 = .int .i64 ((l.length+A6 (l.take k)-k:Nat):Int)∧o7 w w') (fun k=>l.length-k) 0 ?_ ?_
  ·simp only[p6,simprocAttr];exact⟨by trivial,dn5 _,by simp[A6],p9.refl _⟩
  ·rintro k f w2 hk ⟨h9,hkl,h3,hx2⟩;simp only[dm6,p6,simprocAttr]at hk;obtain⟨e0,e7,e8,_⟩:=hk;have hlk:=Q8 (l.take k);rw[dn8,dt5 hkl]at hlk;simp only[n7,n8,simprocAttr,h9,e8];refine m8 (fun hc=>?_) (fun hc=>?_)
   ·have hlt:k<l.length:=by simpa using hc
    have hin:=hv.inS hlt;have hat:=(hv.at_ (dm4 hlt));have htk:=aB3 l hlt;have hle1:=ao7 l (k+1);have hwm:=ag7 (dn3 hlt);generalize l[k]=t at hat htk hwm;have heq:=aq0 t;have hwe:=P2 t;obtain⟨vl,va,vt,ve,hl',hra,ht,he,hatx,ld,sd⟩:=hat.st;have hxd:=hx2.trans (o7.drew w2);have s2:=sd (fun w'=>o7 w2.drew w') w2.drew (p9.refl _) (fun w' h=>b7 (hxd.trans h));have hz:A3.sz St=13:=rfl;rw[hz]at s2;simp only[n7,simprocAttr,h9];refine C2 (fun w'=>o7 w2.drew w') 16 (A9 [0,1,2,3,4,5,7,8,9,10,11,6,12,13,14,15]) ?_;simp only[D1,A9,n7,n8,z6,simprocAttr,e0,h3,hin,s2];refine B1 (ih t.thn vt _ (by omega) (A3.mono (b7 hxd) ht) (by omega)) (fun w3 hx3=>?_);simp only[D1,n7,simprocAttr,F2];refine⟨hx3,?_⟩;refine B1 (ih t.els ve _ (by omega) (A3.mono (b7 (hxd.trans hx3)) he) (by omega)) (fun w4 hx4=>?_);have hw1:IntKind.i64.wrap (((A6 t.thn:Nat):Int)+((A6 t.els:Nat):Int))=((A6 t.thn+A6 t.els:Nat):Int):=by rw[L0 _ (by omega)];omega
    have hw2:IntKind.i64.wrap (((l.length+A6 (l.take k)-k:Nat):Int)+((A6 t.thn+A6 t.els:Nat):Int))=((l.length+A6 (l.take (k+1))-(k+1):Nat):Int):=by rw[L0 _ (by omega)];omega
    simp only[D1,n7,n8,simprocAttr,F2,hw1,hw2,h9];refine⟨hx3.trans hx4,?_⟩;exact⟨k+1,by omega,by rw[B0 k (by omega)],by omega,by trivial,hxd.trans (hx3.trans hx4)⟩
   ·have hge:k=l.length:=by simp at hc;omega
    subst hge;rw[dn6]at h3;simp only[n7,simprocAttr,h3];refine o6 results54 ?_;simp only[p6,simprocAttr];exact⟨by congr 1;congr 1;omega,hx2⟩
def bw2(p:Pg):Nat:=(p.procs.map fun f=>A6 f.body).sum
theorem bb3:∀(l:List Pr),3*(l.map fun f=>A6 f.body).sum≤aA0 l
 | []=>by simp[aA0]
 | f::l=>by
  have h1:=bb3 l;have h2:=aq6 f.body;simp only[dr3,dx2,aA0,T8];omega
theorem cb0(v:Value)(p:Pg)(w:World)(hv:SV (i4 w) v p)(hwt:D3 p≤1000000):p7 prog 36 #[v] w fun u w'=>(u = .int .i64 (bw2 p:Nat)∧o7 w w'):=by
 refine p8 [v] func36 rfl ?_;obtain⟨a,w1,hbx,hx,ha⟩:=N8 hv (d7 _);obtain⟨vg,vp,hg,hp,ld,sd⟩:=ha.pg;have l1:=ld w1 (d7 _);have hS:=hp.isS;have hn:=hp.vlen;have hpl:=ac0 p.procs;have hcp:=bb3 p.procs;unfold D3 at hwt;simp only[n7,n8,simprocAttr,hbx,l1,hS,hn];refine n9 [1,7,8] (σ:=Nat) (fun k f w'=>f 9 = .int .i64 k∧k≤p.procs.length∧f 3 = .int .i64 ((((p.procs.take k).map fun f=>A6 f.body).sum:Nat):Int)∧o7 w1 w') (fun k=>p.procs.length-k) 0 ?_ ?_
 ·simp only[p6,simprocAttr];exact⟨by trivial,dn5 _,by simp,p9.refl _⟩
 ·rintro k f w2 hk ⟨h9,hkl,h3,hx2⟩;simp only[dm6,p6,simprocAttr]at hk;obtain⟨e1,e7,e8,_⟩:=hk;simp only[n7,n8,simprocAttr,h9,e8];refine m8 (fun hc=>?_) (fun hc=>?_)
  ·have hlt:k<p.procs.length:=by simpa using hc
   have hin:=hp.inS hlt;obtain⟨sv,hsv,hld⟩:=F0 (P:=prog) (t:=51) hp (b7 hx2) (dm4 hlt) ae3 ae4 ad3 I8;rw[I8]at hld;have htk:((p.procs.take (k+1)).map fun f=>A6 f.body).sum=((p.procs.take k).map fun f=>A6 f.body).sum+A6 p.procs[k].body:=by
    rw[dn2 hlt,dp4,List.sum_append];simp
   have hle1:((p.procs.take (k+1)).map fun f=>A6 f.body).sum≤(p.procs.map fun f=>A6 f.body).sum:=by
    conv=>rhs;rw[←dr0 (k+1) p.procs,dp4,List.sum_append]
    omega
   have hwm:=ag6 (dn3 hlt);generalize p.procs[k]=q at hsv htk hwm;obtain⟨b,wz,w3,hal,hst,hx3,hat⟩:=as2 (hsv.mono (b7 hx2)) (d7 _);obtain⟨_,_,vb,_,_,_,hrb,_,ldq,_⟩:=hat.pr;have l3:=ldq w3 (d7 _);simp only[n7,n8,z6,simprocAttr,h9,e7,hin,hld,hal,hst,l3,h3];refine B1 (cd6 _ q.body vb w3 (dn9 _) hrb (by unfold T8 at hwm;omega)) (fun w4 hx4=>?_);simp only[n7,n8,simprocAttr,h9];exact⟨k+1,by omega,by rw[B0 k (by omega)],by omega,by rw[L0 _ (by omega)];congr 1;omega,hx2.trans (hx3.trans hx4)⟩
  ·have hge:k=p.procs.length:=by simp at hc;omega
   subst hge;rw[dn6]at h3;simp only[n7,simprocAttr,h3];refine o6 results36 ?_;simp only[p6,simprocAttr];exact⟨by trivial,hx.trans hx2⟩
def bF4(x:A7):List A7→List A7
 | []=>[x]
 | y::l=>if U9 y x then y::bF4 x l else x::y::l
def R4:List A7→List A7
 | []=>[]
 | x::l=>bF4 x (R4 l)
def I4{α:Type}[DecidableEq α]:List α→List α
 | []=>[]
 | [x]=>[x]
 | x::y::l=>if x=y then I4 (y::l)else x::I4 (y::l)
def D0(l:List A7):List A7:=I4 (R4 l)
mutual
def V3:St→Nat→Int→Int→Int→Int→List It
 | .mk id kind labels name proc x has args thn els,k,pr,up,nx,lp=>
  let me:Int:=k+1
  let nx':=if kind=6 then me else nx
  let lp':=if kind=6 then me else lp
  let a:=C3 thn (k+1) pr me nx' lp'
  ⟨.mk id kind labels name proc x has args thn els,pr,up,nx,lp⟩::(a++C3 els (k+1+a.length) pr me nx' lp')
def C3:List St→Nat→Int→Int→Int→Int→List It
 | [],_,_,_,_,_=>[]
 | t::l,k,pr,up,nx,lp=>
  let a:=V3 t k pr up (if l.length=0 then nx else k+1+V7 t) lp
  a++C3 l (k+a.length) pr up nx lp
end
def E5(s:Sh)(i:Nat)(f:Pr):Sh:=
 let a:=C3 f.body s.l.length i 0 (-1) 0
 ⟨s.p,s.l++a,s.lo++[(s.l.length:Int)+1],s.hi++[(s.l.length:Int)+a.length+1]⟩
def F5(s:Sh):Nat→List Pr→Sh
 | _,[]=>s
 | i,f::l=>F5 (E5 s i f) (i+1) l
def b9(p:Pg):Sh:=F5 ⟨p,[],[],[]⟩ 0 p.procs
def V0(l:List Int)(i:Int):Int:=l.getD i.toNat 0
def Sh.of(s:Sh)(i:Int):List It:=(s.l.take (V0 s.hi i-1).toNat).drop (V0 s.lo i-1).toNat
def V4{α:Type}(p:α→Bool):Nat→List α→Int
 | _,[]=>-1
 | i,x::l=>if p x then i else V4 p (i+1) l
def S5(procs:List Pr)(n:A7):Int:=V4 (fun f=>decide (f.name=n)) 0 procs
def Sh.pr(s:Sh)(n:A7):Int:=S5 s.p.procs n
def ch9:St:=.mk 0 0 [] e0 e0 (.mk 0 0 e0 []) false [] [] []
def di0:It:=⟨ch9,0,0,0,0⟩
def bn2:Pr:=⟨e0,[],[],[],[]⟩
def Sh.it(s:Sh)(id:Int):It:=s.l.getD (id-1).toNat di0
def Sh.fn(s:Sh)(i:Int):Pr:=s.p.procs.getD i.toNat bn2
def Sh.first(s:Sh)(i:Int):Int:=if V0 s.lo i<V0 s.hi i then V0 s.lo i else -1
def Sh.at(s:Sh)(i:Int)(lb:A7):Option Int:=match(s.of i).find? fun it=>it.s.labels.contains lb with
 | some it=>some it.s.id
 | none=>if(s.fn i).fin.contains lb then some (-1)else none
def J1(a:Ar):List A7:=(if a.ref then[a.name]else[])++aa1 a.x
def L4(t:St):List A7:=(if t.kind≠10∧t.name≠e0 then[t.name]else[])++aa1 t.x++t.args.flatMap J1
def az4(p:Pg)(f:Pr)(n:A7):Int:=match f.params.find? fun a=>decide (a.name=n)with
 | some a=>if a.ref then 3 else 2
 | none=>if f.vars.contains n then 4 else if p.globals.contains n then 1 else 0
def ba5(f:Pr):List A7:=f.params.map (·.name)++f.vars
def Y4(l:List A7):Bool:=!decide l.Nodup
def R2:A7:=ofA #[109,97,105,110]
def ac5(p:Pg)(f:Pr)(procs:List A7)(t:St):Bool:=(L4 t).all (fun n=>!decide (az4 p f n=0))&&(!decide (t.kind=4)||(!decide (t.proc=R2)&&procs.contains t.proc))
def W9(p:Pg)(procs:List A7)(f:Pr)(l:List It):Option (Int×Int):=
 if Y4 (ba5 f)||(ba5 f).any (fun n=>p.globals.contains n)then some (5,0)
 else match l.find? fun it=>!ac5 p f procs it.s with
  | some it=>some (5,it.s.id)
  | none=>none
def M0(p:Pg)(s:Sh)(procs:List A7):Nat→List Pr→Option (Int×Int)
 | _,[]=>none
 | i,f::l=>match W9 p procs f (s.of i)with
   | some e=>some e
   | none=>M0 p s procs (i+1) l
def O6(p:Pg):Int×Int:=
 if M6 p=false then(1,0)
 else let procs:=p.procs.map (·.name);let first:=S5 p.procs R2
  if Y4 p.globals||Y4 procs||decide (first<0)||decide (0<(p.procs.getD first.toNat bn2).params.length)then(5,0)
  else(M0 p (b9 p) procs 0 p.procs).getD (0,0)
def bi5(l:List Pa)(a:List Ar):Bool:=decide (l.length=a.length)&&(l.zip a).all fun x=>x.1.ref==x.2.ref
def ac4(p:Pg)(s:St):Bool:=decide (s.kind=4)&&(match p.procs.find? fun f=>decide (f.name=s.proc)with
 | some f=>bi5 f.params s.args
 | none=>false)
def X7(p:Pg):Int×Int:=if(O6 p).1≠0 then(1,0)else match(b9 p).l.find? fun it=>decide (it.s.kind=4) && !ac4 p it.s with
 | some it=>(6,it.s.id)
 | none=>(0,0)
def ap0:List A7→List A7→Option (List A7)
 | seen,[]=>some seen
 | seen,n::l=>if seen.contains n then none else ap0 (seen++[n]) l
def ap2(s:Sh)(it:It):Bool:=if it.s.kind=7∨it.s.kind=8 then !decide (it.loop=0)else if it.s.kind=10 then(s.at it.proc it.s.name).isSome else true
def ar3(s:Sh):List A7→List It→List A7 ⊕ Int
 | seen,[]=>.inl seen
 | seen,it::l=>match ap0 seen it.s.labels with
   | none=>.inr it.s.id
   | some seen'=>if ap2 s it then ar3 s seen' l else .inr it.s.id
def ap1(s:Sh)(f:Pr)(l:List It):Option (Int×Int):=match ar3 s [] l with
 | .inr id=>some (7,id)
 | .inl seen=>match ap0 seen f.fin with
   | none=>some (7,0)
   | some _=>none
def P6(s:Sh):Nat→List Pr→Option (Int×Int)
 | _,[]=>none
 | i,f::l=>match ap1 s f (s.of i)with
   | some e=>some e
   | none=>P6 s (i+1) l
def az3(p:Pg):Int×Int:=if(O6 p).1≠0 then(1,0)else(P6 (b9 p) 0 p.procs).getD (0,0)
def ao2(s:Sh)(n:A7):List A7:=D0 (((s.of (s.pr n)).filter fun it=>decide (it.s.kind=4)).map (·.s.proc))
def ai9(out:List A7):List A7→List A7
 | []=>out
 | n::l=>ai9 (if out.contains n then out else out++[n]) l
def ae6(g:A7→List A7):Nat→Nat→List A7→List A7
 | 0,_,out=>out
 | m+1,i,out=>match out[i]? with
   | none=>out
   | some n=>ae6 g m (i+1) (ai9 out (g n))
def bm1(s:Sh)(n:A7):List A7:=R4 (ae6 (ao2 s) (s.p.procs.length+1) 0 [n])
def aS9(p:Pg)(n:A7):Bool:=decide ((O6 p).1=0)&&p.procs.any fun f=>decide (f.name=n)
def W0(p:Pg)(n:A7):List A7:=if aS9 p n then
  let s:=b9 p
  D0 ((bm1 s n).flatMap fun m=>(s.of (s.pr m)).flatMap fun it=>(L4 it.s).filter fun v=>p.globals.contains v)
 else[]
def ar7(name:A7)(touched:List A7):List A7→List Ar→Bool
 | _,[]=>true
 | seen,a::l=>if a.ref then(if seen.contains a.name||decide (a.name=name)||touched.contains a.name then false else ar7 name touched (seen++[a.name]) l)else ar7 name touched seen l
def ad1(s:St)(touched:List A7):Bool:=ar7 s.name touched [] s.args
def aB0(p:Pg):Int×Int:=if(X7 p).1≠0 then(1,0)else match(b9 p).l.find? fun it=>decide (it.s.kind=4) && !ad1 it.s (W0 p it.s.proc)with
 | some it=>(8,it.s.id)
 | none=>(0,0)
def aI9(p:Pg):Int×Int:=
 if M6 p=false then(1,0)
 else if(O6 p).1≠0 then O6 p
 else if(X7 p).1≠0 then X7 p
 else if(az3 p).1≠0 then az3 p
 else aB0 p
def ac9(p:Pg):Bool:=decide ((aI9 p).1=0)
theorem ao9{α:Type}(p:α→Bool):∀(l:List α) (i k:Nat) (hk:k<l.length),(∀j (hj:j<k),p (l[j]'(by omega))=false)→p l[k]=true→V4 p i l=(i+k:Nat)
 | [],i,k,hk,_,_=>by simp at hk
 | x::l,i,0,hk,h1,h2=>by
  have h2':p x=true:=h2;rw[V4,if_pos h2'];rfl
 | x::l,i,k+1,hk,h1,h2=>by
  have h0:p x=false:=h1 0 (by omega);rw[V4,if_neg (by rw[h0];simp),ao9 p l (i+1) k (by simpa using hk) (fun j hj=>h1 (j+1) (by omega)) h2]
  congr 1;omega
theorem au0{α:Type}(p:α→Bool):∀(l:List α) (i:Nat),(∀x∈l,p x=false)→V4 p i l = -1
 | [],i,_=>rfl
 | x::l,i,h=>by
  rw[V4,if_neg (by rw[h x (by simp)];simp)];exact au0 p l (i+1) fun y hy=>h y (dt4 _ hy)
theorem at8{α:Type}(p:α→Bool):∀(l:List α) (i:Nat),decide (0≤V4 p i l)=l.any p
 | [],i=>rfl
 | x::l,i=>by
  rw[V4,List.any_cons];cases hp:p x
  ·rw[if_neg (by simp),at8 p l];rfl
  ·rw[if_pos rfl];simp
theorem at9{α:Type}(p:α→Bool):∀(l:List α) (i:Nat),0≤V4 p i l→∃k,V4 p i l=(i+k:Nat)∧∃x,l[k]?=some x∧p x=true
 | [],i,h=>by simp[V4]at h
 | x::l,i,h=>by
  rw[V4]at h ⊢;cases hp:p x
  ·rw[hp,if_neg (by simp)]at h;rw[if_neg (by simp)];obtain⟨k,h1,y,h2,h3⟩:=at9 p l (i+1) h;exact⟨k+1,by rw[h1];congr 1;omega,y,by simpa using h2,h3⟩
  ·rw[if_pos rfl];exact⟨0,by simp,x,rfl,hp⟩
theorem cZ1:E6 prog 111 121 17 240=true:=by kernel_rfl
theorem cL4:E6 prog 112 3 1 8=true:=by kernel_rfl
structure ShS (h:Hp) (w:World) (gb:Nat) (vg vp vL vLo vHi:Value) (L:List It) (lo hi:List Int):Prop where
 free:h gb=none
 cell:w.heap[gb]?=some (.cells #[vg,vp,vL,vLo,vHi] 114 (0,0))
 oL:A8 h w 121 vL L
 oLo:A8 h w 3 vLo lo
 oHi:A8 h w 3 vHi hi
 d1:∀b,A4 vL b→b≠gb∧¬A4 vLo b∧¬A4 vHi b
 d2:∀b,A4 vLo b→b≠gb∧¬A4 vHi b
 d3:∀b,A4 vHi b→b≠gb
section
variable {h:Hp} {w:World} {gb:Nat} {vg vp vL vLo vHi:Value} {L:List It} {lo hi:List Int}
theorem ShS.lt(s:ShS h w gb vg vp vL vLo vHi L lo hi):gb<w.heap.size:=(dn1.1 s.cell).1
theorem ShS.mod{M:Nat→Prop}{w':World}(s:ShS h w gb vg vp vL vLo vHi L lo hi)(hm:p9 M w w')(h0:¬M gb)(h1:∀b,A4 vL b→¬M b)(h2:∀b,A4 vLo b→¬M b)(h3:∀b,A4 vHi b→¬M b):ShS h w' gb vg vp vL vLo vHi L lo hi:=
 ⟨s.free,(hm.block gb s.lt h0).trans s.cell,s.oL.mod hm h1,s.oLo.mod hm h2,s.oHi.mod hm h3,s.d1,s.d2,s.d3⟩
theorem ShS.ext{w':World}(s:ShS h w gb vg vp vL vLo vHi L lo hi)(hx:o7 w w'):ShS h w' gb vg vp vL vLo vHi L lo hi:=
 s.mod hx id (fun _ _=>id) (fun _ _=>id) (fun _ _=>id)
theorem ShS.setL{w1 w2:World}{vL':Value}{L':List It}(s:ShS h w gb vg vp vL vLo vHi L lo hi)(h1:p9 (A4 vL) w w1)(ho:A8 h w1 121 vL' L')(hv:D7 w vL vL')
  (h2:p9 (fun b=>b=gb) w1 w2) (hc:w2.heap[gb]?=some (.cells #[vg,vp,vL',vLo,vHi] 114 (0,0))):ShS h w2 gb vg vp vL' vLo vHi L' lo hi:=by
 have hne:∀b,A4 vL' b→b≠gb∧¬A4 vLo b∧¬A4 vHi b:=fun b hb=>by
  rcases hv b hb with k|k
  ·exact s.d1 b k
  ·exact⟨fun e=>by have:=s.lt;omega,fun e=>by have:=s.oLo.lt e;omega,fun e=>by have:=s.oHi.lt e;omega⟩
 refine⟨s.free,hc,ho.mod h2 fun b hb=>(hne b hb).1,(s.oLo.mod h1 fun b hb hb2=>(s.d1 b hb2).2.1 hb).mod h2 fun b hb=>(s.d2 b hb).1,(s.oHi.mod h1 fun b hb hb2=>(s.d1 b hb2).2.2 hb).mod h2 fun b hb=>s.d3 b hb,hne,s.d2,s.d3⟩
theorem ShS.setLo{w1 w2:World}{v':Value}{lo':List Int}(s:ShS h w gb vg vp vL vLo vHi L lo hi)(h1:p9 (A4 vLo) w w1)(ho:A8 h w1 3 v' lo')(hv:D7 w vLo v')
  (h2:p9 (fun b=>b=gb) w1 w2) (hc:w2.heap[gb]?=some (.cells #[vg,vp,vL,v',vHi] 114 (0,0))):ShS h w2 gb vg vp vL v' vHi L lo' hi:=by
 have hne:∀b,A4 v' b→b≠gb∧¬A4 vL b∧¬A4 vHi b:=fun b hb=>by
  rcases hv b hb with k|k
  ·exact⟨(s.d2 b k).1,fun e=>(s.d1 b e).2.1 k,(s.d2 b k).2⟩
  ·exact⟨fun e=>by have:=s.lt;omega,fun e=>by have:=s.oL.lt e;omega,fun e=>by have:=s.oHi.lt e;omega⟩
 refine⟨s.free,hc,(s.oL.mod h1 fun b hb hb2=>(s.d1 b hb).2.1 hb2).mod h2 fun b hb=>(s.d1 b hb).1,ho.mod h2 fun b hb=>(hne b hb).1,(s.oHi.mod h1 fun b hb hb2=>(s.d2 b hb2).2 hb).mod h2 fun b hb=>s.d3 b hb,fun b hb=>⟨(s.d1 b hb).1,fun e=>(hne b e).2.1 hb,(s.d1 b hb).2.2⟩,fun b hb=>⟨(hne b hb).1,(hne b hb).2.2⟩,s.d3⟩
theorem ShS.setHi{w1 w2:World}{v':Value}{hi':List Int}(s:ShS h w gb vg vp vL vLo vHi L lo hi)(h1:p9 (A4 vHi) w w1)(ho:A8 h w1 3 v' hi')(hv:D7 w vHi v')
  (h2:p9 (fun b=>b=gb) w1 w2) (hc:w2.heap[gb]?=some (.cells #[vg,vp,vL,vLo,v'] 114 (0,0))):ShS h w2 gb vg vp vL vLo v' L lo hi':=by
 have hne:∀b,A4 v' b→b≠gb∧¬A4 vL b∧¬A4 vLo b:=fun b hb=>by
  rcases hv b hb with k|k
  ·exact⟨s.d3 b k,fun e=>(s.d1 b e).2.2 k,fun e=>(s.d2 b e).2 k⟩
  ·exact⟨fun e=>by have:=s.lt;omega,fun e=>by have:=s.oL.lt e;omega,fun e=>by have:=s.oLo.lt e;omega⟩
 refine⟨s.free,hc,(s.oL.mod h1 fun b hb hb2=>(s.d1 b hb).2.2 hb2).mod h2 fun b hb=>(s.d1 b hb).1,(s.oLo.mod h1 fun b hb hb2=>(s.d2 b hb).2 hb2).mod h2 fun b hb=>(s.d2 b hb).1,ho.mod h2 fun b hb=>(hne b hb).1,fun b hb=>⟨(s.d1 b hb).1,(s.d1 b hb).2.1,fun e=>(hne b e).2.1 hb⟩,fun b hb=>⟨(s.d2 b hb).1,fun e=>(hne b e).2.2 hb⟩,fun b hb=>(hne b hb).1⟩
end
def U6(h:Hp)(w:World)(tb:Nat)(x:It):Prop:=∃cs:List Value,w.heap[tb]?=some (.cells (List.toArray cs) 121 (0,0))∧A3.enc h cs x
section
variable {h:Hp} {w:World} {tb:Nat} {x:It}
theorem U6.mod{M:Nat→Prop}{w':World}(ht:U6 h w tb x)(hm:p9 M w w')(h0:¬M tb):U6 h w' tb x:=by
 obtain⟨cs,h1,h2⟩:=ht;exact⟨cs,(hm.block tb (dn1.1 h1).1 h0).trans h1,h2⟩
theorem U6.lt(ht:U6 h w tb x):tb<w.heap.size:=by
 obtain⟨cs,h1,h2⟩:=ht;exact(dn1.1 h1).1
theorem U6.new{v:Value}(hv:SV h v x):∃tb wz w',(Instr.alloc 121 true (.tuple #[])).run prog w = .ok (.pointer (some ⟨tb,0,none⟩)) wz∧(Instr.storeAt 121 (.pointer (some ⟨tb,0,none⟩)) v).run prog wz = .ok () w'∧o7 w w'∧w.heap.size≤tb∧U6 h w' tb x:=by
 obtain⟨cs,rfl,he⟩:=hv;obtain⟨h1,h2⟩:=aN3 (P:=prog) (w:=w) (T:=121) bT5 rfl (cs:=List.toArray cs) (by rw[I5];simpa using(show cs.length=17 from A3.len he)) (by simpa using A3.one he);exact⟨w.heap.size,_,_,h1,h2,o7.alloc _ _,dn9 _,cs,dq7 w _,he⟩
theorem U6.ld(ht:U6 h w tb x):∃v,SV h v x∧(∀w',w'.heap[tb]?=w.heap[tb]?→(Instr.loadAt 121 (.pointer (some ⟨tb,0,none⟩))).run prog w' = .ok v w'∧(Instr.loadAt 3 (.pointer (some ⟨tb,15,none⟩))).run prog w' = .ok (.int .i64 x.next) w'):=by
 obtain⟨cs,h1,h2⟩:=ht;refine⟨.agg (List.toArray cs),⟨cs,rfl,h2⟩,fun w' hw=>⟨?_,?_⟩⟩
 ·exact Z3 (hw.trans h1) aa4 aa5 Y5 (by rw[I5];simpa using(show cs.length=17 from A3.len h2).symm)
 ·obtain⟨c,rfl,hc⟩:=aE5 h2;obtain⟨a1,a2,a3,a4,a5,a6,a7,a8,a9,a10,a11,a12,a13,rfl⟩:=aC6 (A3.len hc);exact E7 (hw.trans h1) rfl F4
theorem U6.setS{v:Value}{s:St}(ht:U6 h w tb x)(hs:SV h v s):∃w',(Instr.storeAt 45 (.pointer (some ⟨tb,0,none⟩)) v).run prog w = .ok () w'∧U6 h w' tb ⟨s,x.proc,x.up,x.next,x.loop⟩∧p9 (fun b=>b=tb) w w':=by
 obtain⟨cs,h1,h2⟩:=ht;obtain⟨ds,rfl,h3⟩:=hs;obtain⟨c,rfl,hc⟩:=aE5 h2;have hl:c.length=13:=A3.len hc;have hl2:ds.length=13:=A3.len h3;obtain⟨w',k1,k2,k3⟩:=bV1 (P:=prog) (t:=45) (o:=0) (cs:=ds) h1 (by simp[hl,hl2]) (A3.one h3) aQ2 (by rw[ai7,hl2]);refine⟨w',k1,⟨_,k2,?_⟩,k3⟩;refine⟨ds,?_,h3⟩;simp only[dy1,dx1,dp8,hl2]
 congr 1
 simp only[do8];rw[←hl,List.drop_left];simp
theorem U6.setN(n:Int)(ht:U6 h w tb x):∃w',(Instr.storeAt 3 (.pointer (some ⟨tb,15,none⟩)) (.int .i64 n)).run prog w = .ok () w'∧U6 h w' tb ⟨x.s,x.proc,x.up,n,x.loop⟩∧p9 (fun b=>b=tb) w w':=by
 obtain⟨cs,h1,h2⟩:=ht;obtain⟨c,rfl,hc⟩:=aE5 h2;obtain⟨a1,a2,a3,a4,a5,a6,a7,a8,a9,a10,a11,a12,a13,rfl⟩:=aC6 (A3.len hc);obtain⟨w',k1,k2,k3⟩:=aj0 (P:=prog) (t:=3) (i:=15) (x:=.int .i64 n) h1 (by simp) rfl rfl (z7 ay5).choose_spec.1 (by rw[←C6 (z7 ay5).choose_spec.1];exact aQ3);exact⟨w',k1,⟨_,k2,_,rfl,hc⟩,k3⟩
theorem U6.setLp(n:Int)(ht:U6 h w tb x):∃w',(Instr.storeAt 3 (.pointer (some ⟨tb,16,none⟩)) (.int .i64 n)).run prog w = .ok () w'∧U6 h w' tb ⟨x.s,x.proc,x.up,x.next,n⟩∧p9 (fun b=>b=tb) w w':=by
 obtain⟨cs,h1,h2⟩:=ht;obtain⟨c,rfl,hc⟩:=aE5 h2;obtain⟨a1,a2,a3,a4,a5,a6,a7,a8,a9,a10,a11,a12,a13,rfl⟩:=aC6 (A3.len hc);obtain⟨w',k1,k2,k3⟩:=aj0 (P:=prog) (t:=3) (i:=16) (x:=.int .i64 n) h1 (by simp) rfl rfl (z7 ay5).choose_spec.1 (by rw[←C6 (z7 ay5).choose_spec.1];exact aQ3);exact⟨w',k1,⟨_,k2,_,rfl,hc⟩,k3⟩
end
theorem bD1(h:Hp):A3.enc h [.int .i64 0,.int .i64 0,.slice none 0 0,o9 e0,o9 e0,.int .i64 0,.int .i64 0,o9 e0,.slice none 0 0,.bool false,.slice none 0 0,.slice none 0 0,.slice none 0 0] ch9:=by
 refine bw8.2 ⟨.slice none 0 0,[.int .i64 0,.int .i64 0,o9 e0,.slice none 0 0],.slice none 0 0,.slice none 0 0,.slice none 0 0,rfl,aT4 h,bw7.2 ⟨.slice none 0 0,rfl,aT4 h⟩,aT4 h,aT4 h,aT4 h⟩
theorem cc6(h:Hp)(a b c d:Int):∃v,B7 prog 121 [(1,.int .i64 a),(2,.int .i64 b),(3,.int .i64 c),(4,.int .i64 d)]=some v∧SV h v (⟨ch9,a,b,c,d⟩:It):=by
 refine⟨_,by simp[B7,cx7,J4,Instr.fill,Value.cells];rfl,_,rfl,_,rfl,bD1 h⟩
theorem cc5(h:Hp)(a c:Int):∃v,B7 prog 121 [(1,.int .i64 a),(3,.int .i64 c)]=some v∧SV h v (⟨ch9,a,0,c,0⟩:It):=by
 refine⟨_,by simp[B7,cx7,J4,Instr.fill,Value.cells];rfl,_,rfl,_,rfl,bD1 h⟩
def dv6:=@List.drop_length
def dm9:=@of_decide_eq_false
def dm8:=@of_decide_eq_true
mutual
theorem af0:∀(t:St) (k:Nat) (pr up nx lp:Int),(V3 t k pr up nx lp).length=V7 t
 | .mk id kind labels name proc x has args thn els,k,pr,up,nx,lp=>by
  simp only[V3,do7,dm7,F7,V7];omega
theorem F7:∀(l:List St) (k:Nat) (pr up nx lp:Int),(C3 l k pr up nx lp).length=A6 l
 | [],_,_,_,_,_=>by simp[C3,A6]
 | t::l,k,pr,up,nx,lp=>by
  simp only[C3,dm7,af0,F7,A6]
end
theorem P5(t:St)(k:Nat)(pr up nx lp:Int):V3 t k pr up nx lp =
  ⟨t,pr,up,nx,lp⟩::(C3 t.thn (k+1) pr ((k:Int)+1) (if t.kind=6 then(k:Int)+1 else nx) (if t.kind=6 then(k:Int)+1 else lp) ++
   C3 t.els (k+1+A6 t.thn) pr ((k:Int)+1) (if t.kind=6 then(k:Int)+1 else nx) (if t.kind=6 then(k:Int)+1 else lp)):=by
 cases t;simp only[V3,F7,St.thn,St.els,St.kind];rfl
theorem cG5:∀(m:Nat) (l:List St) (ar:It) (va v:Value) (h:Hp) (gb:Nat) (vg vp vL vLo vHi:Value) (L:List It) (lo hi:List Int) (w:World),A6 l≤m→ShS h w gb vg vp vL vLo vHi L lo hi→B4 h (i4 w)→R h v l→SV h va ar→G1 l≤1000000→L.length+A6 l≤1000000 →
  p7 prog 121 #[.pointer (some ⟨gb,0,none⟩),v,va] w fun u w'=>(∃vL',ShS h w' gb vg vp vL' vLo vHi (L++C3 l L.length ar.proc ar.up ar.next ar.loop) lo hi∧p9 (fun b=>b=gb∨A4 vL b) w w'∧D7 w vL vL'):=by
 intro m
 induction m using Nat.strongRecOn with
 | ind m ih=>
 intro l ar va v h gb vg vp vL vLo vHi L lo hi w hsm hs hh hv hva hwt hLl;refine p8 [.pointer (some ⟨gb,0,none⟩),v,va] func121 rfl ?_;have hS:=hv.isS;have hn:=hv.vlen;have hN1:∀b,(b=gb∨A4 vL b)→b<w.heap.size:=fun b hb=>by
  rcases hb with rfl|hb
  ·exact hs.lt
  ·exact hs.oL.lt hb
 obtain⟨a,w1,hbx,hx1,ha⟩:=cC0 (w:=w) (fun b=>b=gb∨A4 vL b) hva hN1;have hN1':∀b,(b=gb∨A4 vL b)→b<w1.heap.size:=fun b hb=>dt8 (hN1 b hb) hx1.size;obtain⟨va_s,hva_s,_,lda,_⟩:=J6.it hva ha;obtain⟨ldw,_⟩:=J6.it_v hva ha;have hs1:=hs.ext hx1;have hfree:∀b,(b=gb∨A4 vL b)→h b=none:=fun b hb=>by
  rcases hb with rfl|hb
  ·exact hs.free
  ·exact hs.oL.free hb
 have hh1:B4 h (i4 w1):=v8 hh (b7 hx1);simp only[n7,n8,simprocAttr,hbx,hS,hn];refine n9 [0,1,5,11,12] (σ:=Nat×Value×List It) (fun s f w'=>f 13 = .int .i64 s.1∧s.1≤l.length∧ShS h w' gb vg vp s.2.1 vLo vHi (L++s.2.2) lo hi∧p9 (fun b=>b=gb∨A4 vL b) w1 w'∧D7 w1 vL s.2.1 ∧
  C3 l L.length ar.proc ar.up ar.next ar.loop=s.2.2++C3 (l.drop s.1) (L.length+s.2.2.length) ar.proc ar.up ar.next ar.loop∧s.2.2.length+A6 (l.drop s.1)=A6 l) (fun s=>l.length-s.1) (0,vL,[]) ?_ ?_
 ·simp only[p6,simprocAttr];exact⟨by trivial,dn5 _,by simpa using hs1,p9.refl _,fun b hb=>.inl hb,by simp,by simp⟩
 ·rintro⟨k,uL,pre⟩ f w2 hk ⟨h13,hkl,hs2,hx2,hmv2,hpre,hcnt⟩;simp only at h13 hkl hs2 hmv2 hpre hcnt;simp only[dm6,p6,simprocAttr]at hk;obtain⟨e0,e1,e5,e11,e12,_⟩:=hk;simp only[n7,n8,simprocAttr,h13,e12];refine m8 (fun hc=>?_) (fun hc=>?_)
  ·have hlt:k<l.length:=by simpa using hc
   have hin:=hv.inS hlt;have hh2:B4 h (i4 w2):=H7 hh1 hx2 hfree;obtain⟨sv,hsv,hld⟩:=F0 (P:=prog) (t:=45) hv hh2 (dm4 hlt) bk3 bk9 aQ2 ai7;rw[ai7]at hld;have hdrop:l.drop k=l[k]::l.drop (k+1):=dq6 hlt;have hwm:=ag7 (dn3 hlt);have hrest:(l.drop (k+1)).length=l.length-(k+1):=dv1;generalize l[k]=t at hsv hdrop hwm;rw[hdrop]at hpre hcnt;rw[A6]at hcnt;have heq:=aq0 t;have hwe:=P2 t;have hpL:(L++pre).length=L.length+pre.length:=dm7;have hfree2:∀b,(b=gb∨A4 uL b)→h b=none:=fun b hb=>by
    rcases hb with rfl|hb
    ·exact hs.free
    ·exact hs2.oL.free hb
   have hN2:∀b,(b=gb∨A4 uL b)→b<w2.heap.size:=fun b hb=>by
    rcases hb with rfl|hb
    ·exact hs2.lt
    ·exact hs2.oL.lt hb
   obtain⟨b,wz,w3,hal,hst,hx3,hat⟩:=cI1 (w:=w2) (fun b=>b=gb∨A4 uL b) hsv hN2;obtain⟨vl,ux,va',vt,ve,hvl,_,_,hva',hvt,hve,ldt,sdt⟩:=J6.st hsv hat;obtain⟨ldT,_⟩:=J6.st_v hsv hat;have hs3:=hs2.ext hx3;have hmod13:p9 (fun b=>b=gb∨A4 vL b) w1 w3:=hx2.trans (p9.up hx3);have hk3:B4 (B6 w3 fun b=>b=gb∨A4 uL b) (i4 w3):=B8 _ _;have hb3:B4 (B6 w1 fun b=>b=gb∨A4 vL b) (i4 w3):=D2 hmod13;have hgl3:=E7 (P:=prog) (t:=111) (i:=2) (u:=uL) hs3.cell rfl aU9;have hSu:=hs3.oL.isS;have hnu:=hs3.oL.vlen;rw[hpL]at hnu;have hid:IntKind.i64.wrap (((L.length+pre.length:Nat):Int)+1)=((L.length+pre.length+1:Nat):Int):=B0 _ (by omega);have lw3:=ldw w3 hb3;obtain⟨tb,wy,w4,hal4,hst4,hx4,hge4,htm4⟩:=U6.new (w:=w3) hva;have hs4:=hs3.ext hx4;have hk4:B4 (B6 w3 fun b=>b=gb∨A4 uL b) (i4 w4):=v8 hk3 (b7 hx4);have lT4:=ldT w4 hk4;obtain⟨w5,hst5,htm5,hx5⟩:=htm4.setS hsv;have hmod35:p9 (fun b=>b=gb∨A4 uL b) w3 w5:=(p9.up hx4).chain hx5 fun i hi hb=>by omega
   have hs5:ShS h w5 gb vg vp uL vLo vHi (L++pre) lo hi:=hs4.mod hx5 (by have:=hs3.lt;omega) (fun b hb=>by have:=hs3.oL.lt hb;omega) (fun b hb=>by have:=hs3.oLo.lt hb;omega) (fun b hb=>by have:=hs3.oHi.lt hb;omega);have hlen1:IntKind.i64.wrap ((k:Int)+1)=((k+1:Nat):Int):=B0 k (by have:=Q8 l;omega);have hk5:B4 (B6 w3 fun b=>b=gb∨A4 uL b) (i4 w5):=D2 hmod35;have lT5:=ldT w5 hk5;simp only[n7,n8,z6,simprocAttr,h13,e0,e1,e5,e11,hin,hld,hal,hst,hgl3,hSu,hnu,hid,lw3,hal4,hst4,lT4,hst5,hS,hn,hlen1];generalize hK:CW prog _ (X8 1 (ab9 _ _))=K;have key:∀(nx:Int) (f6:Fr) (w6:World),nx=(if(l.drop (k+1)).length=0 then ar.next else((L.length+pre.length:Nat):Int)+1+(V7 t:Nat))→U6 h w6 tb ⟨t,ar.proc,ar.up,nx,ar.loop⟩→p9 (fun b=>b=tb) w5 w6 →
     f6 0 = .pointer (some ⟨gb,0,none⟩)→f6 5 = .pointer (some a)→f6 7 = .pointer (some b)→f6 8 = .int .i64 ((L.length+pre.length+1:Nat):Int)→f6 9 = .pointer (some ⟨tb,0,none⟩)→f6 13 = .int .i64 k→K f6 w6:=by
    intro nx f6 w6 hnx htm6 hx6 g0 g5 g7 g8 g9 g13;have hs6:ShS h w6 gb vg vp uL vLo vHi (L++pre) lo hi:=hs5.mod hx6 (by have:=hs3.lt;omega) (fun b hb=>by have:=hs3.oL.lt hb;omega) (fun b hb=>by have:=hs3.oLo.lt hb;omega) (fun b hb=>by have:=hs3.oHi.lt hb;omega);have hmod36:p9 (fun b=>b=gb∨A4 uL b) w3 w6:=hmod35.chain hx6 fun i hi hb=>by omega
    have hs6d:=hs6.ext (o7.drew w6);obtain⟨iv,hiv,ldi⟩:=htm6.ld;have hh6:B4 h (i4 w6.drew):=by
     have h3:B4 h (i4 w3):=v8 hh2 (b7 hx3);exact v8 (H7 h3 hmod36 hfree2) (b7 (o7.drew w6))
    obtain⟨p1,uL',w7,p2,p3,p4,p5⟩:=push (e:=111) cZ1 rfl hs6d.oL (x:=iv) (y:=⟨t,ar.proc,ar.up,nx,ar.loop⟩) hiv.enc (by rw[hpL];omega) (by rw[hpL];omega) hh6;have hc7:w7.heap[gb]?=some (.cells #[vg,vp,uL,vLo,vHi] 114 (0,0)):=(p4.block gb hs6d.lt fun hb=>(hs6d.d1 gb hb).1 rfl).trans hs6d.cell;obtain⟨w8,s8,hc8,hx8⟩:=aj0 (P:=prog) (t:=111) (i:=2) (x:=uL') hc7 (by simp) (D8 p3.isS) (W5 p3.isS) (z7 cy9).choose_spec.1 (by rw[←C6 (z7 cy9).choose_spec.1];exact cQ7);have hs8:ShS h w8 gb vg vp uL' vLo vHi ((L++pre)++[⟨t,ar.proc,ar.up,nx,ar.loop⟩]) lo hi:=hs6d.setL p4 p3 p5 hx8 (by simpa using hc8);have hsz36:w3.heap.size≤w6.drew.heap.size:=(hmod36.trans (p9.up (o7.drew w6))).size;have hmod38:p9 (fun b=>b=gb∨A4 uL b) w3 w8:=((hmod36.trans (p9.up (o7.drew w6))).chain p4 fun i hi hb=>.inr hb).chain hx8 fun i hi hb=>.inl hb;have hmod18:p9 (fun b=>b=gb∨A4 vL b) w1 w8:=hmod13.chain hmod38 fun i hi hb=>by
     rcases hb with hb|hb
     ·exact .inl hb
     ·rcases hmv2 i hb with hb|hb
      ·exact .inr hb
      ·omega
    have hmv8:∀i,i<w3.heap.size→A4 uL' i→A4 uL i:=fun i hi hb=>by
     rcases p5 i hb with hb|hb
     ·exact hb
     ·omega
    have htb6:tb<w6.heap.size:=htm6.lt;have hntb:¬A4 uL tb:=fun hb=>by have:=hs3.oL.lt hb;omega
    have sgl:∀K f d w,I2 prog (fun w'=>p9 (A4 uL) w6.drew w') (Instr.loadAt 111 (.pointer (some ⟨gb,2,none⟩))) K f d w=K (C5 f d uL) w:=fun K f d w=>D5 (w0:=w6.drew) (p9.refl _) fun w' hw'=>E7 (i:=2) ((hw'.block gb hs6d.lt fun hb=>(hs6d.d1 gb hb).1 rfl).trans hs6d.cell) rfl aU9;have sit:∀K f d w,I2 prog (fun w'=>p9 (A4 uL) w6.drew w') (Instr.loadAt 121 (.pointer (some ⟨tb,0,none⟩))) K f d w=K (C5 f d iv) w:=fun K f d w=>D5 (w0:=w6.drew) (p9.refl _) fun w' hw'=>(ldi w' (hw'.block tb htb6 hntb)).1;rw[←hK];simp only[n7,simprocAttr];refine C2 (fun w'=>p9 (A4 uL) w6.drew w') 8 (A9 [0,1,2,3,4,5,6,7]) ?_;simp only[D1,A9,n7,n8,simprocAttr,g0,g9,sgl,sit,p1,p2,F2];refine⟨p9.up (o7.alloc _ _),p4,?_⟩;have htm8:U6 h w8 tb ⟨t,ar.proc,ar.up,nx,ar.loop⟩:=((htm6.mod (p9.up (M:=A4 uL) (o7.drew w6)) hntb).mod p4 hntb).mod hx8 (by have:=hs3.lt;omega);obtain⟨iv8,_,ldi8⟩:=htm8.ld;have ln8:=(ldi8 w8 rfl).2;have la8:=lda w8 (D2 hmod18);obtain⟨bv,hbv,hbvS⟩:=cc6 h ar.proc ((L.length+pre.length+1:Nat):Int) nx ar.loop;obtain⟨ib,wq,w9,hal9,hst9,hx9,hge9,htm9⟩:=U6.new (w:=w8) hbvS;have hs9:=hs8.ext hx9;have hmod39:p9 (fun b=>b=gb∨A4 uL b) w3 w9:=hmod38.trans (p9.up hx9);have lt9:=ldt w9 (D2 hmod39);simp only[n7,n8,simprocAttr,g5,g7,g8,g9,s8,la8,ln8,hbv,hal9,hst9,lt9];generalize hK2:CW prog _ (X8 1 (ab9 _ _))=K2;have hpL1:((L++pre)++[(⟨t,ar.proc,ar.up,nx,ar.loop⟩:It)]).length=L.length+pre.length+1:=by simp[dw1]
    have hib9:¬A4 uL' ib:=fun hb=>by have:=hs8.oL.lt hb;omega
    have hibg:ib≠gb:=fun e=>by have:=hs8.lt;omega
    have key2:∀(nx' lp':Int) (f9:Fr) (w10:World),nx'=(if t.kind=6 then((L.length+pre.length:Nat):Int)+1 else nx)→lp'=(if t.kind=6 then((L.length+pre.length:Nat):Int)+1 else ar.loop)→U6 h w10 ib ⟨ch9,ar.proc,((L.length+pre.length+1:Nat):Int),nx',lp'⟩→p9 (fun b=>b=ib) w9 w10 →
      f9 0 = .pointer (some ⟨gb,0,none⟩)→f9 7 = .pointer (some b)→f9 10 = .pointer (some ⟨ib,0,none⟩)→f9 13 = .int .i64 k→K2 f9 w10:=by
     intro nx' lp' f9 w10 hnx' hlp' htm10 hx10 q0 q7 q10 q13;have hs10:=hs9.mod hx10 (fun e=>hibg e.symm) (fun c hb e=>by subst e;exact hib9 hb) (fun c hb e=>by subst e;have:=hs8.oLo.lt hb;omega) (fun c hb e=>by subst e;have:=hs8.oHi.lt hb;omega);have hmod310:p9 (fun b=>b=gb∨A4 uL b) w3 w10:=hmod39.chain hx10 fun i hi hb=>by have:=hmod38.size;omega
     obtain⟨nv,hnv,ldn⟩:=htm10.ld;have lt10:=ldt w10 (D2 hmod310);have ln10:=(ldn w10 rfl).1;have h3:B4 h (i4 w3):=v8 hh2 (b7 hx3);have hh10:B4 h (i4 w10):=H7 h3 hmod310 hfree2;rw[←hK2];simp only[n7,n8,simprocAttr,q0,q7,q10,lt10,ln10];refine y5 (ih (A6 t.thn) (by omega) t.thn _ nv vt h gb vg vp uL' vLo vHi _ lo hi w10 (dn9 _) hs10 hh10 hvt hnv (by omega) (by rw[hpL1];omega)) ?_;rintro u w11 ⟨uL3,hs11,hx11,hmv11⟩;rw[hpL1]at hs11;have hsz310:=hmod310.size;have hmod311:p9 (fun b=>b=gb∨A4 uL b) w3 w11:=hmod310.chain hx11 fun i hi hb=>hb.imp id (hmv8 i hi);have hmv311:∀i,i<w3.heap.size→A4 uL3 i→A4 uL i:=fun i hi hb=>by
      rcases hmv11 i hb with hb|hb
      ·exact hmv8 i hi hb
      ·omega
     have htm11:U6 h w11 ib ⟨ch9,ar.proc,((L.length+pre.length+1:Nat):Int),nx',lp'⟩:=htm10.mod hx11 fun hb=>by
      rcases hb with hb|hb
      ·exact hibg hb
      ·exact hib9 hb
     obtain⟨nv2,hnv2,ldn2⟩:=htm11.ld;have lt11:=ldt w11 (D2 hmod311);have ln11:=(ldn2 w11 rfl).1;have hh11:B4 h (i4 w11):=H7 h3 hmod311 hfree2;have hpL2:∀X:List It,X.length=A6 t.thn→(((L++pre)++[(⟨t,ar.proc,ar.up,nx,ar.loop⟩:It)])++X).length=L.length+pre.length+1+A6 t.thn:=fun X hX=>by rw[dm7,hpL1,hX]
     simp only[n7,n8,simprocAttr,q0,q7,q10,lt11,ln11];refine y5 (ih (A6 t.els) (by omega) t.els _ nv2 ve h gb vg vp uL3 vLo vHi _ lo hi w11 (dn9 _) hs11 hh11 hve hnv2 (by omega) (by rw[hpL2 _ (F7 _ _ _ _ _ _)];omega)) ?_;rintro u w12 ⟨uL4,hs12,hx12,hmv12⟩;rw[hpL2 _ (F7 _ _ _ _ _ _)]at hs12;have hsz311:=hmod311.size;have hmod312:p9 (fun b=>b=gb∨A4 uL b) w3 w12:=hmod311.chain hx12 fun i hi hb=>hb.imp id (hmv311 i hi);have hmod112:p9 (fun b=>b=gb∨A4 vL b) w1 w12:=hmod13.chain hmod312 fun i hi hb=>by
      rcases hb with hb|hb
      ·exact .inl hb
      ·rcases hmv2 i hb with hb|hb
       ·exact .inr hb
       ·omega
     simp only[n7,n8,simprocAttr,q13];refine⟨(k+1,uL4,pre++V3 t (L.length+pre.length) ar.proc ar.up nx ar.loop),by simp only[];omega,by simp only[];rw[B0 k (by have:=Q8 l;omega)],by simp only[];omega,?_,hmod112,?_,?_,?_⟩
     ·simp only[];have e1:((L.length+pre.length+1:Nat):Int)=((L.length+pre.length:Nat):Int)+1:=by omega
      rw[P5,←hnx',←hlp',←e1];have e2:=hs12;simp only[do8,dx5,dx1]at e2 ⊢;exact e2
     ·simp only[];intro i hb;rcases hmv12 i hb with hb|hb
      ·rcases hmv11 i hb with hb|hb
       ·rcases p5 i hb with hb|hb
        ·exact hmv2 i hb
        ·have:=hmod13.size;exact .inr (by omega)
       ·have:=hmod13.size;exact .inr (by omega)
      ·have:=hmod13.size;exact .inr (by omega)
     ·simp only[];rw[hpre,C3,←hnx];simp only[do8,dm7,dw1]
     ·simp only[];rw[dm7,af0];omega
    refine m8 (fun h6=>?_) (fun h6=>?_)
    ·have k6:=dm8 h6;obtain⟨wr,hr1,htmr,hxr⟩:=htm9.setN (((L.length+pre.length+1:Nat):Int));obtain⟨wt,ht1,htmt,hxt⟩:=htmr.setLp (((L.length+pre.length+1:Nat):Int));simp only[n7,n8,simprocAttr,g8,hr1,ht1];refine key2 ((L.length+pre.length+1:Nat):Int) ((L.length+pre.length+1:Nat):Int) _ _ (by rw[if_pos k6];omega) (by rw[if_pos k6];omega) htmt (hxr.trans hxt) ?_ ?_ ?_ ?_<;>simp only[p6,↓reduceIte,Nat.reduceEqDiff,g0,g7,g13]
    ·have k6:=dm9 h6;simp only[n7,simprocAttr];refine key2 nx ar.loop _ _ (by rw[if_neg k6]) (by rw[if_neg k6]) htm9 (p9.refl _) ?_ ?_ ?_ ?_<;>simp only[p6,↓reduceIte,Nat.reduceEqDiff,g0,g7,g13]
   refine m8 (fun h6=>?_) (fun h6=>?_)
   ·have hne:¬(l.drop (k+1)).length=0:=by
     have:((k+1:Nat):Int)<(l.length:Nat):=by simpa using h6
     omega
    simp only[n7,simprocAttr,lT5];refine B1 (bj1 _ t sv w5 (dn9 _) (hsv.mono ?_) (by omega)) (fun w6 hx6=>?_)
    ·exact H7 (v8 hh2 (b7 hx3)) hmod35 hfree2
    have hlen:IntKind.i64.wrap (((L.length+pre.length+1:Nat):Int)+((V7 t:Nat):Int))=((L.length+pre.length:Nat):Int)+1+(V7 t:Nat):=by rw[L0 _ (by omega)];omega
    obtain⟨w7,k1,k2,k3⟩:=(htm5.mod (p9.up (M:=fun _=>False) hx6) id).setN (((L.length+pre.length:Nat):Int)+1+(V7 t:Nat));simp only[n7,n8,simprocAttr,hlen,k1];refine key _ _ _ (by rw[if_neg hne]) k2 ((p9.up hx6).trans k3) ?_ ?_ ?_ ?_ ?_ ?_<;>simp only[p6,↓reduceIte,Nat.reduceEqDiff,e0,e5,h13]
   ·have hz:(l.drop (k+1)).length=0:=by
     have:¬((k+1:Nat):Int)<(l.length:Nat):=by simpa using h6
     omega
    simp only[n7,simprocAttr];refine key _ _ _ (by rw[if_pos hz]) htm5 (p9.refl _) ?_ ?_ ?_ ?_ ?_ ?_<;>simp only[p6,↓reduceIte,Nat.reduceEqDiff,e0,e5,h13]
  ·have hge:k=l.length:=by simp at hc;omega
   subst hge;simp only[n7,simprocAttr];refine cv7 results121 ?_;rw[dv6]at hpre;simp only[C3,dp6]at hpre;rw[hpre];exact⟨uL,hs2,(p9.up hx1).trans hx2,fun b hb=>(hmv2 b hb).imp id fun h=>dn4 hx1.size h⟩
end Go.Proofs.YtcbnbgpphippoaaGreat
