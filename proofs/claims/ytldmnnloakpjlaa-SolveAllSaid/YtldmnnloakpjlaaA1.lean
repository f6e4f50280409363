/- Frames as functions, and the calculus of code over them: what a stretch of code does, said by recursion on the code, and that this is sound. -/
import Derived.Calls
import Derived.Orders
import Derived.Laws.Sem
import Derived.OrdersHeld
import Derived.StillTail
import Derived.Laws.Entries
namespace Go.Proofs.Ytldmnnloakpjlaa
open Go

abbrev Fr := Nat → Value
def frOf (a : Act) : Fr := fun i => a.tmps.getD i undef
def upd (f : Fr) (d : Nat) (v : Value) : Fr := fun i => if i = d then v else f i
def updo (f : Fr) : Option Nat → Value → Fr
  | some d, v => upd f d v
  | none, _ => f
def okd (n : Nat) : Option Nat → Bool
  | some d => decide (d < n)
  | none => true
def ev (f : Fr) : Operand → Value
  | .tmp t => f t
  | .const v => v
  | .global g => .pointer (some ⟨g, 0, none⟩)
  | .func g => .func (.func g) #[] #[]

theorem ev_frOf (a : Act) : a.eval = ev (frOf a) := by
  funext x; cases x <;> rfl

theorem put_size (a : Act) (d : Option Nat) (v : Value) : (a.put d v).tmps.size = a.tmps.size := by
  cases d <;> simp [Act.put]
theorem put_defers (a : Act) (d : Option Nat) (v : Value) : (a.put d v).defers = a.defers := by
  cases d <;> simp [Act.put]
theorem frOf_put (a : Act) (d : Option Nat) (v : Value) (h : okd a.tmps.size d = true) : frOf (a.put d v) = updo (frOf a) d v := by
  cases d with
  | none => rfl
  | some d =>
    have hd : d < a.tmps.size := by simpa [okd] using h
    funext i
    simp only [frOf, Act.put, updo, upd, Array.getD_eq_getD_getElem?, Array.getElem?_setIfInBounds]
    by_cases hi : i = d
    · subst hi; simp [hd]
    · have : ¬ d = i := fun e => hi e.symm
      simp [hi, this]

/-- The guard's bool, out of the frame. -/
def gval (ops : Array Oper) (f : Fr) (j : Nat) : Option Bool :=
  match (ops[j]?).bind (·.dst) with
  | some d => match f d with
    | .bool b => some b
    | _ => none
  | none => none
theorem yielded_frOf (ops : Array Oper) (a : Act) : yielded ops a.tmps = gval ops (frOf a) := by
  funext j
  unfold yielded gval
  cases h : (ops[j]?).bind (·.dst) with
  | none => simp
  | some d =>
    simp only [Option.bind_some, frOf, Array.getD_eq_getD_getElem?]
    cases h2 : a.tmps[d]? with
    | none => simp [undef]
    | some v => cases v <;> rfl

/-- What one operation that is carried out does (no panic is let). -/
def stepS (P : Program) (o : Oper) (K : Fr → World → Prop) (f : Fr) (w : World) : Prop :=
  match (execOp (ev f) o).run P w with
  | .ok (.value v) w' => K (updo f o.dst v) w'
  | .ok .skip w' => K (updo f o.dst undef) w'
  | .ok (.enter g args) w' => Calls P g args w' fun e w'' => ∃ v, e = .returned v ∧ K (updo f o.dst v) w''
  | _ => False

theorem stepS_mono {P : Program} {o : Oper} {K K' : Fr → World → Prop} {f : Fr} {w : World} (h : ∀ f w, K f w → K' f w) (hs : stepS P o K f w) : stepS P o K' f w := by
  unfold stepS at *
  generalize (execOp (ev f) o).run P w = r at *
  cases r with
  | halt x w' => exact hs
  | ok n w' =>
    cases n
    case value v => exact h _ _ hs
    case skip => exact h _ _ hs
    case enter g args => exact Calls.mono hs fun e w'' ⟨v, he, hk⟩ => ⟨v, he, h _ _ hk⟩
    all_goals exact hs

/-- 'o' may be taken at any time: in each world of S it gives the same value and does nothing. -/
def steady (P : Program) (S : World → Prop) (o : Oper) (f : Fr) (v : Value) : Prop :=
  ∀ w, S w → (execOp (ev f) o).run P w = .ok (.value v) w

/-- The goal's exits and the machine's. -/
def lft (n : Nat) (Q : Exit → Fr → World → Prop) : Exit → Act → World → Prop := fun e a w =>
  a.tmps.size = n ∧ a.defers = [] ∧ Q e (frOf a) w

theorem wp_of_stepS {P : Program} {o : Oper} {K : Fr → World → Prop} {a : Act} {w : World} {n : Nat} {Q : Exit → Act → World → Prop}
    {K' : Act → World → Prop} (hn : a.tmps.size = n) (hd : a.defers = []) (ho : okd n o.dst = true)
    (hK : ∀ a' w', a'.tmps.size = n → a'.defers = [] → K (frOf a') w' → K' a' w') (hs : stepS P o K (frOf a) w) : o.wp P a w K' Q := by
  unfold stepS at hs
  unfold Oper.wp
  rw [ev_frOf]
  generalize (execOp (ev (frOf a)) o).run P w = r at *
  have key : ∀ v w', K (updo (frOf a) o.dst v) w' → K' (a.put o.dst v) w' := fun v w' h =>
    hK _ _ (by rw [put_size]; exact hn) (by rw [put_defers]; exact hd) (by rw [frOf_put _ _ _ (by rw [hn]; exact ho)]; exact h)
  cases r with
  | halt x w' => exact hs.elim
  | ok n w' =>
    cases n
    case value v => exact key _ _ hs
    case skip => exact key _ _ hs
    case enter g args => exact Calls.mono hs fun e w'' ⟨v, he, hk⟩ => by subst he; exact key _ _ hk
    all_goals exact hs.elim

/-- Operations one after another, in the order of the list. -/
def Run (P : Program) (ops : Array Oper) : List Oper → (Fr → World → Prop) → Fr → World → Prop
  | [], K, f, w => K f w
  | o :: l, K, f, w => if Region.wanted o (gval ops f) then stepS P o (Run P ops l K) f w else Run P ops l K (updo f o.dst undef) w

theorem Run_mono {P : Program} {ops : Array Oper} {K K' : Fr → World → Prop} (h : ∀ f w, K f w → K' f w) : ∀ (l : List Oper) (f : Fr) (w : World), Run P ops l K f w → Run P ops l K' f w
  | [], f, w, hs => h _ _ hs
  | o :: l, f, w, hs => by
    unfold Run at *
    split
    · rename_i hw
      rw [if_pos hw] at hs
      exact stepS_mono (Run_mono h l) hs
    · rename_i hw
      rw [if_neg hw] at hs
      exact Run_mono h l _ _ hs

def dstsOk (n : Nat) (ops : Array Oper) : Bool := ops.all fun o => okd n o.dst

theorem wpList_of_Run {P : Program} {ops : Array Oper} {n : Nat} {Q : Exit → Fr → World → Prop} : ∀ (l : List Oper) (a : Act) (w : World), (∀ o ∈ l, okd n o.dst = true) →
    a.tmps.size = n → a.defers = [] → Run P ops l (Q .normal) (frOf a) w → wpList P ops (lft n Q) l a w
  | [], a, w, _, hn, hd, h => ⟨hn, hd, h⟩
  | o :: l, a, w, ho, hn, hd, h => by
    unfold Run at h
    unfold wpList
    rw [yielded_frOf]
    split
    · rename_i hw
      rw [if_pos hw] at h
      exact .inl (wp_of_stepS hn hd (ho o (by simp)) (fun a' w' hn' hd' h' => wpList_of_Run l a' w' (fun o' h'' => ho o' (by simp [h''])) hn' hd' h') h)
    · rename_i hw
      rw [if_neg hw] at h
      exact wpList_of_Run l _ _ (fun o' h'' => ho o' (by simp [h''])) (by rw [put_size]; exact hn) (by rw [put_defers]; exact hd)
        (by rw [frOf_put _ _ _ (by rw [hn]; exact ho o (by simp))]; exact h)

/-- The operations that only read: they may be taken early. -/
def flt : Op → Bool
  | .move _ | .assign _ | .pick .. | .load .. | .nilCheck _ | .binOp .. | .unOp .. | .convert .. | .makeFunc .. | .slice .. | .fieldAddr .. | .field .. | .indexAddr .. | .index .. | .lookup .. | .extract .. => true
  | .call { callee := .builtin b, .. } => match b with
    | .len | .cap | .min | .max => true
    | _ => false
  | _ => false

/-- In which order a region is walked; where several that act may come up, all their orders. -/
inductive OrdT where
  | nil
  | op (i : Nat) (r : OrdT)
  | fork (rs : List Nat) (k : Nat → OrdT)

/-- A region that draws its order, walked in such an order: what only reads is steady in all worlds of S, what acts keeps S. -/
def RunF (P : Program) (ops : Array Oper) (S : World → Prop) : OrdT → (Fr → World → Prop) → Fr → World → Prop
  | .nil, K, f, w => K f w
  | .op i l, K, f, w =>
    match ops[i]? with
    | none => False
    | some o =>
      if Region.wanted o (gval ops f) then
        if flt o.op then ∃ v, steady P S o f v ∧ RunF P ops S l K (updo f o.dst v) w
        else stepS P o (fun f' w' => S w' ∧ RunF P ops S l K f' w') f w
      else RunF P ops S l K (updo f o.dst undef) w
  | .fork rs k, K, f, w => ∀ i ∈ rs,
    match ops[i]? with
    | none => False
    | some o =>
      if Region.wanted o (gval ops f) then stepS P o (fun f' w' => S w' ∧ RunF P ops S (k i) K f' w') f w
      else RunF P ops S (k i) K (updo f o.dst undef) w

/-- May the region be walked in that order? -/
def ordOk (ops : Array Oper) (n : Nat) : Nat → OrdT → Array Bool → Bool
  | 0, .nil, listed => Region.seqB .any ops (ops.size - n) n listed
  | m + 1, .op i l, listed => decide (i < n) && (match ops[i]? with
      | none => false
      | some o => (if flt o.op then (Region.ready .any ops listed).contains i && Region.free .any ops listed i else decide (Region.ready .any ops listed = [i]))) &&
    ordOk ops n m l (listed.setIfInBounds i true)
  | m + 1, .fork rs k, listed => decide (Region.ready .any ops listed = rs) && !rs.isEmpty && rs.all fun i => decide (i < n) && ordOk ops n m (k i) (listed.setIfInBounds i true)
  | _, _, _ => false

def regOk (ops : Array Oper) (n : Nat) (ord : OrdT) : Bool :=
  Region.noSelect ops && (decide (n = ops.size) || (decide (n < ops.size) && Region.sinkB .any ops n && Region.chainB .any ops n)) &&
  ordOk ops n n ord (Array.replicate ops.size false)

section
variable {P : Program} {ops : Array Oper} {Q : Exit → Act → World → Prop} {S : World → Prop}

def wpAnyT (P : Program) (ops : Array Oper) (Q : Exit → Act → World → Prop) (S : World → Prop) (n : Nat) : Nat → Array Bool → Act → World → Prop
  | 0, listed, a, w => Region.ready .any ops listed = [] ∧ Q .normal a w
  | fuel + 1, listed, a, w =>
    (Region.ready .any ops listed = [] → Q .normal a w) ∧
    ∀ i ∈ Region.ready .any ops listed, wpOp P ops Q i (fun a' w' => (i < n → S w') ∧ wpAnyT P ops Q S n fuel (listed.setIfInBounds i true) a' w') a w

theorem wpAny_of_T {n : Nat} : ∀ (fuel : Nat) (listed : Array Bool) (a : Act) (w : World), wpAnyT P ops Q S n fuel listed a w → wpAny P .any ops Q fuel listed a w
  | 0, _, _, _, h => h
  | fuel + 1, _, _, _, h => ⟨h.1, fun i hi => wpOp_mono (fun a' w' h' => wpAny_of_T fuel _ a' w' h'.2) (h.2 i hi)⟩

theorem wpAnyT_first {n i : Nat} {oi : Oper} {v : Value} (hi : ops[i]? = some oi) (hsel : ∀ (j : Nat) (o : Oper) cs b, ops[j]? = some o → o.op ≠ .select cs b)
    (hQ : ∀ c a w, Q (.panic c) (a.put oi.dst v) w → Q (.panic c) a w) (hin : i < n)
    (htw : ∀ listed, HeadInv .any ops n listed → listed.getD i true = false → ∀ t, n ≤ t → t ∉ Region.ready .any ops listed) :
    ∀ (fuel : Nat) (listed : Array Bool) (a : Act) (w : World), HeadInv .any ops n listed →
      (∀ j oj, ops[j]? = some oj → j ≠ i → listed.getD j true = false → (∀ e ∈ oj.after, Region.binds .any e = true → e.on ≠ i) → oi.apart ops oj = true) →
      i ∈ Region.ready .any ops listed → YieldsIf P ops S oi v a → S w →
      wpAnyT P ops Q S n fuel (listed.setIfInBounds i true) (a.put oi.dst v) w → wpAnyT P ops Q S n (fuel + 1) listed a w := by
  intro fuel
  induction fuel with
  | zero =>
    intro listed a w _ _ hr hy hS H
    refine ⟨fun h => (by rw [h] at hr; cases hr), fun j hj => ?_⟩
    by_cases hji : j = i
    · subst hji; exact hy.wpOp hi hS ⟨fun _ => hS, H⟩
    · have := ready_mono hj hji
      rw [H.1] at this
      cases this
  | succ fuel ih =>
    intro listed a w inv hfree hr hy hS H
    refine ⟨fun h => (by rw [h] at hr; cases hr), fun j hj => ?_⟩
    by_cases hji : j = i
    · subst hji; exact hy.wpOp hi hS ⟨fun _ => hS, H⟩
    · have h1 := H.2 j (ready_mono hj hji)
      obtain ⟨hjun, oj, hoj, hall⟩ := mem_ready.1 hj
      have hiun := (mem_ready.1 hr).1
      have hjn : j < n := by
        rcases Nat.lt_or_ge j n with h | h
        · exact h
        · exact absurd hj (htw listed inv hiun j h)
      have hnot : ∀ e ∈ oj.after, Region.binds .any e = true → e.on ≠ i := fun e he hb heq => by
        have h1 := hall e he hb
        rw [heq, getD_both hiun] at h1
        cases h1
      have h2 := wpOp_putIf hoj (hfree j oj hoj hji hjun hnot) (fun cs b => hsel i oi cs b hi) (fun cs b => hsel j oj cs b hoj) hQ hy h1
      have hfree' : ∀ k ok, ops[k]? = some ok → k ≠ i → (listed.setIfInBounds j true).getD k true = false →
          (∀ e ∈ ok.after, Region.binds .any e = true → e.on ≠ i) → oi.apart ops ok = true := fun k ok hk hki hun hno => by
        refine hfree k ok hk hki ?_ hno
        by_cases hjk : j = k
        · subst hjk; exact hjun
        · rw [getD_set_ne true hjk] at hun; exact hun
      refine wpOp_mono (fun a' w' h3 => ⟨h3.2.1, ih (listed.setIfInBounds j true) a' w' (inv.set hj hjn) hfree' (ready_mono hr (Ne.symm hji)) h3.1 (h3.2.1 hjn) ?_⟩) h2
      rw [Array.setIfInBounds_comm _ _ hji]
      exact h3.2.2

theorem wpOp_of_stepS {o : Oper} {i n : Nat} {K : Fr → World → Prop} {a : Act} {w : World} {K' : Act → World → Prop} (hi : ops[i]? = some o)
    (hn : a.tmps.size = n) (hd : a.defers = []) (ho : okd n o.dst = true) (hK : ∀ a' w', a'.tmps.size = n → a'.defers = [] → K (frOf a') w' → K' a' w')
    (h : if Region.wanted o (gval ops (frOf a)) then stepS P o K (frOf a) w else K (updo (frOf a) o.dst undef) w) : wpOp P ops Q i K' a w := by
  unfold wpOp
  simp only [hi]
  rw [yielded_frOf]
  split
  · rename_i hw
    rw [if_pos hw] at h
    exact .inl (wp_of_stepS hn hd ho hK h)
  · rename_i hw
    rw [if_neg hw] at h
    exact hK _ _ (by rw [put_size]; exact hn) (by rw [put_defers]; exact hd) (by rw [frOf_put _ _ _ (by rw [hn]; exact ho)]; exact h)

theorem wpAnyT_of_seq {n N : Nat} {Q : Exit → Fr → World → Prop} : ∀ (l : List Oper) (k : Nat) (listed : Array Bool) (a : Act) (w : World), (∀ j, l[j]? = ops[k + j]?) → n ≤ k →
    (∀ o ∈ l, okd N o.dst = true) → a.tmps.size = N → a.defers = [] →
    Region.seqB .any ops l.length k listed = true → Run P ops l (Q .normal) (frOf a) w → wpAnyT P ops (lft N Q) S n l.length listed a w
  | [], _, _, _, _, _, _, _, hn, hd, hB, h => ⟨by simpa [Region.seqB] using hB, hn, hd, h⟩
  | o :: l, k, listed, a, w, hl, hk, ho, hn, hd, hB, h => by
    have h0 : ops[k]? = some o := by simpa using (hl 0).symm
    simp only [List.length_cons, Region.seqB, Bool.and_eq_true, decide_eq_true_eq] at hB
    refine ⟨fun h1 => (by rw [hB.1] at h1; cases h1), fun i hi => ?_⟩
    rw [hB.1] at hi
    have hik : i = k := by simpa using hi
    subst hik
    refine wpOp_of_stepS h0 hn hd (ho o (by simp)) (K := Run P ops l (Q .normal)) (fun a' w' hn' hd' h' => ⟨fun h => by omega, ?_⟩) (by unfold Run at h; exact h)
    exact wpAnyT_of_seq l (i + 1) _ a' w' (fun j => by have := hl (j + 1); simpa [Nat.add_assoc, Nat.add_comm 1 j] using this) (by omega) (fun o' h'' => ho o' (by simp [h''])) hn' hd' hB.2 h'

theorem wpAnyT_of_RunF {n N : Nat} {Q : Exit → Fr → World → Prop} (hQ : ∀ c f w, ¬ Q (.panic c) f w) (hs : Region.noSelect ops = true)
    (htw : ∀ i, i < n → ∀ listed, HeadInv .any ops n listed → listed.getD i true = false → ∀ t, n ≤ t → t ∉ Region.ready .any ops listed) (hdst : ∀ o ∈ ops.toList, okd N o.dst = true) :
    ∀ (m : Nat) (l : OrdT) (listed : Array Bool) (a : Act) (w : World), HeadInv .any ops n listed → a.tmps.size = N → a.defers = [] → S w → ordOk ops n m l listed = true →
      RunF P ops S l (Run P ops (ops.toList.drop n) (Q .normal)) (frOf a) w → wpAnyT P ops (lft N Q) S n (m + (ops.size - n)) listed a w := by
  have hmem : ∀ {i : Nat} {o : Oper}, ops[i]? = some o → okd N o.dst = true := by
    intro i o ho
    have := Array.mem_of_getElem? ho
    exact hdst o (by simpa using this)
  intro m
  induction m with
  | zero =>
    intro l listed a w inv ha hd _ hB h
    cases l
    case nil =>
      have := wpAnyT_of_seq (S := S) (n := n) (N := N) (Q := Q) (P := P) (ops := ops) (ops.toList.drop n) n listed a w (fun j => by simp [List.getElem?_drop]) (Nat.le_refl _)
        (fun o ho => hdst o (List.mem_of_mem_drop ho)) ha hd (by simpa [ordOk] using hB) h
      simpa using this
    all_goals (simp [ordOk] at hB)
  | succ m ih =>
    intro l listed a w inv ha hd hS hB h
    have e1 : m + 1 + (ops.size - n) = (m + (ops.size - n)) + 1 := by omega
    rw [e1]
    cases l
    case nil => simp [ordOk] at hB
    case op i l =>
      simp only [ordOk, Bool.and_eq_true, decide_eq_true_eq] at hB
      obtain ⟨⟨hin, hB1⟩, hB2⟩ := hB
      simp only [RunF] at h
      cases hoi : ops[i]? with
      | none => simp [hoi] at h
      | some o =>
        simp only [hoi] at h hB1
        have hod := hmem hoi
        by_cases hf : flt o.op = true
        · simp only [hf, if_true, Bool.and_eq_true] at h hB1
          have hr : i ∈ Region.ready .any ops listed := by simpa using hB1.1
          have step : ∀ v, YieldsIf P ops S o v a → RunF P ops S l (Run P ops (ops.toList.drop n) (Q .normal)) (updo (frOf a) o.dst v) w →
              wpAnyT P ops (lft N Q) S n ((m + (ops.size - n)) + 1) listed a w := fun v hy hK =>
            wpAnyT_first hoi (Region.noSelect_spec hs) (fun c a w hh => absurd hh.2.2 (hQ _ _ _)) hin (htw i hin) _ listed a w inv (Region.free_spec hoi hB1.2) hr hy hS
              (ih l _ _ w (inv.set hr hin) (by rw [put_size]; exact ha) (by rw [put_defers]; exact hd) hS hB2 (by rw [frOf_put _ _ _ (by rw [ha]; exact hod)]; exact hK))
          by_cases hw : Region.wanted o (gval ops (frOf a)) = true
          · rw [if_pos hw] at h
            obtain ⟨v, hv, hK⟩ := h
            refine step v (.inl ⟨by rw [yielded_frOf]; exact hw, fun w' hw' => ?_⟩) hK
            rw [ev_frOf]; exact hv w' hw'
          · rw [if_neg hw] at h
            exact step undef (.inr ⟨by rw [yielded_frOf]; simpa using hw, rfl⟩) h
        · simp only [hf, Bool.false_eq_true, if_false, decide_eq_true_eq] at h hB1
          have hr : i ∈ Region.ready .any ops listed := by rw [hB1]; simp
          refine ⟨fun h1 => (by rw [hB1] at h1; cases h1), fun j hj => ?_⟩
          rw [hB1] at hj
          have hji : j = i := by simpa using hj
          subst hji
          refine wpOp_of_stepS hoi ha hd hod (K := fun f' w' => S w' ∧ RunF P ops S l (Run P ops (ops.toList.drop n) (Q .normal)) f' w') (fun a' w' ha' hd' h' => ⟨fun _ => h'.1, ?_⟩) ?_
          · exact ih l _ a' w' (inv.set hr hin) ha' hd' h'.1 hB2 h'.2
          · split
            · rename_i hw; rw [if_pos hw] at h; exact h
            · rename_i hw; rw [if_neg hw] at h; exact ⟨hS, h⟩
    case fork rs k =>
      simp only [ordOk, Bool.and_eq_true, decide_eq_true_eq, List.all_eq_true] at hB
      obtain ⟨⟨hrs, hne⟩, hall⟩ := hB
      simp only [RunF] at h
      refine ⟨fun h1 => (by rw [hrs] at h1; subst h1; simp at hne), fun i hi => ?_⟩
      have hi' : i ∈ rs := by rw [hrs] at hi; exact hi
      have h2 := h i hi'
      obtain ⟨hin, hB2⟩ := hall i hi'
      cases hoi : ops[i]? with
      | none => simp [hoi] at h2
      | some o =>
        simp only [hoi] at h2
        refine wpOp_of_stepS hoi ha hd (hmem hoi) (K := fun f' w' => S w' ∧ RunF P ops S (k i) (Run P ops (ops.toList.drop n) (Q .normal)) f' w') (fun a' w' ha' hd' h' => ⟨fun _ => h'.1, ?_⟩) ?_
        · exact ih (k i) _ a' w' (inv.set hi hin) ha' hd' h'.1 hB2 h'.2
        · split
          · rename_i hw; rw [if_pos hw] at h2; exact h2
          · rename_i hw; rw [if_neg hw] at h2; exact ⟨hS, h2⟩

theorem wp_region_RunF {id n N : Nat} {ord : OrdT} {Q : Exit → Fr → World → Prop} {a : Act} {w : World} (hm : P.follows .mixedOrders = true) (hQ : ∀ c f w, ¬ Q (.panic c) f w)
    (hok : regOk ops n ord = true) (hdst : dstsOk N ops = true) (ha : a.tmps.size = N) (hd : a.defers = []) (hS : S w.drew)
    (h : RunF P ops S ord (Run P ops (ops.toList.drop n) (Q .normal)) (frOf a) w.drew) : (Code.region id ops true).wp P (lft N Q) a w := by
  simp only [regOk, Bool.and_eq_true] at hok
  obtain ⟨⟨hs, hsz⟩, hord⟩ := hok
  have hn : n ≤ ops.size := by
    simp only [Bool.or_eq_true, decide_eq_true_eq, Bool.and_eq_true] at hsz
    omega
  have inv0 : HeadInv .any ops n (Array.replicate ops.size false) :=
    ⟨by simp, fun j oj _ hl => (by rw [getD_replicate_false] at hl; cases hl), fun t _ ht => getD_in (by simpa using ht) (getD_replicate_false _ _)⟩
  have htw : ∀ i, i < n → ∀ listed, HeadInv .any ops n listed → listed.getD i true = false → ∀ t, n ≤ t → t ∉ Region.ready .any ops listed := by
    intro i hi listed inv hun t ht hr
    simp only [Bool.or_eq_true, decide_eq_true_eq, Bool.and_eq_true] at hsz
    rcases hsz with h1 | ⟨⟨h1, h2⟩, h3⟩
    · obtain ⟨_, ot, hot, _⟩ := mem_ready.1 hr
      have := (Array.getElem?_eq_some_iff.1 hot).1
      omega
    · exact tail_waits h2 h3 h1 inv _ i rfl hi hun t ht hr
  refine wp_region_any hm (wpAny_of_T (S := S) (n := n) _ _ _ _ ?_)
  have hd' : ∀ o ∈ ops.toList, okd N o.dst = true := by
    intro o ho
    have := Array.all_eq_true'.1 hdst o (by simpa using ho)
    exact this
  have := wpAnyT_of_RunF (S := S) hQ hs htw hd' n ord _ a w.drew inv0 ha hd hS hord h
  rwa [show n + (ops.size - n) = ops.size by omega] at this
end
end Go.Proofs.Ytldmnnloakpjlaa
