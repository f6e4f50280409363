/- Plain facts: a walk over what is not marked. -/
import Derived.Test.YtldmnnloakpjlaaC1
set_option linter.unusedSimpArgs false
set_option linter.unusedVariables false
set_option linter.unnecessarySimpa false
namespace Go.Proofs.Ytldmnnloakpjlaa

def bitAt (l : List Bool) (b : Int) : Bool := okN l.length b && l.getD b.toNat false
theorem bitAt_ok {l : List Bool} {b : Int} (h : okN l.length b = true) : b.toNat < l.length ∧ bitAt l b = l.getD b.toNat false := by
  have := okN_iff.1 h
  exact ⟨by omega, by simp [bitAt, h]⟩
theorem bitAt_true {l : List Bool} {b : Int} (h : bitAt l b = true) : okN l.length b = true := by
  simp [bitAt] at h; exact h.1
theorem bitAt_set {l : List Bool} {a b : Int} {v : Bool} (ha : okN l.length a = true) : bitAt (l.set a.toNat v) b = if b = a then v else bitAt l b := by
  have ha' := okN_iff.1 ha
  unfold bitAt
  simp only [List.length_set]
  by_cases h : b = a
  · subst h
    rw [if_pos rfl, ha]
    have : b.toNat < l.length := by omega
    simp [List.getD, this]
  · rw [if_neg h]
    by_cases hb : okN l.length b = true
    · have hb' := okN_iff.1 hb
      have : a.toNat ≠ b.toNat := by omega
      simp [List.getD, List.getElem?_set, this]
    · simp [hb]
theorem bitAt_rep {n : Nat} {b : Int} : bitAt (List.replicate n false) b = false := by
  simp only [bitAt, List.length_replicate, Bool.and_eq_false_iff]
  right
  simp [List.getD, List.getElem?_replicate]
  split <;> rfl

/-- Who is met from some, past who is not marked. -/
inductive Via (nx : List (List Int)) (seen : List Bool) (todo : List Int) : Int → Prop
  | base {a : Int} : a ∈ todo → Via nx seen todo a
  | step {a b : Int} : Via nx seen todo a → b ∈ rowF nx a → bitAt seen b = false → Via nx seen todo b
structure WalkOk (nx : List (List Int)) (seen : List Bool) (todo : List Int) (seen' : List Bool) (todo' : List Int) : Prop where
  len : seen'.length = seen.length
  via : ∀ b, b ∈ todo' ↔ Via nx seen todo b
  mark : ∀ b, bitAt seen' b = true ↔ bitAt seen b = true ∨ b ∈ todo'
  size : todo'.length ≤ todo.length + seen.length
/-- What holds while it goes on: i are looked at. -/
structure WI (nx : List (List Int)) (seen : List Bool) (todo : List Int) (td : List Int) (sn : List Bool) (i : Nat) : Prop where
  len : sn.length = seen.length
  via : ∀ b ∈ td, Via nx seen todo b
  old : ∀ b ∈ todo, b ∈ td
  mark : ∀ b, bitAt sn b = true ↔ bitAt seen b = true ∨ b ∈ td
  count : td.length + sn.count false = todo.length + seen.count false
  done : ∀ k a, k < i → td[k]? = some a → ∀ b ∈ rowF nx a, bitAt sn b = true
  le : i ≤ td.length
section
variable {nx : List (List Int)} {seen : List Bool} {todo td : List Int} {sn : List Bool} {i : Nat}
theorem WI.start (h : ∀ a ∈ todo, bitAt seen a = true) : WI nx seen todo todo seen 0 :=
  ⟨rfl, fun _ hb => .base hb, fun _ hb => hb, fun b => ⟨.inl, fun hh => hh.elim id (h b)⟩, rfl, fun k a hk => by omega, Nat.zero_le _⟩
theorem count_set_true {l : List Bool} {k : Nat} (hk : k < l.length) (h : l[k] = false) : (l.set k true).count false + 1 = l.count false := by
  induction l generalizing k with
  | nil => simp at hk
  | cons x l ih =>
    cases k with
    | zero =>
      simp only [List.getElem_cons_zero] at h
      subst h
      simp
    | succ k =>
      simp only [List.getElem_cons_succ] at h
      have := ih (by simpa using hk) h
      simp only [List.set_cons_succ, List.count_cons]
      omega
theorem WI.push (h : WI nx seen todo td sn i) {b : Int} (hb : okN seen.length b = true) (hn : bitAt sn b = false) (hv : Via nx seen todo b) : WI nx seen todo (td ++ [b]) (sn.set b.toNat true) i := by
  have hb2 : okN sn.length b = true := by rw [h.len]; exact hb
  have hset : ∀ c, bitAt (sn.set b.toNat true) c = if c = b then true else bitAt sn c := fun c => bitAt_set hb2
  have hlt := (bitAt_ok hb2).1
  have hget : sn[b.toNat] = false := by
    have := (bitAt_ok hb2).2
    rw [hn] at this
    simp [List.getD, hlt] at this
    exact this
  refine ⟨by simp [h.len], fun c hc => ?_, fun c hc => List.mem_append_left _ (h.old c hc), fun c => ?_, ?_, fun k a hk ha c hc => ?_, ?_⟩
  · rcases List.mem_append.1 hc with hc | hc
    · exact h.via c hc
    · simp at hc; subst hc; exact hv
  · rw [hset]
    by_cases hcb : c = b
    · subst hcb; simp
    · simp [hcb, h.mark c]
  · have := h.count
    have := count_set_true hlt hget
    simp only [List.length_append, List.length_singleton]
    omega
  · rw [hset]
    split
    · rfl
    · have hle := h.le
      rw [List.getElem?_append_left (by omega)] at ha
      exact h.done k a hk ha c hc
  · have := h.le
    simp; omega
theorem push_mono {b c : Int} (hb : okN sn.length b = true) (hc : bitAt sn c = true) : bitAt (sn.set b.toNat true) c = true := by
  rw [bitAt_set hb]; split
  · rfl
  · exact hc
theorem WI.next (h : WI nx seen todo td sn i) {a : Int} (ha : td[i]? = some a) (hr : ∀ b ∈ rowF nx a, bitAt sn b = true) : WI nx seen todo td sn (i + 1) := by
  refine ⟨h.len, h.via, h.old, h.mark, h.count, fun k c hk hc b hb => ?_, (List.getElem?_eq_some_iff.1 ha).1⟩
  by_cases hki : k = i
  · subst hki
    rw [ha] at hc
    obtain rfl := Option.some.inj hc
    exact hr b hb
  · exact h.done k c (by omega) hc b hb
theorem WI.fin (h : WI nx seen todo td sn td.length) : WalkOk nx seen todo sn td := by
  refine ⟨h.len, fun b => ⟨h.via b, fun hv => ?_⟩, h.mark, ?_⟩
  · induction hv with
    | base ha => exact h.old _ ha
    | step _ hb hn ih =>
      obtain ⟨k, hk⟩ := List.mem_iff_getElem?.1 ih
      have := h.done k _ (List.getElem?_eq_some_iff.1 hk).1 hk _ hb
      rcases (h.mark _).1 this with h1 | h1
      · rw [hn] at h1; cases h1
      · exact h1
  · have := h.count
    have := List.count_le_length (a := false) (l := seen)
    omega
end
end Go.Proofs.Ytldmnnloakpjlaa
