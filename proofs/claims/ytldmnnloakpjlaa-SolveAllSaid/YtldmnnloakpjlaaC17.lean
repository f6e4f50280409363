/- Plain facts: solutions by going over all until nothing comes. -/
import Derived.Test.YtldmnnloakpjlaaC14
import Derived.Test.YtldmnnloakpjlaaC9
import Derived.Test.YtldmnnloakpjlaaC13
set_option linter.unusedSimpArgs false
set_option linter.unusedVariables false
set_option linter.unnecessarySimpa false
namespace Go.Proofs.Ytldmnnloakpjlaa

def cntI (most : Nat) (r : List Int) : Nat := (List.range most).countP (fun f : Nat => r.contains (f : Int))
def potI (most : Nat) (ins : List (List Int)) : Nat := (ins.map (cntI most)).sum
theorem cntI_le (most : Nat) (r : List Int) : cntI most r ≤ most := by
  have := List.countP_le_length (p := fun f : Nat => r.contains (f : Int)) (l := List.range most)
  rw [List.length_range] at this
  exact this
theorem potI_le (most : Nat) : ∀ ins : List (List Int), potI most ins ≤ ins.length * most
  | [] => by simp [potI]
  | r :: ins => by
    have h1 := potI_le most ins
    have h2 := cntI_le most r
    simp only [potI, List.map_cons, List.sum_cons, List.length_cons] at *
    rw [Nat.add_mul]; omega
theorem potI_set (most : Nat) : ∀ (ins : List (List Int)) (i : Nat) (r r' : List Int), ins[i]? = some r → potI most (ins.set i r') + cntI most r = potI most ins + cntI most r'
  | [], i, r, r', h => by simp at h
  | x :: ins, 0, r, r', h => by
    simp at h; subst h
    simp only [potI, List.set_cons_zero, List.map_cons, List.sum_cons]; omega
  | x :: ins, i + 1, r, r', h => by
    have := potI_set most ins i r r' (by simpa using h)
    simp only [potI, List.set_cons_succ, List.map_cons, List.sum_cons] at *
    omega
theorem cntI_add {most : Nat} {r : List Int} {f : Nat} (hf : f < most) (hn : r.contains (f : Int) = false) : cntI most r < cntI most (r ++ [(f : Int)]) := by
  refine countP_ltN (p := fun g : Nat => r.contains (g : Int)) (q := fun g : Nat => (r ++ [(f : Int)]).contains (g : Int)) (m := f) (fun x hx => ?_) (List.mem_range.2 hf) ?_ hn
  · rw [List.contains_iff_mem] at *; exact List.mem_append_left _ hx
  · rw [List.contains_iff_mem]; simp

def GoesI (gl kl ins : List (List Int)) (a : Int) (f : Nat) : Prop := (f : Int) ∈ rowF gl a ∨ ((f : Int) ∈ rowF ins a ∧ (f : Int) ∉ rowF kl a)
structure RS (nx gl kl : List (List Int)) (most : Nat) (ins : List (List Int)) : Prop where
  len : ins.length = nx.length
  low : ∀ r ∈ ins, ∀ x ∈ r, ∃ f : Nat, x = f ∧ f < most
  size : ∀ r ∈ ins, r.length ≤ cntI most r
  sound : ∀ (b : Int) (f : Nat), okN nx.length b = true → (f : Int) ∈ rowF ins b → Comes nx gl kl b f
theorem RS.start (nx gl kl : List (List Int)) (most : Nat) : RS nx gl kl most (List.replicate nx.length []) := by
  refine ⟨by simp, fun r hr x hx => ?_, fun r hr => ?_, fun b f hb h => ?_⟩
  · rw [List.eq_of_mem_replicate hr] at hx; cases hx
  · rw [List.eq_of_mem_replicate hr]; simp
  · rw [rowF_empty] at h; cases h
theorem RS.add {nx gl kl : List (List Int)} {most : Nat} {ins : List (List Int)} (h : RS nx gl kl most ins) {a b : Int} {f : Nat} (hf : f < most) (hbk : okN nx.length b = true) (hab : b ∈ rowF nx a) (hak : okN nx.length a = true) (hg : GoesI gl kl ins a f) (hn : (rowF ins b).contains (f : Int) = false) :
    RS nx gl kl most (ins.set b.toNat (rowF ins b ++ [(f : Int)])) ∧ potI most ins + 1 ≤ potI most (ins.set b.toNat (rowF ins b ++ [(f : Int)])) := by
  have hbk' : okN ins.length b = true := by rw [h.len]; exact hbk
  have hat := (rowF_at hbk').1
  have hp := potI_set most ins b.toNat _ (rowF ins b ++ [(f : Int)]) hat
  have hlt := cntI_add hf hn
  have hmem := List.mem_of_getElem? hat
  have hc : Comes nx gl kl b f := by
    rcases hg with h1 | ⟨h1, h2⟩
    · exact .gen hab h1
    · exact .step hab (h.sound a f hak h1) h2
  refine ⟨⟨by simp [h.len], fun r hr x hx => ?_, fun r hr => ?_, fun c g hck hx => ?_⟩, by omega⟩
  · rcases List.mem_or_eq_of_mem_set hr with h1 | h1
    · exact h.low r h1 x hx
    · rw [h1] at hx
      rcases List.mem_append.1 hx with h2 | h2
      · exact h.low _ hmem x h2
      · simp at h2; exact ⟨f, h2, hf⟩
  · rcases List.mem_or_eq_of_mem_set hr with h1 | h1
    · exact h.size r h1
    · rw [h1]
      have := h.size _ hmem
      simp only [List.length_append, List.length_cons, List.length_nil]
      omega
  · rw [rowF_set rfl hbk'] at hx
    split at hx
    · rename_i e; subst e
      rcases List.mem_append.1 hx with h2 | h2
      · exact h.sound c g hck h2
      · simp at h2
        obtain rfl : g = f := by omega
        exact hc
    · exact h.sound c g hck hx
/-- Nothing comes any more. -/
def ClosedI (gl kl ins : List (List Int)) (e : Int × Int) (f : Nat) : Prop := GoesI gl kl ins e.1 f → (f : Int) ∈ rowF ins e.2
theorem RS.fin {nx gl kl : List (List Int)} {most : Nat} {ins : List (List Int)} (h : RS nx gl kl most ins) (hg : factsOk gl most) (hgood : GoodRows nx.length nx) {steps : List (Int × Int)} (hrow : ∀ a b, b ∈ rowF nx a → (a, b) ∈ steps) (hc : ∀ e ∈ steps, ∀ f, f < most → ClosedI gl kl ins e f)
    {b : Int} (hb : okN nx.length b = true) (f : Nat) : (f : Int) ∈ rowF ins b ↔ Comes nx gl kl b f := by
  refine ⟨h.sound b f hb, fun hx => ?_⟩
  have hlow := comes_low hg hx
  clear hb
  induction hx with
  | gen h1 h2 => exact hc _ (hrow _ _ h1) _ hlow (.inl h2)
  | step h1 _ h3 ih => exact hc _ (hrow _ _ h1) _ hlow (.inr ⟨ih hlow, h3⟩)
theorem RS.rise {nx gl kl : List (List Int)} {most : Nat} {ins : List (List Int)} (h : RS nx gl kl most ins) {r : List Int} (hr : r ∈ ins) : SetOf (risingF r) (· ∈ r) :=
  risingF_set fun x hx => by obtain ⟨f, e, _⟩ := h.low r hr x hx; omega
end Go.Proofs.Ytldmnnloakpjlaa
