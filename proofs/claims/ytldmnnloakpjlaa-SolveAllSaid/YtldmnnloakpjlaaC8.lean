/- Plain facts: a graph turned round; parts by themselves. -/
import Derived.Test.YtldmnnloakpjlaaC7
set_option linter.unusedSimpArgs false
set_option linter.unusedVariables false
set_option linter.unnecessarySimpa false
namespace Go.Proofs.Ytldmnnloakpjlaa

theorem GoodRows.rowlen {n : Nat} {l : List (List Int)} (h : GoodRows n l) (a : Int) : (rowF l a).length ≤ n := by
  have := sorted_len (n := n) (m := 0) (h.row a).1 (fun y hy => okN_iff.1 ((h.row a).2 y hy)) (by omega)
  omega
theorem mem_swap {fs : List (Int × Int)} {a b : Int} : (a, b) ∈ fs.map Prod.swap ↔ (b, a) ∈ fs := by
  rw [List.mem_map]
  constructor
  · rintro ⟨⟨x, y⟩, h, e⟩
    cases e
    exact h
  · intro h
    exact ⟨(b, a), h, rfl⟩
theorem turn_next (N : Nat) (fs : List (Int × Int)) (a : Int) : rowF (newF N fs).1 a = rowF (newF N (fs.map Prod.swap)).2 a := by
  refine sorted_ext ((newF_graph N fs).nx.row a).1 ((newF_graph N _).pv.row a).1 fun b => ?_
  rw [newF_mem, newF_mem2, mem_swap]
  constructor
  · rintro ⟨h1, h2, h3⟩; exact ⟨h1, h3, h2⟩
  · rintro ⟨h1, h2, h3⟩; exact ⟨h1, h3, h2⟩
theorem turn_prev (N : Nat) (fs : List (Int × Int)) (a : Int) : rowF (newF N fs).2 a = rowF (newF N (fs.map Prod.swap)).1 a := by
  refine sorted_ext ((newF_graph N fs).pv.row a).1 ((newF_graph N _).nx.row a).1 fun b => ?_
  rw [newF_mem, newF_mem2, mem_swap]
  constructor
  · rintro ⟨h1, h2, h3⟩; exact ⟨h1, h3, h2⟩
  · rintro ⟨h1, h2, h3⟩; exact ⟨h1, h3, h2⟩
theorem way_turn {nx mx : List (List Int)} (h : ∀ a b, b ∈ rowF nx a → a ∈ rowF mx b) {a b : Int} (hw : Way nx a b) : Way mx b a := by
  induction hw with
  | refl => exact .refl
  | step _ hc ih => exact (Way.one (h _ _ hc)).trans ih
theorem turn_both (N : Nat) (fs : List (Int × Int)) (a b : Int) : Both (newF N fs).1 a b ↔ Both (newF N (fs.map Prod.swap)).1 a b := by
  have h1 : ∀ a b, b ∈ rowF (newF N fs).1 a → a ∈ rowF (newF N (fs.map Prod.swap)).1 b := fun a b h => by
    rw [newF_mem] at *
    exact ⟨mem_swap.2 h.1, h.2.2, h.2.1⟩
  have h2 : ∀ a b, b ∈ rowF (newF N (fs.map Prod.swap)).1 a → a ∈ rowF (newF N fs).1 b := fun a b h => by
    rw [newF_mem] at *
    exact ⟨mem_swap.1 h.1, h.2.2, h.2.1⟩
  exact ⟨fun h => ⟨way_turn h1 h.2, way_turn h1 h.1⟩, fun h => ⟨way_turn h2 h.2, way_turn h2 h.1⟩⟩
theorem IsPart.congr {nx mx : List (List Int)} (h : ∀ a b, Both nx a b ↔ Both mx a b) {b m : Int} (hp : IsPart nx b m) : IsPart mx b m :=
  ⟨(h _ _).1 hp.1, fun c hc => hp.2 c ((h _ _).2 hc)⟩
theorem parts_ext {nx mx : List (List Int)} {N : Nat} (h : ∀ a b, Both nx a b ↔ Both mx a b) {p q : List Int} (hp : p.length = N) (hq : q.length = N)
    (h1 : ∀ b, okN N b = true → IsPart nx b (ai p b)) (h2 : ∀ b, okN N b = true → IsPart mx b (ai q b)) : p = q := by
  apply List.ext_getElem (by rw [hp, hq])
  intro i hi hj
  have hk : okN N (i : Int) = true := okN_iff.2 ⟨by omega, by omega⟩
  have := ((h1 i hk).congr h).uniq (h2 i hk)
  simpa [ai, List.getD, hi, hj] using this
end Go.Proofs.Ytldmnnloakpjlaa
