/- Plain facts for the laws of the solver. -/
import Derived.Test.YtldmnnloakpjlaaB25
set_option linter.unusedSimpArgs false
set_option linter.unusedVariables false
set_option linter.unnecessarySimpa false
namespace Go.Proofs.Ytldmnnloakpjlaa

theorem modf_range (a : Int) {m : Int} (hm : 0 < m) : 0 ≤ modf a m ∧ modf a m < m := by
  obtain ⟨N, h1, h2⟩ := modf_nat a m.toNat (by omega)
  rw [show ((m.toNat : Nat) : Int) = m by omega] at h1
  omega
theorem fitF_len (m : Int) (l : List (List Int)) : (fitF m l).length = l.length := by simp [fitF]
theorem fitF_facts {m : Int} (hm : 0 < m) (l : List (List Int)) : factsOk (fitF m l) m.toNat := by
  intro x hx f hf
  obtain ⟨y, _, rfl⟩ := List.mem_map.1 hx
  obtain ⟨g, _, rfl⟩ := List.mem_map.1 hf
  have := modf_range g hm
  omega
theorem fitS_valid {n : Int} (hn : 0 < n) (l : List (Int × Int)) : ∀ s ∈ fitS n l, validE n.toNat s := by
  intro s hs
  obtain ⟨t, _, rfl⟩ := List.mem_map.1 hs
  have h1 := modf_range t.1 hn
  have h2 := modf_range t.2 hn
  exact ⟨h1.1, by simp only []; omega, h2.1, by simp only []; omega⟩
theorem fitS_len (n : Int) (l : List (Int × Int)) : (fitS n l).length ≤ 30 := by
  simp [fitS]; omega
theorem fitF_rows {m : Int} {l : List (List Int)} {k : Nat} (h : ∀ x ∈ l, x.length ≤ k) : ∀ x ∈ fitF m l, x.length ≤ k := by
  intro x hx
  obtain ⟨y, hy, rfl⟩ := List.mem_map.1 hx
  simpa using h y hy
theorem cutF_rows (l : List (List Int)) (n : Nat) : ∀ x ∈ cutF l n, x.length ≤ 6 := by
  intro x hx
  obtain ⟨i, _, rfl⟩ := List.mem_map.1 hx
  simp; omega
theorem fit_ok {N M : Nat} (hN : 0 < N) (hN5 : N ≤ 5000) (hM : 0 < M) (hM5 : M ≤ 5000) (steps : List (Int × Int)) (gen kill : List (List Int)) :
    OfOk N (fitS N steps) (fitF M (cutF gen N)) (fitF M (cutF kill N)) M := by
  refine ⟨by omega, by omega, by omega, by omega, by rw [fitF_len, cutF_len], by rw [fitF_len, cutF_len], fitS_valid (by omega) _, fitF_facts (by omega) _, fitF_facts (by omega) _⟩

/-- A fact that comes is one. -/
theorem comes_low {nx gen kill : List (List Int)} {m : Nat} (hg : factsOk gen m) {b : Int} {f : Nat} (h : Comes nx gen kill b f) : f < m := by
  induction h with
  | @gen a b f h1 h2 =>
    have hk : okN gen.length a = true := by
      cases e : okN gen.length a
      · rw [rowF_no e] at h2; cases h2
      · rfl
    have := hg _ (rowF_mem hk) _ h2
    omega
  | step _ _ _ ih => exact ih
theorem SolOk.mem {nx gl kl : List (List Int)} {m : Nat} {sol : List (List Int)} {T : Nat} (h : SolOk nx gl kl m sol T) (hg : factsOk gl m) {b : Int} (hb : okN nx.length b = true) (f : Nat) : (f : Int) ∈ rowF sol b ↔ Comes nx gl kl b f := by
  obtain ⟨p, h1, h2⟩ := h.row b hb
  rw [h1, List.mem_map]
  constructor
  · rintro ⟨i, hi, e⟩
    obtain rfl : i = f := by omega
    exact (h2 _).1 (List.mem_filter.1 hi).2
  · intro hc
    exact ⟨f, List.mem_filter.2 ⟨List.mem_range.2 (comes_low hg hc), (h2 f).2 hc⟩, rfl⟩
theorem SolOk.memI {nx gl kl : List (List Int)} {m : Nat} {sol : List (List Int)} {T : Nat} (h : SolOk nx gl kl m sol T) {b : Int} (hb : okN nx.length b = true) {x : Int} (hx : x ∈ rowF sol b) : ∃ f : Nat, x = f ∧ Comes nx gl kl b f ∧ f < m := by
  obtain ⟨p, h1, h2⟩ := h.row b hb
  rw [h1, List.mem_map] at hx
  obtain ⟨i, hi, rfl⟩ := hx
  exact ⟨i, rfl, (h2 i).1 (List.mem_filter.1 hi).2, List.mem_range.1 (List.mem_filter.1 hi).1⟩

/-! ### One fact alone -/
def oneF (l : List (List Int)) (f : Int) (y : List Int) : List (List Int) := l.map fun x => if x.contains f then y else []
theorem rowF_map {l : List (List Int)} {g : List Int → List Int} (hg : g [] = []) (a : Int) : rowF (l.map g) a = g (rowF l a) := by
  unfold rowF
  rw [List.length_map]
  split
  · rename_i h
    simp only [List.getD, List.getElem?_map]
    rw [List.getElem?_eq_getElem (show a.toNat < l.length by omega)]; rfl
  · exact hg.symm
theorem oneF_row (l : List (List Int)) (f : Int) (y : List Int) (a : Int) : rowF (oneF l f y) a = if (rowF l a).contains f then y else [] :=
  rowF_map (g := fun x => if x.contains f then y else []) (by simp) a
theorem comes_one {nx gen kill : List (List Int)} {f : Nat} {y z : List Int} (hy : ∀ x, x ∈ y ↔ x = 0) (hz : ∀ x, x ∈ z ↔ x = 0) (b : Int) : Comes nx (oneF gen f y) (oneF kill f z) b 0 ↔ Comes nx gen kill b f := by
  have g1 : ∀ (l : List (List Int)) (u : List Int), (∀ x, x ∈ u ↔ x = 0) → ∀ a, (((0 : Nat) : Int) ∈ rowF (oneF l f u) a ↔ (f : Int) ∈ rowF l a) := by
    intro l u hu a
    rw [oneF_row]
    by_cases h : (rowF l a).contains (f : Int) = true
    · rw [if_pos h]
      have : (f : Int) ∈ rowF l a := by simpa using h
      simp [hu, this]
    · rw [if_neg h]
      have : (f : Int) ∉ rowF l a := by simpa using h
      simp [this]
  constructor
  · intro h
    generalize hz0 : (0 : Nat) = k at h
    induction h with
    | gen h1 h2 => subst hz0; exact .gen h1 ((g1 gen y hy _).1 h2)
    | step h1 _ h3 ih => subst hz0; exact .step h1 (ih rfl) fun h => h3 ((g1 kill z hz _).2 h)
  · intro h
    generalize hf : f = k at h
    induction h with
    | gen h1 h2 => subst hf; exact .gen h1 ((g1 gen y hy _).2 h2)
    | step h1 _ h3 ih => subst hf; exact .step h1 (ih rfl) fun h => h3 ((g1 kill z hz _).1 h)
theorem oneF_facts (l : List (List Int)) (f : Int) {y : List Int} (hy : ∀ x ∈ y, x = 0) : factsOk (oneF l f y) 1 := by
  intro x hx g hg
  obtain ⟨z, _, rfl⟩ := List.mem_map.1 hx
  split at hg
  · have := hy g hg; omega
  · cases hg
/-- Of one fact, a row is of one or of none. -/
theorem SolOk.len1 {nx gl kl : List (List Int)} {sol : List (List Int)} {T : Nat} (h : SolOk nx gl kl 1 sol T) {b : Int} (hb : okN nx.length b = true) : (rowF sol b).length = 1 ↔ Comes nx gl kl b 0 := by
  obtain ⟨p, h1, h2⟩ := h.row b hb
  have e : List.range 1 = [0] := rfl
  rw [h1, e, ← h2 0]
  cases hp : p 0 <;> simp [hp]
end Go.Proofs.Ytldmnnloakpjlaa
