/- Plain facts: a search into the depth; in which order it is done with nodes. -/
import Derived.Test.YtldmnnloakpjlaaC2
set_option linter.unusedSimpArgs false
set_option linter.unusedVariables false
set_option linter.unnecessarySimpa false
namespace Go.Proofs.Ytldmnnloakpjlaa

inductive Way (nx : List (List Int)) (a : Int) : Int → Prop
  | refl : Way nx a a
  | step {b c : Int} : Way nx a b → c ∈ rowF nx b → Way nx a c
theorem Way.trans {nx : List (List Int)} {a b c : Int} (h : Way nx a b) (k : Way nx b c) : Way nx a c := by
  induction k with
  | refl => exact h
  | step _ hc ih => exact .step ih hc
theorem Way.one {nx : List (List Int)} {a b : Int} (h : b ∈ rowF nx a) : Way nx a b := .step .refl h
theorem Way.head {nx : List (List Int)} {a c : Int} (h : Way nx a c) : a = c ∨ ∃ b, b ∈ rowF nx a ∧ Way nx b c := by
  induction h with
  | refl => exact .inl rfl
  | @step b c _ hc ih =>
    rcases ih with rfl | ⟨d, hd, hw⟩
    · exact .inr ⟨c, hc, .refl⟩
    · exact .inr ⟨d, hd, .step hw hc⟩
def Both (nx : List (List Int)) (a b : Int) : Prop := Way nx a b ∧ Way nx b a
theorem Both.refl {nx : List (List Int)} (a : Int) : Both nx a a := ⟨.refl, .refl⟩
theorem Both.symm {nx : List (List Int)} {a b : Int} (h : Both nx a b) : Both nx b a := ⟨h.2, h.1⟩
theorem Both.trans {nx : List (List Int)} {a b c : Int} (h : Both nx a b) (k : Both nx b c) : Both nx a c := ⟨h.1.trans k.1, k.2.trans h.2⟩

def ai (l : List Int) (a : Int) : Int := l.getD a.toNat 0
theorem ai_set {l : List Int} {n : Nat} (hl : l.length = n) {a b v : Int} (ha : okN n a = true) (hb : okN n b = true) : ai (l.set a.toNat v) b = if b = a then v else ai l b := by
  have ha' := okN_iff.1 ha
  have hb' := okN_iff.1 hb
  unfold ai
  by_cases h : b = a
  · subst h
    rw [if_pos rfl]
    have : b.toNat < l.length := by omega
    simp [List.getD, this]
  · rw [if_neg h]
    have : a.toNat ≠ b.toNat := by omega
    simp [List.getD, List.getElem?_set, this]

theorem leave {nx : List (List Int)} {out stack : List Int} (hb : ∀ x ∈ out, ∀ y ∈ rowF nx x, y ∈ out ∨ y ∈ stack) {x r : Int} (hx : x ∈ out) (hw : Way nx x r) (hr : r ∉ out) : ∃ g ∈ stack, Way nx x g := by
  induction hw with
  | refl => exact absurd hx hr
  | @step b c hw hc ih =>
    by_cases h : b ∈ out
    · rcases hb b h c hc with h1 | h1
      · exact absurd h1 hr
      · exact ⟨c, h1, .step hw hc⟩
    · exact ih h

/-- What holds while the search goes on. -/
structure DI (nx : List (List Int)) (n : Nat) (out stack : List Int) (seen : List Bool) (at_ : List Int) : Prop where
  slen : seen.length = n
  alen : at_.length = n
  mark : ∀ b, bitAt seen b = true ↔ b ∈ out ∨ b ∈ stack
  count : out.length + stack.length + seen.count false = n
  apart : ∀ b ∈ out, b ∉ stack
  onod : out.Nodup
  snod : stack.Nodup
  path : stack.Pairwise (Way nx)
  black : ∀ x ∈ out, ∀ y ∈ rowF nx x, y ∈ out ∨ y ∈ stack
  atok : ∀ a, okN n a = true → 0 ≤ ai at_ a ∧ ai at_ a ≤ (rowF nx a).length
  white : ∀ a, okN n a = true → bitAt seen a = false → ai at_ a = 0
  grey : ∀ g ∈ stack, ∀ y ∈ (rowF nx g).take (ai at_ g).toNat, bitAt seen y = true
  low : ∀ x ∈ out, ∀ g ∈ stack, Way nx x g → ∃ c ∈ stack, Both nx c x
  cut : ∀ k, ∀ x ∈ out.take k, ∀ r, r ∉ out.take k → Way nx x r → ∃ c, c ∉ out.take k ∧ Both nx c x
section
variable {nx : List (List Int)} {n : Nat} {out stack : List Int} {seen : List Bool} {at_ : List Int}
theorem DI.start (hn : nx.length = n) : DI nx n [] [] (List.replicate n false) (List.replicate n 0) := by
  have h0 : ∀ a, ai (List.replicate n 0) a = 0 := fun a => by
    simp [ai, List.getD, List.getElem?_replicate]; split <;> rfl
  have no : ∀ (x : Int) {p : Prop}, x ∈ ([] : List Int) → p := fun x p h => absurd h (List.not_mem_nil)
  exact ⟨by simp, by simp, fun b => by simp [bitAt_rep], by simp, fun b hb => no b hb, List.nodup_nil, List.nodup_nil, List.Pairwise.nil, fun x hx => no x hx,
    fun a _ => (by rw [h0]; omega), fun a _ _ => h0 a, fun g hg => no g hg, fun x hx => no x hx, fun k x hx => no x (by simpa using hx)⟩
theorem DI.ok (h : DI nx n out stack seen at_) {b : Int} (hb : b ∈ out ∨ b ∈ stack) : okN n b = true := by
  have := bitAt_true ((h.mark b).2 hb)
  rwa [h.slen] at this
theorem DI.push (h : DI nx n out stack seen at_) {y : Int} (hy : okN n y = true) (hs : bitAt seen y = false) (hw : ∀ g ∈ stack, Way nx g y) : DI nx n out (stack ++ [y]) (seen.set y.toNat true) at_ := by
  have hy2 : okN seen.length y = true := by rw [h.slen]; exact hy
  have hset : ∀ c, bitAt (seen.set y.toNat true) c = if c = y then true else bitAt seen c := fun c => bitAt_set hy2
  have hlt := (bitAt_ok hy2).1
  have hget : seen[y.toNat] = false := by
    have := (bitAt_ok hy2).2
    rw [hs] at this
    simp [List.getD, hlt] at this
    exact this
  have hno : y ∉ out := fun hh => by rw [(h.mark y).2 (.inl hh)] at hs; cases hs
  have hns : y ∉ stack := fun hh => by rw [(h.mark y).2 (.inr hh)] at hs; cases hs
  refine ⟨by simp [h.slen], h.alen, fun c => ?_, ?_, fun b hb hb2 => ?_, h.onod, ?_, ?_, fun x hx z hz => ?_, h.atok, fun a ha hsa => ?_, fun g hg z hz => ?_, fun x hx g hg hwx => ?_, h.cut⟩
  · rw [hset, List.mem_append, List.mem_singleton]
    by_cases hc : c = y
    · subst hc; simp
    · simp [hc, h.mark c]
  · have := h.count
    have := count_set_true hlt hget
    simp only [List.length_append, List.length_singleton]
    omega
  · rcases List.mem_append.1 hb2 with h1 | h1
    · exact h.apart b hb h1
    · simp at h1; subst h1; exact hno hb
  · rw [List.nodup_append]
    refine ⟨h.snod, by simp, fun a ha b hb => ?_⟩
    simp at hb; subst hb
    rintro rfl
    exact hns ha
  · rw [List.pairwise_append]
    refine ⟨h.path, by simp, fun a ha b hb => ?_⟩
    simp at hb; subst hb
    exact hw a ha
  · rcases h.black x hx z hz with h1 | h1
    · exact .inl h1
    · exact .inr (List.mem_append_left _ h1)
  · rw [hset] at hsa
    split at hsa
    · cases hsa
    · exact h.white a ha hsa
  · rcases List.mem_append.1 hg with h1 | h1
    · exact push_mono hy2 (h.grey g h1 z hz)
    · simp at h1; subst h1
      rw [h.white g hy hs] at hz
      simp at hz
  · have key : ∃ g ∈ stack, Way nx x g := by
      rcases List.mem_append.1 hg with h1 | h1
      · exact ⟨g, h1, hwx⟩
      · simp at h1; subst h1
        exact leave h.black hx hwx hno
    obtain ⟨g', hg', hwg⟩ := key
    obtain ⟨c, hc, hb⟩ := h.low x hx g' hg' hwg
    exact ⟨c, List.mem_append_left _ hc, hb⟩
theorem DI.adv (h : DI nx n out stack seen at_) {a y : Int} (ha : okN n a = true) {k : Nat} (hk : ai at_ a = k) (hy : (rowF nx a)[k]? = some y) (hs : bitAt seen y = true) (hsa : bitAt seen a = true) : DI nx n out stack seen (at_.set a.toNat (k + 1 : Nat)) := by
  have hlt := (List.getElem?_eq_some_iff.1 hy).1
  refine ⟨h.slen, by simp [h.alen], h.mark, h.count, h.apart, h.onod, h.snod, h.path, h.black, fun b hb => ?_, fun b hb hsb => ?_, fun g hg z hz => ?_, h.low, h.cut⟩
  · rw [ai_set h.alen ha hb]
    split
    · rename_i e; subst e; omega
    · exact h.atok b hb
  · rw [ai_set h.alen ha hb]
    split
    · rename_i e; subst e; rw [hsa] at hsb; cases hsb
    · exact h.white b hb hsb
  · have hgk := h.ok (.inr hg)
    rw [ai_set h.alen ha hgk] at hz
    split at hz
    · rename_i e; subst e
      rw [Int.toNat_natCast, List.take_add_one, hy] at hz
      rcases List.mem_append.1 hz with h1 | h1
      · refine h.grey g hg z ?_
        rw [hk, Int.toNat_natCast]; exact h1
      · simp at h1; subst h1; exact hs
    · exact h.grey g hg z hz
theorem DI.pop {s : List Int} {a : Int} (h : DI nx n out (s ++ [a]) seen at_) (hk : ai at_ a = (rowF nx a).length) : DI nx n (out ++ [a]) s seen at_ := by
  have has : a ∈ s ++ [a] := by simp
  have hno : a ∉ out := fun hh => h.apart a hh has
  have hnd := List.nodup_append.1 h.snod
  have hnas : a ∉ s := fun hh => hnd.2.2 a hh a (by simp) rfl
  have hpa := List.pairwise_append.1 h.path
  have hga : ∀ g ∈ s, Way nx g a := fun g hg => hpa.2.2 g hg a (by simp)
  have hblack : ∀ x ∈ out ++ [a], ∀ y ∈ rowF nx x, y ∈ out ++ [a] ∨ y ∈ s := by
    intro x hx y hy
    have hm : y ∈ out ∨ y ∈ s ++ [a] := by
      rcases List.mem_append.1 hx with h1 | h1
      · exact h.black x h1 y hy
      · simp at h1; subst h1
        refine (h.mark y).1 (h.grey x has y ?_)
        rw [hk, Int.toNat_natCast, List.take_length]; exact hy
    rcases hm with h1 | h1
    · exact .inl (List.mem_append_left _ h1)
    · rcases List.mem_append.1 h1 with h2 | h2
      · exact .inr h2
      · exact .inl (List.mem_append_right _ h2)
  have hlow : ∀ x ∈ out ++ [a], ∀ g ∈ s, Way nx x g → ∃ c ∈ s, Both nx c x := by
    intro x hx g hg hw
    rcases List.mem_append.1 hx with h1 | h1
    · obtain ⟨c, hc, hb⟩ := h.low x h1 g (List.mem_append_left _ hg) hw
      rcases List.mem_append.1 hc with h2 | h2
      · exact ⟨c, h2, hb⟩
      · simp at h2; subst h2
        exact ⟨g, hg, ⟨(hga g hg).trans hb.1, hw⟩⟩
    · simp at h1; subst h1
      exact ⟨g, hg, ⟨hga g hg, hw⟩⟩
  have hap : ∀ b ∈ out ++ [a], b ∉ s := by
    intro b hb hs
    rcases List.mem_append.1 hb with h1 | h1
    · exact h.apart b h1 (List.mem_append_left _ hs)
    · simp at h1; subst h1; exact hnas hs
  refine ⟨h.slen, h.alen, fun b => ?_, ?_, hap, ?_, hnd.1, hpa.1, hblack, h.atok, h.white, fun g hg => h.grey g (List.mem_append_left _ hg), hlow, fun k x hx r hr hw => ?_⟩
  · rw [h.mark, List.mem_append, List.mem_append]
    constructor
    · rintro (h1 | h1 | h1)
      · exact .inl (.inl h1)
      · exact .inr h1
      · exact .inl (.inr h1)
    · rintro ((h1 | h1) | h1)
      · exact .inl h1
      · exact .inr (.inr h1)
      · exact .inr (.inl h1)
  · have := h.count
    simp only [List.length_append, List.length_singleton] at this ⊢
    omega
  · rw [List.nodup_append]
    refine ⟨h.onod, by simp, fun x hx y hy => ?_⟩
    simp at hy; subst hy
    rintro rfl
    exact hno hx
  · by_cases hkl : k ≤ out.length
    · rw [List.take_append_of_le_length hkl] at hx hr ⊢
      exact h.cut k x hx r hr hw
    · rw [List.take_of_length_le (by simp; omega)] at hx hr ⊢
      obtain ⟨g, hg, hwg⟩ := leave hblack hx hw hr
      obtain ⟨c, hc, hb⟩ := hlow x hx g hg hwg
      exact ⟨c, fun hh => hap c hh hc, hb⟩
end
/-- The order that comes of it. -/
structure OrderOk (nx : List (List Int)) (n : Nat) (out : List Int) : Prop where
  nod : out.Nodup
  mem : ∀ b, b ∈ out ↔ okN n b = true
  cut : ∀ k, ∀ x ∈ out.take k, ∀ r, r ∉ out.take k → Way nx x r → ∃ c, c ∉ out.take k ∧ Both nx c x
  len : out.length = n
theorem DI.fin {nx : List (List Int)} {n : Nat} {out : List Int} {seen : List Bool} {at_ : List Int} (h : DI nx n out [] seen at_) (hall : ∀ b, okN n b = true → bitAt seen b = true) : OrderOk nx n out := by
  have hm : ∀ b, b ∈ out ↔ okN n b = true := fun b => ⟨fun hb => h.ok (.inl hb), fun hb => by
    rcases (h.mark b).1 (hall b hb) with h1 | h1
    · exact h1
    · cases h1⟩
  refine ⟨h.onod, hm, h.cut, ?_⟩
  have hc : seen.count false = 0 := by
    rw [List.count_eq_zero]
    intro hf
    obtain ⟨i, hi, he⟩ := List.getElem_of_mem hf
    have hk : okN seen.length (i : Int) = true := okN_iff.2 ⟨by omega, by omega⟩
    have h1 := hall i (by rw [← h.slen]; exact hk)
    rw [(bitAt_ok hk).2] at h1
    simp [List.getD, hi, he] at h1
  have := h.count
  simp only [List.length_nil] at this
  omega
/-- How much the search still has to look at. -/
def leftN (nx : List (List Int)) (at_ : List Int) (n : Nat) : Nat := ((List.range n).map fun (i : Nat) => (rowF nx (i : Int)).length - (ai at_ (i : Int)).toNat).sum
theorem sum_lt {f g : Nat → Nat} {i : Nat} : ∀ {n : Nat}, i < n → (∀ j, j < n → j ≠ i → f j = g j) → f i < g i → ((List.range n).map f).sum < ((List.range n).map g).sum
  | 0, h, _, _ => by omega
  | n + 1, h, he, hl => by
    have hle : ∀ m, (∀ j, j < m → j ≠ i → f j = g j) → ((List.range m).map f).sum ≤ ((List.range m).map g).sum := by
      intro m
      induction m with
      | zero => intro _; simp
      | succ m ih =>
        intro hh
        have := ih fun j hj => hh j (by omega)
        rw [List.range_succ]
        simp only [List.map_append, List.sum_append, List.map_cons, List.map_nil, List.sum_cons, List.sum_nil]
        by_cases hm : m = i
        · subst hm; omega
        · have := hh m (by omega) hm; omega
    rw [List.range_succ]
    simp only [List.map_append, List.sum_append, List.map_cons, List.map_nil, List.sum_cons, List.sum_nil]
    by_cases hn : n = i
    · subst hn
      have := hle n fun j hj => he j (by omega)
      omega
    · have := sum_lt (n := n) (by omega) (fun j hj => he j (by omega)) hl
      have := he n (by omega) hn
      omega
theorem leftN_adv {nx : List (List Int)} {at_ : List Int} {n : Nat} (hl : at_.length = n) {a : Int} (ha : okN n a = true) {k : Nat} (hk : ai at_ a = k) (hlt : k < (rowF nx a).length) : leftN nx (at_.set a.toNat (k + 1 : Nat)) n < leftN nx at_ n := by
  have ha' := okN_iff.1 ha
  refine sum_lt (i := a.toNat) (by omega) (fun j hj hne => ?_) ?_
  · have hj' : okN n (j : Int) = true := okN_iff.2 ⟨by omega, by omega⟩
    rw [ai_set hl ha hj', if_neg (by omega)]
  · have e : ((a.toNat : Nat) : Int) = a := by omega
    rw [e, ai_set hl ha ha, if_pos rfl, hk]
    omega
end Go.Proofs.Ytldmnnloakpjlaa
