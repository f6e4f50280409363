/- Plain facts: Rising; what is reached from what is reached. -/
import Derived.Test.YtldmnnloakpjlaaC8
import Derived.Test.YtldmnnloakpjlaaB4
set_option linter.unusedSimpArgs false
set_option linter.unusedVariables false
set_option linter.unnecessarySimpa false
namespace Go.Proofs.Ytldmnnloakpjlaa

theorem orderF_iff {a b : Int} : orderF a b = true ↔ (b = -1 ∧ a ≠ -1) ∨ (a ≠ -1 ∧ b ≠ -1 ∧ a < b) := by
  unfold orderF
  by_cases ha : a = -1 <;> by_cases hb : b = -1 <;> simp [ha, hb]
theorem orderF_trans {a b c : Int} (h1 : orderF a b = true) (h2 : orderF b c = true) : orderF a c = true := by
  rw [orderF_iff] at *; omega
theorem orderF_tri (a b : Int) : orderF a b = true ∨ a = b ∨ orderF b a = true := by
  rw [orderF_iff, orderF_iff]; omega

theorem leastF_spec (out : List Int) (l : List Int) : ((leastF out l).2 = false → ∀ x ∈ l, x ∈ out) ∧
    ((leastF out l).2 = true → (leastF out l).1 ∈ l ∧ (leastF out l).1 ∉ out ∧ ∀ x ∈ l, x ∉ out → x = (leastF out l).1 ∨ orderF (leastF out l).1 x = true) := by
  induction l using snoc_ind with
  | nil => simp [leastF]
  | snoc s a ih =>
    have e : leastF out (s ++ [a]) = pickF out (leastF out s) a := by simp [leastF]
    rw [e]
    generalize leastF out s = p at *
    obtain ⟨x, t⟩ := p
    unfold pickF
    by_cases ha : a ∈ out
    · have h1 : out.contains a = true := by simpa using ha
      simp only [h1, Bool.not_true, Bool.false_and, Bool.false_eq_true, if_false]
      refine ⟨fun h y hy => ?_, fun h => ?_⟩
      · rcases List.mem_append.1 hy with hy | hy
        · exact ih.1 h y hy
        · simp at hy; subst hy; exact ha
      · obtain ⟨k1, k2, k3⟩ := ih.2 h
        refine ⟨List.mem_append_left _ k1, k2, fun y hy hyo => ?_⟩
        rcases List.mem_append.1 hy with hy | hy
        · exact k3 y hy hyo
        · simp at hy; subst hy; exact absurd ha hyo
    · have h1 : out.contains a = false := by simpa using ha
      simp only [h1, Bool.not_false, Bool.true_and]
      cases t
      · simp only [Bool.not_false, Bool.true_or, if_true]
        refine ⟨fun h => by simp at h, fun _ => ⟨by simp, ha, fun y hy hyo => ?_⟩⟩
        rcases List.mem_append.1 hy with hy | hy
        · exact absurd (ih.1 rfl y hy) hyo
        · simp at hy; exact .inl hy
      · obtain ⟨k1, k2, k3⟩ := ih.2 rfl
        simp only [Bool.not_true, Bool.false_or]
        by_cases ho : orderF a x = true
        · simp only [ho, if_true]
          refine ⟨fun h => by simp at h, fun _ => ⟨by simp, ha, fun y hy hyo => ?_⟩⟩
          rcases List.mem_append.1 hy with hy | hy
          · rcases k3 y hy hyo with h | h
            · subst h; exact .inr ho
            · exact .inr (orderF_trans ho h)
          · simp at hy; exact .inl hy
        · simp only [ho, if_false, Bool.false_eq_true]
          refine ⟨fun h => by simp at h, fun _ => ⟨List.mem_append_left _ k1, k2, fun y hy hyo => ?_⟩⟩
          rcases List.mem_append.1 hy with hy | hy
          · exact k3 y hy hyo
          · simp at hy; subst hy
            rcases orderF_tri y x with h | h | h
            · exact absurd h ho
            · exact .inl h
            · exact .inr h

theorem countP_lt {p q : Int → Bool} {m : Int} : ∀ {l : List Int}, (∀ x, q x = true → p x = true) → m ∈ l → p m = true → q m = false → l.countP q < l.countP p
  | [], _, h, _, _ => by cases h
  | x :: l, hqp, h, hp, hq => by
    have hle : l.countP q ≤ l.countP p := List.countP_mono_left fun x _ => hqp x
    rw [List.countP_cons, List.countP_cons]
    by_cases hx : m = x
    · subst hx; simp [hp, hq]; omega
    · have hm : m ∈ l := by
        rcases List.mem_cons.1 h with h | h
        · exact absurd h hx
        · exact h
      have := countP_lt hqp hm hp hq
      by_cases h1 : q x = true
      · simp [h1, hqp x h1]; omega
      · simp only [h1, Bool.false_eq_true, if_false]; split <;> omega

structure RI (l out : List Int) : Prop where
  le : out.Pairwise (fun a b => orderF a b = true)
  sub : ∀ x ∈ out, x ∈ l
  low : ∀ x ∈ out, ∀ y ∈ l, y ∉ out → orderF x y = true
theorem RI.step {l out : List Int} (h : RI l out) : RI l (riseF l out) ∧ (l.countP (fun x => !out.contains x) = 0 ∨ l.countP (fun x => !(riseF l out).contains x) < l.countP (fun x => !out.contains x)) ∧ (∀ x ∈ out, x ∈ riseF l out) := by
  obtain ⟨h1, h2⟩ := leastF_spec out l
  unfold riseF
  cases ht : (leastF out l).2
  · simp only [Bool.false_eq_true, if_false]
    refine ⟨h, .inl ?_, fun _ h => h⟩
    rw [List.countP_eq_zero]
    intro x hx
    simp [h1 ht x hx]
  · simp only [if_true]
    obtain ⟨k1, k2, k3⟩ := h2 ht
    generalize (leastF out l).1 = m at *
    refine ⟨⟨?_, ?_, ?_⟩, .inr ?_, fun x hx => List.mem_append_left _ hx⟩
    · refine List.pairwise_append.2 ⟨h.le, by simp, fun x hx y hy => ?_⟩
      simp at hy; subst hy
      exact h.low x hx _ k1 k2
    · intro x hx
      rcases List.mem_append.1 hx with hx | hx
      · exact h.sub x hx
      · simp at hx; subst hx; exact k1
    · intro x hx y hy hyo
      have hyo' : y ∉ out ∧ y ≠ m := by simpa [not_or] using hyo
      rcases List.mem_append.1 hx with hx | hx
      · exact h.low x hx y hy hyo'.1
      · simp at hx; subst hx
        rcases k3 y hy hyo'.1 with e | e
        · exact absurd e hyo'.2
        · exact e
    · refine countP_lt (m := m) (fun x hx => ?_) k1 (by simpa using k2) (by simp)
      have hx' : x ∉ out ∧ x ≠ m := by simpa [not_or] using hx
      simp [hx'.1]
theorem rise_iter {l : List Int} : ∀ (m : List Int) {out : List Int}, RI l out → RI l (m.foldl (fun out _ => riseF l out) out) ∧ (l.countP (fun x => !(m.foldl (fun out _ => riseF l out) out).contains x) = 0 ∨ l.countP (fun x => !(m.foldl (fun out _ => riseF l out) out).contains x) + m.length ≤ l.countP (fun x => !out.contains x)) := by
  intro m
  induction m with
  | nil => intro out h; exact ⟨h, .inr (by simp)⟩
  | cons a m ih =>
    intro out h
    obtain ⟨k1, k2, k3⟩ := h.step
    obtain ⟨k4, k5⟩ := ih k1
    refine ⟨k4, ?_⟩
    rw [List.foldl_cons]
    rcases k5 with k5 | k5
    · exact .inl k5
    · rcases k2 with k2 | k2
      · have : l.countP (fun x => !(riseF l out).contains x) = 0 := by
          rw [List.countP_eq_zero] at *
          intro x hx
          have := k2 x hx
          simp at this
          simp [k3 x this]
        exact .inl (by omega)
      · exact .inr (by simp only [List.length_cons]; omega)
theorem risingF_spec (l : List Int) : (risingF l).Pairwise (fun a b => orderF a b = true) ∧ ∀ x, x ∈ risingF l ↔ x ∈ l := by
  obtain ⟨h1, h2⟩ := rise_iter (l := l) l (out := []) ⟨by simp, by simp, by simp⟩
  refine ⟨h1.le, fun x => ⟨h1.sub x, fun hx => ?_⟩⟩
  have h0 : l.countP (fun x => !(risingF l).contains x) = 0 := by
    unfold risingF
    rcases h2 with h2 | h2
    · exact h2
    · have := List.countP_le_length (p := fun x => !([] : List Int).contains x) (l := l)
      omega
  rw [List.countP_eq_zero] at h0
  simpa using h0 x hx
theorem risingF_set {l : List Int} (h : ∀ x ∈ l, x ≠ -1) : SetOf (risingF l) (· ∈ l) := by
  obtain ⟨h1, h2⟩ := risingF_spec l
  refine ⟨?_, h2⟩
  refine List.Pairwise.imp_of_mem (fun {a b} ha hb hab => ?_) h1
  have e1 := h a ((h2 a).1 ha)
  have e2 := h b ((h2 b).1 hb)
  rw [orderF_iff] at hab
  omega

theorem rch_rch {nx : List (List Int)} {a x r : List Int} (hg : GoodRows nx.length nx) (hx : SetOf x (Rch nx a)) (hr : SetOf r (Rch nx x)) : r = x := by
  refine hr.eq hx fun b => ⟨fun h => ?_, fun h => .base ((hx.mem b).2 h) (h.ok hg)⟩
  induction h with
  | base h1 _ => exact (hx.mem _).1 h1
  | step _ hb ih => exact .step ih hb
theorem rch_mono {nx : List (List Int)} {a b : List Int} (h : ∀ x ∈ a, x ∈ b) {y : Int} (hr : Rch nx a y) : Rch nx b y := by
  induction hr with
  | base h1 h2 => exact .base (h _ h1) h2
  | step _ hb ih => exact .step ih hb
theorem rch_both {nx : List (List Int)} {a b x y z : List Int} (hg : GoodRows nx.length nx) (hx : SetOf x (Rch nx a)) (hy : SetOf y (Rch nx b)) (hz : SetOf z (Rch nx (a ++ b))) : z = risingF (x ++ y) := by
  have hpos : ∀ c ∈ x ++ y, c ≠ -1 := by
    intro c hc
    have hk : okN nx.length c = true := by
      rcases List.mem_append.1 hc with h | h
      · exact ((hx.mem _).1 h).ok hg
      · exact ((hy.mem _).1 h).ok hg
    have := (okN_iff.1 hk).1
    omega
  refine hz.eq (risingF_set hpos) fun c => ?_
  rw [List.mem_append, hx.mem, hy.mem]
  constructor
  · intro h
    induction h with
    | base h1 h2 =>
      rcases List.mem_append.1 h1 with h | h
      · exact .inl (.base h h2)
      · exact .inr (.base h h2)
    | step _ hb ih =>
      rcases ih with h | h
      · exact .inl (.step h hb)
      · exact .inr (.step h hb)
  · rintro (h | h)
    · exact rch_mono (fun x hx => List.mem_append_left _ hx) h
    · exact rch_mono (fun x hx => List.mem_append_right _ hx) h
end Go.Proofs.Ytldmnnloakpjlaa
