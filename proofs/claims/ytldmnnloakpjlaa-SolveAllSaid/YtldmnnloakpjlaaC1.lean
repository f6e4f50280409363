/- Plain facts on a graph's rows. -/
set_option linter.unusedSimpArgs false
set_option linter.unusedVariables false
set_option linter.unnecessarySimpa false
namespace Go.Proofs.Ytldmnnloakpjlaa

/-- A row, of a number that may be none. -/
def rowF (nx : List (List Int)) (a : Int) : List Int := if 0 ≤ a ∧ a < nx.length then nx.getD a.toNat [] else []
def okN (n : Nat) (a : Int) : Bool := decide (0 ≤ a) && decide (a < n)
theorem okN_iff {n : Nat} {a : Int} : okN n a = true ↔ 0 ≤ a ∧ a < n := by simp [okN]
theorem rowF_no {nx : List (List Int)} {a : Int} (h : okN nx.length a = false) : rowF nx a = [] := by
  unfold rowF
  rw [if_neg (fun hh => by rw [okN_iff.2 hh] at h; cases h)]
theorem rowF_at {nx : List (List Int)} {a : Int} (h : okN nx.length a = true) : nx[a.toNat]? = some (rowF nx a) ∧ a.toNat < nx.length := by
  have hh := okN_iff.1 h
  unfold rowF
  rw [if_pos hh]
  have : a.toNat < nx.length := by omega
  exact ⟨by simp [List.getD, this], this⟩
theorem rowF_mem {nx : List (List Int)} {a : Int} (h : okN nx.length a = true) : rowF nx a ∈ nx := List.mem_of_getElem? (rowF_at h).1

def insF (l : List Int) (x : Int) : List Int := l.take (l.countP (· < x)) ++ x :: l.drop (l.countP (· < x))
def addOk (nx : List (List Int)) (a b : Int) : Bool := okN nx.length a && okN nx.length b && !(rowF nx a).contains b
def addN (nx : List (List Int)) (a b : Int) : List (List Int) := if addOk nx a b then nx.set a.toNat (insF (rowF nx a) b) else nx
def addP (nx pv : List (List Int)) (a b : Int) : List (List Int) := if addOk nx a b then pv.set b.toNat (insF (rowF pv b) a) else pv

theorem insF_lt {y x : Int} {l : List Int} (h : y < x) : insF (y :: l) x = y :: insF l x := by
  simp [insF, h]
theorem countP_zero {l : List Int} {x : Int} (h : ∀ y ∈ l, x ≤ y) : l.countP (· < x) = 0 := by
  rw [List.countP_eq_zero]
  intro y hy
  have := h y hy
  simp; omega
theorem insF_ge {y x : Int} {l : List Int} (h : x ≤ y) (hs : (y :: l).Pairwise (· < ·)) : insF (y :: l) x = x :: y :: l := by
  have := countP_zero (l := y :: l) (x := x) (by
    intro z hz
    rcases List.mem_cons.1 hz with rfl | hz
    · exact h
    · have := (List.pairwise_cons.1 hs).1 z hz; omega)
  unfold insF
  rw [this]
  simp
theorem mem_insF {x y : Int} {l : List Int} : y ∈ insF l x ↔ y = x ∨ y ∈ l := by
  unfold insF
  constructor
  · intro h
    rcases List.mem_append.1 h with h | h
    · exact .inr (List.mem_of_mem_take h)
    · rcases List.mem_cons.1 h with h | h
      · exact .inl h
      · exact .inr (List.mem_of_mem_drop h)
  · rintro (rfl | h)
    · simp
    · rw [← List.take_append_drop (l.countP (· < x)) l] at h
      rcases List.mem_append.1 h with h | h
      · exact List.mem_append_left _ h
      · exact List.mem_append_right _ (List.mem_cons_of_mem _ h)
theorem insF_sorted {x : Int} : ∀ {l : List Int}, l.Pairwise (· < ·) → x ∉ l → (insF l x).Pairwise (· < ·)
  | [], _, _ => by simp [insF]
  | y :: l, hs, hn => by
    have hs' := List.pairwise_cons.1 hs
    rcases Int.lt_or_le y x with h | h
    · rw [insF_lt h, List.pairwise_cons]
      refine ⟨fun z hz => ?_, insF_sorted hs'.2 fun hx => hn (List.mem_cons_of_mem _ hx)⟩
      rcases mem_insF.1 hz with rfl | hz
      · exact h
      · exact hs'.1 z hz
    · rw [insF_ge h hs, List.pairwise_cons]
      refine ⟨fun z hz => ?_, hs⟩
      have hne : x ≠ y := fun e => hn (by simp [e])
      rcases List.mem_cons.1 hz with rfl | hz
      · omega
      · have := hs'.1 z hz; omega
theorem sorted_len {n : Int} : ∀ {l : List Int} {m : Int}, l.Pairwise (· < ·) → (∀ y ∈ l, m ≤ y ∧ y < n) → m ≤ n → (l.length : Int) ≤ n - m
  | [], m, _, _, hm => by simp; omega
  | y :: l, m, hs, hb, hm => by
    have hs' := List.pairwise_cons.1 hs
    have hy := hb y (by simp)
    have := sorted_len (l := l) (m := y + 1) hs'.2 (fun z hz => ⟨by have := hs'.1 z hz; omega, (hb z (List.mem_cons_of_mem _ hz)).2⟩) (by omega)
    simp only [List.length_cons]
    omega
/-- Two that rise and have the same members are one. -/
theorem sorted_ext : ∀ {l m : List Int}, l.Pairwise (· < ·) → m.Pairwise (· < ·) → (∀ x, x ∈ l ↔ x ∈ m) → l = m
  | [], [], _, _, _ => rfl
  | [], y :: m, _, _, h => by have := (h y).2 (by simp); cases this
  | x :: l, [], _, _, h => by have := (h x).1 (by simp); cases this
  | x :: l, y :: m, hl, hm, h => by
    have hl' := List.pairwise_cons.1 hl
    have hm' := List.pairwise_cons.1 hm
    have hxy : x = y := by
      rcases List.mem_cons.1 ((h x).1 (by simp)) with e | h1
      · exact e
      · rcases List.mem_cons.1 ((h y).2 (by simp)) with e | h2
        · exact e.symm
        · have := hl'.1 y h2
          have := hm'.1 x h1
          omega
    subst hxy
    rw [sorted_ext hl'.2 hm'.2 fun z => ?_]
    constructor
    · intro hz
      rcases List.mem_cons.1 ((h z).1 (List.mem_cons_of_mem _ hz)) with e | h1
      · have := hl'.1 z hz; omega
      · exact h1
    · intro hz
      rcases List.mem_cons.1 ((h z).2 (List.mem_cons_of_mem _ hz)) with e | h1
      · have := hm'.1 z hz; omega
      · exact h1

/-- Rows of n nodes: each rises, and tells nodes. -/
structure GoodRows (n : Nat) (l : List (List Int)) : Prop where
  len : l.length = n
  le : ∀ x ∈ l, x.Pairwise (· < ·)
  ok : ∀ x ∈ l, ∀ y ∈ x, okN n y = true
theorem GoodRows.row_len {n : Nat} {l : List (List Int)} (h : GoodRows n l) {x : List Int} (hx : x ∈ l) : x.length ≤ n := by
  have := sorted_len (n := n) (m := 0) (h.le x hx) (fun y hy => okN_iff.1 (h.ok x hx y hy)) (by omega)
  omega
theorem good_empty (n : Nat) : GoodRows n (List.replicate n []) :=
  ⟨by simp, fun x hx => by simp [List.eq_of_mem_replicate hx], fun x hx y hy => by simp [List.eq_of_mem_replicate hx] at hy⟩
theorem GoodRows.ins {n : Nat} {l : List (List Int)} (h : GoodRows n l) {a b : Int} (hb : okN n b = true) (ha : okN n a = true) (hn : b ∉ rowF l a) : GoodRows n (l.set a.toNat (insF (rowF l a) b)) := by
  have hm := rowF_mem (nx := l) (a := a) (by rw [h.len]; exact ha)
  refine ⟨by simp [h.len], fun x hx => ?_, fun x hx y hy => ?_⟩
  · rcases List.mem_or_eq_of_mem_set hx with h1 | rfl
    · exact h.le x h1
    · exact insF_sorted (h.le _ hm) hn
  · rcases List.mem_or_eq_of_mem_set hx with h1 | rfl
    · exact h.ok x h1 y hy
    · rcases mem_insF.1 hy with rfl | h1
      · exact hb
      · exact h.ok _ hm y h1
theorem rowF_set {n : Nat} {l : List (List Int)} (hl : l.length = n) {a c : Int} {r : List Int} (ha : okN n a = true) : rowF (l.set a.toNat r) c = if c = a then r else rowF l c := by
  have ha' := okN_iff.1 ha
  unfold rowF
  simp only [List.length_set]
  by_cases hc : 0 ≤ c ∧ c < l.length
  · rw [if_pos hc, if_pos hc]
    by_cases h : c = a
    · subst h
      rw [if_pos rfl]
      have : c.toNat < l.length := by omega
      simp [List.getD, this]
    · rw [if_neg h]
      have : a.toNat ≠ c.toNat := by omega
      simp [List.getD, List.getElem?_set, this]
  · rw [if_neg hc, if_neg hc, if_neg (by rintro rfl; exact hc (by omega))]

/-! ### What edge by edge comes -/
def growF (g : List (List Int) × List (List Int)) (e : Int × Int) : List (List Int) × List (List Int) := (addN g.1 e.1 e.2, addP g.1 g.2 e.1 e.2)
def newF (n : Nat) (edges : List (Int × Int)) : List (List Int) × List (List Int) := edges.foldl growF (List.replicate n [], List.replicate n [])
/-- A graph's rows: both are good, and turned about they are one. -/
structure Graph (n : Nat) (g : List (List Int) × List (List Int)) : Prop where
  nx : GoodRows n g.1
  pv : GoodRows n g.2
  both : ∀ a b, b ∈ rowF g.1 a ↔ a ∈ rowF g.2 b
theorem addOk_iff {n : Nat} {l : List (List Int)} (hl : l.length = n) {a b : Int} : addOk l a b = true ↔ okN n a = true ∧ okN n b = true ∧ b ∉ rowF l a := by
  simp [addOk, hl, and_assoc]
theorem Graph.grow {n : Nat} {g : List (List Int) × List (List Int)} (h : Graph n g) (e : Int × Int) : Graph n (growF g e) ∧
    ∀ a b, b ∈ rowF (growF g e).1 a ↔ b ∈ rowF g.1 a ∨ ((a, b) = e ∧ okN n a = true ∧ okN n b = true) := by
  obtain ⟨x, y⟩ := e
  by_cases hok : addOk g.1 x y = true
  · obtain ⟨h1, h2, h3⟩ := (addOk_iff h.nx.len).1 hok
    have e1 : growF g (x, y) = (g.1.set x.toNat (insF (rowF g.1 x) y), g.2.set y.toNat (insF (rowF g.2 y) x)) := by
      simp [growF, addN, addP, hok]
    rw [e1]
    have h4 : x ∉ rowF g.2 y := fun hh => h3 ((h.both x y).2 hh)
    refine ⟨⟨h.nx.ins h2 h1 h3, h.pv.ins h1 h2 h4, fun a b => ?_⟩, fun a b => ?_⟩
    · simp only []
      rw [rowF_set h.nx.len h1, rowF_set h.pv.len h2]
      have := h.both a b
      by_cases ha : a = x <;> by_cases hb : b = y
      · subst ha; subst hb
        simp [mem_insF]
      · subst ha
        rw [if_pos rfl, if_neg hb, mem_insF, this]
        simp [hb]
      · subst hb
        rw [if_pos rfl, if_neg ha, mem_insF, this]
        simp [ha]
      · rw [if_neg ha, if_neg hb, this]
    · simp only []
      rw [rowF_set h.nx.len h1]
      by_cases ha : a = x
      · subst ha
        rw [if_pos rfl, mem_insF]
        constructor
        · rintro (rfl | hh)
          · exact .inr ⟨rfl, h1, h2⟩
          · exact .inl hh
        · rintro (hh | ⟨hh, _⟩)
          · exact .inr hh
          · exact .inl (Prod.mk.inj hh).2
      · rw [if_neg ha]
        constructor
        · exact .inl
        · rintro (hh | ⟨hh, _⟩)
          · exact hh
          · exact absurd (Prod.mk.inj hh).1 ha
  · have hno : addOk g.1 x y = false := by simpa using hok
    have e1 : growF g (x, y) = g := by
      simp [growF, addN, addP, hno]
    rw [e1]
    refine ⟨h, fun a b => ⟨.inl, ?_⟩⟩
    rintro (hh | ⟨hh, h1, h2⟩)
    · exact hh
    · obtain ⟨rfl, rfl⟩ := Prod.mk.inj hh
      by_cases hb : b ∈ rowF g.1 a
      · exact hb
      · exact absurd ((addOk_iff h.nx.len).2 ⟨h1, h2, hb⟩) hok
theorem rowF_empty (n : Nat) (a : Int) : rowF (List.replicate n []) a = [] := by
  unfold rowF
  split
  · simp [List.getD, List.getElem?_replicate]; split <;> rfl
  · rfl
theorem graph_empty (n : Nat) : Graph n (List.replicate n [], List.replicate n []) :=
  ⟨good_empty n, good_empty n, fun a b => by simp [rowF_empty]⟩
theorem Graph.grows {n : Nat} : ∀ (edges : List (Int × Int)) {g : List (List Int) × List (List Int)}, Graph n g → Graph n (edges.foldl growF g) ∧
    ∀ a b, b ∈ rowF (edges.foldl growF g).1 a ↔ b ∈ rowF g.1 a ∨ ((a, b) ∈ edges ∧ okN n a = true ∧ okN n b = true)
  | [], g, h => ⟨h, fun a b => by simp⟩
  | e :: es, g, h => by
    obtain ⟨h1, h2⟩ := h.grow e
    obtain ⟨h3, h4⟩ := h1.grows es
    refine ⟨h3, fun a b => ?_⟩
    rw [List.foldl_cons, h4, h2, List.mem_cons]
    constructor
    · rintro ((h | h) | h)
      · exact .inl h
      · exact .inr ⟨.inl h.1, h.2⟩
      · exact .inr ⟨.inr h.1, h.2⟩
    · rintro (h | ⟨h | h, h5⟩)
      · exact .inl (.inl h)
      · exact .inl (.inr ⟨h, h5⟩)
      · exact .inr ⟨h, h5⟩
theorem newF_graph (n : Nat) (edges : List (Int × Int)) : Graph n (newF n edges) := (graph_empty n |>.grows edges).1
theorem newF_mem (n : Nat) (edges : List (Int × Int)) (a b : Int) : b ∈ rowF (newF n edges).1 a ↔ (a, b) ∈ edges ∧ okN n a = true ∧ okN n b = true := by
  have := ((graph_empty n).grows edges).2 a b
  simp only [rowF_empty, List.not_mem_nil, false_or] at this
  exact this
theorem newF_mem2 (n : Nat) (edges : List (Int × Int)) (a b : Int) : a ∈ rowF (newF n edges).2 b ↔ (a, b) ∈ edges ∧ okN n a = true ∧ okN n b = true := by
  rw [← (newF_graph n edges).both]; exact newF_mem n edges a b
theorem GoodRows.row {n : Nat} {l : List (List Int)} (h : GoodRows n l) (a : Int) : (rowF l a).Pairwise (· < ·) ∧ (∀ y ∈ rowF l a, okN n y = true) := by
  by_cases ha : okN l.length a = true
  · exact ⟨h.le _ (rowF_mem ha), h.ok _ (rowF_mem ha)⟩
  · rw [rowF_no (by simpa using ha)]
    exact ⟨List.Pairwise.nil, fun y hy => by cases hy⟩
end Go.Proofs.Ytldmnnloakpjlaa
