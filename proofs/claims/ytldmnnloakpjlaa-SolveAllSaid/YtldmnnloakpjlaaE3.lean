/- Arguments opened: lists of numbers, of pairs, of lists; and closed behind a walk that at most lays new blocks. -/
import Derived.Test.YtldmnnloakpjlaaE1
import Derived.Carry
import Derived.Deep.Slices
import Derived.Deep.Matrix
import Derived.Test.YtldmnnloakpjlaaB6
set_option linter.unusedSimpArgs false
set_option linter.unusedVariables false
namespace Go.Proofs.Ytldmnnloakpjlaa
open Go Go.ChangeShapes Go.WideShapes Go.ChangeAt Go.RowKit

theorem Mod.belowE {w w' : World} (h : Ext w w') : Below w.heap.size w w' := ⟨h.os, h.tape, h.output, h.size, fun k hk => h.block k hk id⟩

section
variable {H : Type} {enc : TypeId × Value → H} {P : Program}

/-- Arguments read the same, where only new blocks were laid. -/
theorem trodAll_ext (hl : laidOutB P = true) {W W' : World} (hx : Ext W W') : ∀ {ts : List TypeId} {vs : List Value} {ds : List (DataW H)} {ps : List MemPlace},
    (∀ t ∈ ts, P.readableRec t = true ∧ t < P.types.size) → (∀ p ∈ ps, p.block < W.heap.size) → DataW.TrodAll enc P W 0 (fun _ => true) true ts vs ds ps →
    DataW.TrodAll enc P W' 0 (fun b => decide (b < W.heap.size)) true ts vs ds ps
  | [], vs, ds, ps, _, _, h => by
    obtain ⟨rfl, rfl, rfl⟩ := trodAll_nil h
    exact trodAll_mk0
  | t :: ts, vs, ds, ps, ht, hp, h => by
    obtain ⟨v, vs', d, ds', p, q, rfl, rfl, rfl, h0, h1⟩ := trodAll_cons h
    refine trodAll_cons_mk ?_ (trodAll_ext hl hx (fun t' h' => ht t' (List.mem_cons_of_mem _ h')) (fun x h' => hp x (List.mem_append_right _ h')) h1)
    have := ht t (by simp)
    exact h0.elim fun n hn => Below.trod hl this.1 this.2 ⟨n, hn⟩ hx.belowE (fun x h' => hp x (List.mem_append_left _ h'))

theorem post_law {f : Func} {s : ChangeSpec} {apart fresh handsOn : Bool} {W W' : World} {args : Array Value} {v : Value} {ds : List (DataW H)} {before : List MemPlace}
    (hl : laidOutB P = true) (ht : ∀ t ∈ f.params.toList, P.readableRec t = true ∧ t < P.types.size)
    (hv : s.vars = []) (hW : DataW.Whole enc P f.params.toList s.vars apart W args.toList ds [] before)
    (hA : DataW.TrodAll enc P W 0 (fun _ => true) true f.params.toList args.toList ds before)
    (hs : (s.fn H ds).args = ds) (hs2 : (s.fn H ds).vars = [])
    (hres : ∀ (b : Nat) (sp : Nat → Bool) (hd : Bool), DataW.TrodAll enc P W' b sp hd f.resultTypes.toList (v.resultList f.resultTypes.size) (s.fn H ds).results [])
    (hx : Ext W W') : s.post enc P f apart fresh handsOn false W args v W' := by
  refine ⟨ds, [], before, [], before, [], hW, ?_, ?_, ?_, hx.keptBut _, fun h => by cases h⟩
  · rw [List.append_nil]; exact hres _ _ _
  · rw [List.append_nil, hs]
    exact trodAll_ext hl hx ht (fun p hp => hW.lt p hp) hA
  · rw [List.append_nil, hs2, hv]; exact rfl
end

section
variable {H : Type} {enc : TypeId × Value → H} {P : Program} {W : World} {v : Value} {d : DataW H} {ps : List MemPlace} {t : TypeId} {base : Nat} {sp : Nat → Bool} {held : Bool}

theorem Addr.add_neg (a : Addr) (j : Nat) : (a.add j).block = a.block := by
  unfold Addr.add; split <;> rfl

theorem arg_slice {e : TypeId} {b0 : Nat} (ht : P.underlying t = some (.slice e)) (hval : Value.okWide P W .any b0 t v) (h : DataW.Trod enc P W base sp held t v d ps) :
    ∃ fuel, DataW.trod enc P W base sp held fuel t [v] = some (d, ps) := by
  obtain ⟨a, n, c, rfl⟩ := okWide_slice ht hval
  obtain ⟨fuel, hf⟩ := h
  exact ⟨fuel, by simpa [Value.cells] using hf⟩

theorem arg_ints {e : TypeId} {b0 : Nat} (ht : P.underlying t = some (.slice e)) (he : P.underlying e = some (.int .i64)) (hc : P.cellsOf e = 1) (hval : Value.okWide P W .any b0 t v) (h : DataW.Trod enc P W base sp held t v d ps) :
    ∃ xs : List Int, R (hpOf W) v xs ∧ ∀ n ∈ xs, (Lit.int .i64 n).wf = true := by
  obtain ⟨n, hn⟩ := arg_slice ht hval h
  rcases open_ints ht he hc hn with ⟨h0, _⟩ | ⟨a, len, cap, zs, h0, _, hlc, _, hzl, _, hcell, hwf⟩
  · simp only [List.cons.injEq, and_true] at h0
    subst h0
    exact ⟨[], ⟨none, 0, 0, rfl, rfl, Nat.le_refl _, [], rfl, fun j u hj => by simp at hj⟩, fun n hn => by cases hn⟩
  · simp only [List.cons.injEq, and_true] at h0
    subst h0
    have hll : len ≤ zs.length := by rw [hzl]; split <;> omega
    refine ⟨zs.take len, ⟨some a, len, cap, rfl, by rw [List.length_take]; omega, hlc, (zs.take len).map fun n => .int .i64 n, encs_ints.2 rfl, fun j u hj => ⟨a, rfl, ?_⟩⟩, fun n hn => hwf n (List.mem_of_mem_take hn)⟩
    rw [List.getElem?_map] at hj
    obtain ⟨x, h1, h2⟩ := Option.map_eq_some_iff.1 hj
    have hjl := (List.getElem?_eq_some_iff.1 h1).1
    rw [List.length_take] at hjl
    rw [List.getElem?_take_of_lt (by omega)] at h1
    have := hcell j (by omega)
    rw [cell_eq] at this
    rw [this, ← h2]
    simp [List.getD, h1]

theorem enc_pairs {h : Hp} : ∀ (xs : List (Int × Int)), encs h (xs.flatMap fun x => [.int .i64 x.1, .int .i64 x.2]) xs
  | [] => rfl
  | (a, b) :: xs => ⟨[.int .i64 a, .int .i64 b], _, rfl, ⟨[.int .i64 a], [.int .i64 b], rfl, rfl, rfl⟩, enc_pairs xs⟩
theorem pairs_at : ∀ (xs : List (Int × Int)) (j : Nat) (u : Value), (xs.flatMap fun x => [Value.int .i64 x.1, Value.int .i64 x.2])[j]? = some u →
    ∃ x, xs[j / 2]? = some x ∧ u = .int .i64 (if j % 2 = 0 then x.1 else x.2)
  | [], j, u, h => by simp at h
  | x :: xs, j, u, h => by
    match j, h with
    | 0, h => simp at h; exact ⟨x, rfl, by simp [← h]⟩
    | 1, h => simp at h; exact ⟨x, rfl, by simp [← h]⟩
    | j + 2, h =>
      have h' : (xs.flatMap fun x => [Value.int .i64 x.1, Value.int .i64 x.2])[j]? = some u := by simpa using h
      obtain ⟨y, h1, h2⟩ := pairs_at xs j u h'
      refine ⟨y, ?_, ?_⟩
      · rw [show (j + 2) / 2 = j / 2 + 1 by omega]; simpa using h1
      · rw [show (j + 2) % 2 = j % 2 by omega]; exact h2

theorem arg_pairs {e q : TypeId} {b0 : Nat} (ht : P.underlying t = some (.slice e)) (he : P.underlying e = some (.array 2 q)) (hq : P.underlying q = some (.int .i64)) (hc : P.cellsOf e = 2) (hcq : P.cellsOf q = 1) (hval : Value.okWide P W .any b0 t v) (h : DataW.Trod enc P W base sp held t v d ps) :
    ∃ xs : List (Int × Int), R (hpOf W) v xs := by
  obtain ⟨n, hn⟩ := arg_slice ht hval h
  rcases Go.Deep.open_slice ht hn with ⟨h0, _⟩ | ⟨a, len, cap, m, n', D, Pl, h0, _, hlc, _, hm, _, hx⟩
  · simp only [List.cons.injEq, and_true] at h0
    subst h0
    exact ⟨[], none, 0, 0, rfl, rfl, Nat.le_refl _, [], rfl, fun j u hj => by simp at hj⟩
  · simp only [List.cons.injEq, and_true] at h0
    subst h0
    have hlm : len ≤ m := by rw [hm]; split <;> omega
    have each : ∀ i, i < len → ∃ x : Int × Int, W.cell? (a.add (i * 2)) = some (.int .i64 x.1) ∧ W.cell? (a.add (i * 2 + 1)) = some (.int .i64 x.2) := by
      intro i hi
      obtain ⟨cs, h1, h2⟩ := hx i (by omega)
      rw [hc] at h1
      obtain ⟨_, hlen, hcell⟩ := World.cells?_some h1
      obtain ⟨ys, k, _, _, _, hyl, hy⟩ := DataW.trod_array he h2
      match cs, hlen with
      | [u0, u1], _ =>
        have g0 := hy 0 (by omega)
        have g1 := hy 1 (by omega)
        rw [hcq] at g0 g1
        simp only [Nat.zero_mul, List.drop_zero, Nat.one_mul, List.drop_succ_cons, List.take_succ_cons, List.take_zero] at g0 g1
        rw [List.getElem?_eq_getElem (by omega)] at g0 g1
        obtain ⟨x0, hx0, _, _⟩ := DataW.trod_int hq g0
        obtain ⟨x1, hx1, _, _⟩ := DataW.trod_int hq g1
        simp only [List.cons.injEq, and_true] at hx0 hx1
        subst hx0; subst hx1
        have e0 := hcell 0 (by omega)
        have e1 := hcell 1 (by omega)
        rw [Addr.add_add'] at e0 e1
        exact ⟨(x0, x1), by simpa using e0, by simpa using e1⟩
    obtain ⟨X, hX⟩ := Go.Deep.choose_lt each
    refine ⟨(List.range len).map X, some a, len, cap, rfl, by simp, hlc, _, enc_pairs _, fun j u hj => ⟨a, rfl, ?_⟩⟩
    obtain ⟨x, h1, h2⟩ := pairs_at _ _ _ hj
    rw [List.getElem?_map] at h1
    obtain ⟨i, h3, h4⟩ := Option.map_eq_some_iff.1 h1
    obtain ⟨h5, h6⟩ := List.getElem?_eq_some_iff.1 h3
    simp only [List.length_range] at h5
    simp only [List.getElem_range] at h6
    obtain ⟨k1, k2⟩ := hX (j / 2) h5
    rw [← h6] at h4
    rw [h4] at k1 k2
    rw [h2]
    rw [cell_eq] at k1 k2
    by_cases hj2 : j % 2 = 0
    · rw [if_pos hj2, ← k1]; congr 1; congr 1; omega
    · rw [if_neg hj2, ← k2]; congr 1; congr 1; omega

theorem arg_rows {e q : TypeId} {b0 : Nat} (ht : P.underlying t = some (.slice e)) (he : P.underlying e = some (.slice q)) (hq : P.underlying q = some (.int .i64)) (hc : P.cellsOf e = 1) (hcq : P.cellsOf q = 1) (hval : Value.okWide P W .any b0 t v)
    (h : DataW.Trod enc P W base (fun _ => true) held t v d ps) : ∃ xs : List (List Int), R (hpOf W) v xs ∧ ∀ l ∈ xs, ∀ n ∈ l, (Lit.int .i64 n).wf = true := by
  obtain ⟨n, hn⟩ := arg_slice ht hval h
  rcases Go.Deep.open_int_rows ht he hq hc hcq hn with ⟨h0, _⟩ | ⟨a, len, cap, A, L, C, Z, h0, _, hlc, _, _, hx⟩
  · simp only [List.cons.injEq, and_true] at h0
    subst h0
    exact ⟨[], ⟨none, 0, 0, rfl, rfl, Nat.le_refl _, [], rfl, fun j u hj => by simp at hj⟩, fun l hl => by cases hl⟩
  · simp only [List.cons.injEq, and_true] at h0
    subst h0
    have row : ∀ r, r < len → R (hpOf W) (.slice (A r) (L r) (C r)) ((Z r).take (L r)) := by
      intro r hr
      obtain ⟨h1, h2, h3, h4, h5, h6, h7⟩ := hx r (by omega)
      refine ⟨A r, L r, C r, rfl, by rw [List.length_take]; omega, h2, ((Z r).take (L r)).map fun n => .int .i64 n, encs_ints.2 rfl, fun j u hj => ?_⟩
      rw [List.getElem?_map] at hj
      obtain ⟨x, k1, k2⟩ := Option.map_eq_some_iff.1 hj
      have hjl := (List.getElem?_eq_some_iff.1 k1).1
      rw [List.length_take] at hjl
      rw [List.getElem?_take_of_lt (by omega)] at k1
      cases hA : A r with
      | none => have := h6 hA; omega
      | some a' =>
        refine ⟨a', rfl, ?_⟩
        have := (h7 a' hA).2 j (by omega)
        rw [cell_eq] at this
        rw [this, ← k2]
        simp [List.getD, k1]
    refine ⟨(List.range len).map fun r => (Z r).take (L r), ⟨some a, len, cap, rfl, by simp, hlc, (List.range len).map fun r => .slice (A r) (L r) (C r), ?_, fun j u hj => ⟨a, rfl, ?_⟩⟩, ?_⟩
    · have : ∀ (l : List Nat), (∀ r ∈ l, r < len) → encs (hpOf W) (l.map fun r => Value.slice (A r) (L r) (C r)) (l.map fun r => (Z r).take (L r)) := by
        intro l
        induction l with
        | nil => intro _; exact rfl
        | cons r l ih => intro hl; exact ⟨[_], _, rfl, row r (hl r (by simp)), ih fun r' h' => hl r' (List.mem_cons_of_mem _ h')⟩
      exact this _ fun r hr => List.mem_range.1 hr
    · rw [List.getElem?_map] at hj
      obtain ⟨r, k1, k2⟩ := Option.map_eq_some_iff.1 hj
      obtain ⟨h5, h6⟩ := List.getElem?_eq_some_iff.1 k1
      simp only [List.length_range] at h5
      simp only [List.getElem_range] at h6
      have := (hx j (by omega)).1
      rw [cell_eq] at this
      rw [this, ← k2, h6]
    · intro l hl
      obtain ⟨r, hr, rfl⟩ := List.mem_map.1 hl
      intro n hn
      exact (hx r (by have := List.mem_range.1 hr; omega)).2.2.2.2.1 n (List.mem_of_mem_take hn)
end
end Go.Proofs.Ytldmnnloakpjlaa
