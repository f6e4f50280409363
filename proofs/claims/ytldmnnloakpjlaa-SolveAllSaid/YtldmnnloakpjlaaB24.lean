/- Contract: whittlerlaw19.solved. -/
import Derived.Test.YtldmnnloakpjlaaB23
set_option linter.unusedSimpArgs false
set_option linter.unusedVariables false
set_option maxRecDepth 100000
namespace Go.Proofs.Ytldmnnloakpjlaa
open Go

/-- 's, ok := solve.Of(..)': the solution in a block of its own. -/
theorem solV (w : World) {vi : Value} (T : Int) (h1 : isS vi = true) :
    (Instr.alloc 27 true (.tuple #[])).run Try.prog w = .ok (.pointer (some ⟨w.heap.size, 0, none⟩)) (w.alloc (.cells #[.slice none 0 0, .int .i64 0] 27)) ∧
    (Instr.storeAt 27 (.pointer (some ⟨w.heap.size, 0, none⟩)) (.agg #[vi, .int .i64 T])).run Try.prog (w.alloc (.cells #[.slice none 0 0, .int .i64 0] 27)) =
      .ok () (w.alloc (.cells #[vi, .int .i64 T] 27)) :=
  locV (P := Try.prog) (T := 27) tyZ27 (by rw [tyS27]; rfl) (cs := #[vi, .int .i64 T]) (by rw [tyS27]; rfl) (by
    intro u hu
    simp at hu
    rcases hu with rfl | rfl
    · exact isS_one h1
    · rfl)
theorem sol_In {w w' : World} {vi : Value} {T : Int} (hx : Ext (w.alloc (.cells #[vi, .int .i64 T] 27)) w') :
    (Instr.loadAt 23 (.pointer (some ⟨w.heap.size, 0, none⟩))).run Try.prog w' = .ok vi w' :=
  blk_ld (T := 27) (cs := #[vi, .int .i64 T]) (i := 0) ((hx.block _ (by simp) id).trans (heap_alloc_new w _)) rfl tyG23
theorem sol_Times {w w' : World} {vi : Value} {T : Int} (hx : Ext (w.alloc (.cells #[vi, .int .i64 T] 27)) w') :
    (Instr.loadAt 3 (.pointer (some ⟨w.heap.size, 1, none⟩))).run Try.prog w' = .ok (.int .i64 T) w' :=
  blk_ld (T := 27) (cs := #[vi, .int .i64 T]) (i := 1) ((hx.block _ (by simp) id).trans (heap_alloc_new w _)) rfl tyG3

def st1 : List (Int × Int) := [(0, 1), (1, 2)]
def gl1 : List (List Int) := [[1], [0], []]
def kl1 : List (List Int) := [[], [1], []]
theorem nx1 : (newF 3 st1).1 = [[1], [2], []] := by decide +kernel
theorem row3 {x y z : List Int} (a : Int) : rowF [x, y, z] a = if a = 0 then x else if a = 1 then y else if a = 2 then z else [] := by
  unfold rowF
  by_cases h : 0 ≤ a ∧ a < ([x, y, z] : List (List Int)).length
  · rw [if_pos h]
    simp only [List.length_cons, List.length_nil] at h
    rcases (show a = 0 ∨ a = 1 ∨ a = 2 by omega) with rfl | rfl | rfl <;> rfl
  · rw [if_neg h]
    simp only [List.length_cons, List.length_nil] at h
    rw [if_neg (by omega), if_neg (by omega), if_neg (by omega)]
theorem comes1 {b : Int} {f : Nat} (h : Comes [[1], [2], []] gl1 kl1 b f) : (b = 1 ∧ f = 1) ∨ (b = 2 ∧ f = 0) := by
  have key : ∀ {a b : Int}, b ∈ rowF [[1], [2], []] a → (a = 0 ∧ b = 1) ∨ (a = 1 ∧ b = 2) := by
    intro a b h
    rw [row3] at h
    by_cases h0 : a = 0
    · rw [if_pos h0] at h; simp at h; exact .inl ⟨h0, h⟩
    · rw [if_neg h0] at h
      by_cases h1 : a = 1
      · rw [if_pos h1] at h; simp at h; exact .inr ⟨h1, h⟩
      · rw [if_neg h1] at h; split at h <;> simp at h
  induction h with
  | gen h1 h2 =>
    unfold gl1 at h2
    rw [row3] at h2
    rcases key h1 with ⟨rfl, rfl⟩ | ⟨rfl, rfl⟩
    · simp at h2; exact .inl ⟨rfl, by omega⟩
    · simp at h2; exact .inr ⟨rfl, by omega⟩
  | step h1 _ h3 ih =>
    unfold kl1 at h3
    rw [row3] at h3
    rcases key h1 with ⟨rfl, rfl⟩ | ⟨rfl, rfl⟩
    · rcases ih with ⟨h, _⟩ | ⟨h, _⟩ <;> simp at h
    · rcases ih with ⟨_, h⟩ | ⟨h, _⟩
      · subst h; simp at h3
      · simp at h
theorem comes1a : Comes [[1], [2], []] gl1 kl1 1 1 := .gen (a := 0) (by decide +kernel) (by decide +kernel)
theorem comes1b : Comes [[1], [2], []] gl1 kl1 2 0 := .gen (a := 1) (by decide +kernel) (by decide +kernel)
theorem sol1 {sol : List (List Int)} {T : Nat} (h : SolOk [[1], [2], []] gl1 kl1 2 sol T) : rowF sol 0 = [] ∧ rowF sol 1 = [1] ∧ rowF sol 2 = [0] := by
  have e : List.range 2 = [0, 1] := rfl
  refine ⟨?_, ?_, ?_⟩
  · obtain ⟨f, h1, h2⟩ := h.row 0 (by decide)
    have f0 : f 0 = false := Bool.eq_false_iff.2 fun hf => by rcases comes1 ((h2 0).1 hf) with ⟨h, _⟩ | ⟨h, _⟩ <;> simp at h
    have f1 : f 1 = false := Bool.eq_false_iff.2 fun hf => by rcases comes1 ((h2 1).1 hf) with ⟨h, _⟩ | ⟨h, _⟩ <;> simp at h
    rw [h1, e]; simp [f0, f1]
  · obtain ⟨f, h1, h2⟩ := h.row 1 (by decide)
    have f0 : f 0 = false := Bool.eq_false_iff.2 fun hf => by rcases comes1 ((h2 0).1 hf) with ⟨_, h⟩ | ⟨h, _⟩ <;> simp at h
    have f1 : f 1 = true := (h2 1).2 comes1a
    rw [h1, e]; simp [f0, f1]
  · obtain ⟨f, h1, h2⟩ := h.row 2 (by decide)
    have f0 : f 0 = true := (h2 0).2 comes1b
    have f1 : f 1 = false := Bool.eq_false_iff.2 fun hf => by rcases comes1 ((h2 1).1 hf) with ⟨h, _⟩ | ⟨_, h⟩ <;> simp at h
    rw [h1, e]; simp [f0, f1]
theorem ok1 : OfOk 3 st1 gl1 kl1 2 := by
  refine ⟨by decide, by decide, by decide, by decide, by decide, by decide, ?_, ?_, ?_⟩
  · intro s hs
    simp [st1] at hs
    rcases hs with rfl | rfl <;> exact ⟨by decide, by decide, by decide, by decide⟩
  · intro x hx f hf
    simp [gl1] at hx
    rcases hx with rfl | rfl | rfl
    · simp at hf; subst hf; decide
    · simp at hf; subst hf; decide
    · simp at hf
  · intro x hx f hf
    simp [kl1] at hx
    rcases hx with rfl | rfl | rfl
    · simp at hf
    · simp at hf; subst hf; decide
    · simp at hf

theorem solved_any (w : World) : Calls Try.prog 14 #[] w fun e w' => ∃ u, e = .returned u ∧ (u = .bool true ∧ Ext w w') := by
  refine calls_of_CW (args := []) hm Try.func14 rfl (by kernel_rfl) (by show 0 ≤ _; decide +kernel) ?_
  have hbp : ∀ a b : Int, buildV Try.prog 38 [(0, .int .i64 a), (1, .int .i64 b)] = some (.agg #[.int .i64 a, .int .i64 b]) := fun a b => by
    simp [buildV, tyM38, fillL, Instr.fill, Value.cells]
  obtain ⟨vs, w1, b1, o1, x1, _⟩ := lit (P := Try.prog) (w := w) (h := hpOf w) (α := Int × Int) (xs := [.agg #[.int .i64 0, .int .i64 1], .agg #[.int .i64 1, .int .i64 2]]) (ys := st1)
    (parts := #[(0, .agg #[.int .i64 0, .int .i64 1]), (1, .agg #[.int .i64 1, .int .i64 2])]) (n := 2) sokP rfl
    ⟨[.int .i64 0, .int .i64 1], _, rfl, enc_pair _ _ _, [.int .i64 1, .int .i64 2], _, rfl, enc_pair _ _ _, rfl⟩ (by simp [Value.cells]) rfl rfl (by simp) (by simp) (hle_refl _)
  obtain ⟨r1, w2, b2, o2, x2, _⟩ := lit (P := Try.prog) (w := w1) (h := hpOf w1) (α := Int) (xs := [.int .i64 1]) (ys := [1]) (parts := #[(0, .int .i64 1)]) (n := 1) sokI rfl (encs_ints.2 rfl) (by simp [Value.cells]) rfl rfl (by simp) (by simp) (hle_refl _)
  obtain ⟨r2, w3, b3, o3, x3, _⟩ := lit (P := Try.prog) (w := w2) (h := hpOf w2) (α := Int) (xs := [.int .i64 0]) (ys := [0]) (parts := #[(0, .int .i64 0)]) (n := 1) sokI rfl (encs_ints.2 rfl) (by simp [Value.cells]) rfl rfl (by simp) (by simp) (hle_refl _)
  obtain ⟨r3, w4, b4, o4, x4, _⟩ := lit0 (P := Try.prog) (w := w3) (h := hpOf w3) (α := Int) sokI (hle_refl _)
  have R1 : R (hpOf w4) r1 ([1] : List Int) := Rep.mono (hle_ext (x3.trans x4)) (o2.rw_ (hle_ext x2))
  have R2 : R (hpOf w4) r2 ([0] : List Int) := Rep.mono (hle_ext x4) (o3.rw_ (hle_ext x3))
  have R3 : R (hpOf w4) r3 ([] : List Int) := o4.rw_ (hle_ext x4)
  have S1 := R1.isS
  have S2 := R2.isS
  have S3 := R3.isS
  obtain ⟨vg, w5, b5, o5, x5, _⟩ := lit (P := Try.prog) (w := w4) (h := hpOf w4) (α := List Int) (xs := [r1, r2, r3]) (ys := gl1) (parts := #[(0, r1), (1, r2), (2, r3)]) (n := 3) sokL rfl
    (by simp only [List.flatMap_cons, List.flatMap_nil, isS_cells S1, isS_cells S2, isS_cells S3]; exact ⟨[r1], _, rfl, R1, [r2], _, rfl, R2, [r3], [], rfl, R3, rfl⟩) (by simp [isS_cells S1, isS_cells S2, isS_cells S3]) rfl rfl (by simp) (by simp) (hle_refl _)
  obtain ⟨r4, w6, b6, o6, x6, _⟩ := lit0 (P := Try.prog) (w := w5) (h := hpOf w5) (α := Int) sokI (hle_refl _)
  obtain ⟨r5, w7, b7, o7, x7, _⟩ := lit (P := Try.prog) (w := w6) (h := hpOf w6) (α := Int) (xs := [.int .i64 1]) (ys := [1]) (parts := #[(0, .int .i64 1)]) (n := 1) sokI rfl (encs_ints.2 rfl) (by simp [Value.cells]) rfl rfl (by simp) (by simp) (hle_refl _)
  obtain ⟨r6, w8, b8, o8, x8, _⟩ := lit0 (P := Try.prog) (w := w7) (h := hpOf w7) (α := Int) sokI (hle_refl _)
  have R4 : R (hpOf w8) r4 ([] : List Int) := Rep.mono (hle_ext (x7.trans x8)) (o6.rw_ (hle_ext x6))
  have R5 : R (hpOf w8) r5 ([1] : List Int) := Rep.mono (hle_ext x8) (o7.rw_ (hle_ext x7))
  have R6 : R (hpOf w8) r6 ([] : List Int) := o8.rw_ (hle_ext x8)
  have S4 := R4.isS
  have S5 := R5.isS
  have S6 := R6.isS
  obtain ⟨vk, w9, b9, o9, x9, _⟩ := lit (P := Try.prog) (w := w8) (h := hpOf w8) (α := List Int) (xs := [r4, r5, r6]) (ys := kl1) (parts := #[(0, r4), (1, r5), (2, r6)]) (n := 3) sokL rfl
    (by simp only [List.flatMap_cons, List.flatMap_nil, isS_cells S4, isS_cells S5, isS_cells S6]; exact ⟨[r4], _, rfl, R4, [r5], _, rfl, R5, [r6], [], rfl, R6, rfl⟩) (by simp [isS_cells S4, isS_cells S5, isS_cells S6]) rfl rfl (by simp) (by simp) (hle_refl _)
  have x49 := (((x5.trans x6).trans x7).trans x8).trans x9
  have x19 := ((x2.trans x3).trans x4).trans x49
  have Rs : R (hpOf w9) vs st1 := Rep.mono (hle_ext x19) (o1.rw_ (hle_ext x1))
  have Rg : R (hpOf w9) vg gl1 := Rep.mono (hle_ext (((x6.trans x7).trans x8).trans x9)) (o5.rw_ (hle_ext x5))
  have Rk : R (hpOf w9) vk kl1 := o9.rw_ (hle_ext x9)
  simp only [CW_seq, CW_skip, CW_cond, CW_block, CW_loop, CW_reg, CW_draw, CW_exit, CW_ret, thenF_n, thenF_nK, thenF_r, thenF_x, blockF_n, blockF_nK, blockF_r, blockF_x, condF_t, condF_f, Rn_nil, Rn_ng, Rn_g, oneStep_g, os_move, os_assign, os_pick, os_bin, os_un, os_fieldAddr, os_field, os_indexAddr, os_index, os_slice, os_extract, os_nilCheck, os_makeFunc, os_build, os_len, os_cap, os_convert, os_min, os_max, on_load, on_buildSlice, on_alloc, on_box, on_makeSlice, on_lookup, mn_convert, mn_bin, optP_n, on_append, on_copy, on_store, on_call, ev, updo, upd, optP_p, resP_ok, resU_ok, ↓reduceIte, Nat.reduceEqDiff, List.map_cons, List.map_nil, List.map_toArray, argU, Nat.reduceAdd, gval_slot, gslot, List.getElem?_toArray, List.getElem?_cons_zero, List.getElem?_cons_succ, Option.bind_some, Option.some.injEq, reduceCtorEq, Bool.false_eq_true, Bool.true_eq_false, Option.map_some, Option.map_none, Int.toNat_zero, Option.isNone_none, Option.isNone_some, add_zero', binV, binI, unV, fieldV, extV, idxV, indexV, sliceV, lenV, capV, convV, min2V, max2V, TY, Option.isSome_some, Bool.true_and, Bool.and_true, Nat.mul_one, Int.toNat_natCast, le0n, Flat.val, Int.reduceToNat, Int.reduceLE, Int.reduceLT, Int.cast_ofNat_Int, decide_true, add_lit, Nat.zero_add, Nat.zero_mul, Nat.one_mul, Bool.not_true, Bool.not_false, hbp, b1, b2, b3, b4, b5, b6, b7, b8, b9]
  refine callP (by kernel_rfl : hasBody Try.prog 16 = true) (of_any 3 2 vs vg vk st1 gl1 kl1 w9 Rs Rg Rk (by decide) (by decide) (by decide)) ?_
  rintro u w10 ⟨⟨vr, ok, hu, hok1, hok2⟩, x10⟩
  have hok : ok = true := by
    cases ok
    · exact absurd ok1 (hok2 rfl).1
    · rfl
  obtain ⟨_, vi, sol, T, hvr, hRn, hsol⟩ := hok1 hok
  have hR : R (hpOf w10) vi sol := Rep.mono (hpNo_le _ _) hRn
  rw [show ((3 : Int).toNat) = 3 from rfl, show ((2 : Int).toNat) = 2 from rfl, nx1] at hsol
  have hsl : sol.length = 3 := hsol.len
  obtain ⟨q0, q1, q2⟩ := sol1 hsol
  have g0 := (rowF_at (nx := sol) (a := 0) (by rw [hsl]; decide)).1
  have g1 := (rowF_at (nx := sol) (a := 1) (by rw [hsl]; decide)).1
  have g2 := (rowF_at (nx := sol) (a := 2) (by rw [hsl]; decide)).1
  rw [q0, show (0 : Int).toNat = 0 from rfl] at g0
  rw [q1, show (1 : Int).toNat = 1 from rfl] at g1
  rw [q2, show (2 : Int).toNat = 2 from rfl] at g2
  subst hu
  subst hvr
  have Sv := hR.isS
  have nv := hR.vlen
  rw [hsl] at nv
  obtain ⟨p1, p2⟩ := solV w10 (T : Int) Sv
  have hIn := fun w' hx => @sol_In w10 w' vi (T : Int) hx
  have xA := Ext.alloc w10 (.cells #[vi, .int .i64 (T : Int)] 27)
  generalize w10.alloc (.cells #[vi, .int .i64 (T : Int)] 27) = w11 at *
  have l1 := hIn w11 (Mod.refl _)
  have hR11 : R (hpOf w11) vi sol := Rep.mono (hle_ext xA) hR
  obtain ⟨u0, hu0, c0⟩ := hR11.row g0
  obtain ⟨u1, hu1, c1⟩ := hR11.row g1
  obtain ⟨u2, hu2, c2⟩ := hR11.row g2
  have i0 := hR11.inS (k := 0) (by omega)
  have i1 := hR11.inS (k := 1) (by omega)
  have i2 := hR11.inS (k := 2) (by omega)
  have d0 := ld_at (P := Try.prog) (t := 37) c0 (hle_refl _) tyG37
  have d1 := ld_at (P := Try.prog) (t := 37) c1 (hle_refl _) tyG37
  have S0 := hu0.isS
  have n0 := hu0.vlen
  obtain ⟨y1, w12, b12, o12, x12, _⟩ := lit (P := Try.prog) (w := w11) (h := hpOf w11) (α := Int) (xs := [.int .i64 1]) (ys := [1]) (parts := #[(0, .int .i64 1)]) (n := 1) sokI rfl (encs_ints.2 rfl) (by simp [Value.cells]) rfl rfl (by simp) (by simp) (hle_refl _)
  obtain ⟨t, ht⟩ : ∃ t : Bool, t = true := ⟨true, rfl⟩
  obtain ⟨n3, nv3, z3⟩ : ∃ e : Nat, vlen vi = e ∧ ((e : Int) == 3) = true := ⟨_, nv, rfl⟩
  obtain ⟨e0, n00, z0⟩ : ∃ e : Nat, vlen u0 = e ∧ ((e : Int) == 0) = true := ⟨_, n0, rfl⟩
  simp only [CW_seq, CW_skip, CW_cond, CW_block, CW_loop, CW_reg, CW_draw, CW_exit, CW_ret, thenF_n, thenF_nK, thenF_r, thenF_x, blockF_n, blockF_nK, blockF_r, blockF_x, condF_t, condF_f, Rn_nil, Rn_ng, Rn_g, oneStep_g, os_move, os_assign, os_pick, os_bin, os_un, os_fieldAddr, os_field, os_indexAddr, os_index, os_slice, os_extract, os_nilCheck, os_makeFunc, os_build, os_len, os_cap, os_convert, os_min, os_max, on_load, on_buildSlice, on_alloc, on_box, on_makeSlice, on_lookup, mn_convert, mn_bin, optP_n, on_append, on_copy, on_store, on_call, ev, updo, upd, optP_p, resP_ok, resU_ok, ↓reduceIte, Nat.reduceEqDiff, List.map_cons, List.map_nil, List.map_toArray, argU, Nat.reduceAdd, gval_slot, gslot, List.getElem?_toArray, List.getElem?_cons_zero, List.getElem?_cons_succ, Option.bind_some, Option.some.injEq, reduceCtorEq, Bool.false_eq_true, Bool.true_eq_false, Option.map_some, Option.map_none, Int.toNat_zero, Option.isNone_none, Option.isNone_some, add_zero', binV, binI, unV, fieldV, extV, idxV, indexV, sliceV, lenV, capV, convV, min2V, max2V, TY, Option.isSome_some, Bool.true_and, Bool.and_true, Nat.mul_one, Int.toNat_natCast, le0n, Flat.val, Int.reduceToNat, Int.reduceLE, Int.reduceLT, Int.cast_ofNat_Int, decide_true, add_lit, Nat.zero_add, Nat.zero_mul, Nat.one_mul, Bool.not_true, Bool.not_false, p1, p2, hok, l1, Sv, nv3, z3, i0, d0, S0, n00, z0, i1, d1, b12]
  refine callP (by kernel_rfl : hasBody Try.prog 28 = true) (eqInts_any u1 y1 [1] [1] w12 (Rep.mono (hle_ext x12) hu1) (o12.rw_ (hle_ext x12)) (by decide)) ?_
  rintro r w13 ⟨hr, x13⟩
  rw [decide_eq_true rfl, ← ht] at hr
  subst hr
  have x1113 := x12.trans x13
  have l2 := hIn w13 x1113
  have d2 := ld_at (P := Try.prog) (t := 37) c2 (hle_ext x1113) tyG37
  obtain ⟨y2, w14, b14, o14, x14, _⟩ := lit (P := Try.prog) (w := w13) (h := hpOf w13) (α := Int) (xs := [.int .i64 0]) (ys := [0]) (parts := #[(0, .int .i64 0)]) (n := 1) sokI rfl (encs_ints.2 rfl) (by simp [Value.cells]) rfl rfl (by simp) (by simp) (hle_refl _)
  simp only [CW_seq, CW_skip, CW_cond, CW_block, CW_loop, CW_reg, CW_draw, CW_exit, CW_ret, thenF_n, thenF_nK, thenF_r, thenF_x, blockF_n, blockF_nK, blockF_r, blockF_x, condF_t, condF_f, Rn_nil, Rn_ng, Rn_g, oneStep_g, os_move, os_assign, os_pick, os_bin, os_un, os_fieldAddr, os_field, os_indexAddr, os_index, os_slice, os_extract, os_nilCheck, os_makeFunc, os_build, os_len, os_cap, os_convert, os_min, os_max, on_load, on_buildSlice, on_alloc, on_box, on_makeSlice, on_lookup, mn_convert, mn_bin, optP_n, on_append, on_copy, on_store, on_call, ev, updo, upd, optP_p, resP_ok, resU_ok, ↓reduceIte, Nat.reduceEqDiff, List.map_cons, List.map_nil, List.map_toArray, argU, Nat.reduceAdd, gval_slot, gslot, List.getElem?_toArray, List.getElem?_cons_zero, List.getElem?_cons_succ, Option.bind_some, Option.some.injEq, reduceCtorEq, Bool.false_eq_true, Bool.true_eq_false, Option.map_some, Option.map_none, Int.toNat_zero, Option.isNone_none, Option.isNone_some, add_zero', binV, binI, unV, fieldV, extV, idxV, indexV, sliceV, lenV, capV, convV, min2V, max2V, TY, Option.isSome_some, Bool.true_and, Bool.and_true, Nat.mul_one, Int.toNat_natCast, le0n, Flat.val, Int.reduceToNat, Int.reduceLE, Int.reduceLT, Int.cast_ofNat_Int, decide_true, add_lit, Nat.zero_add, Nat.zero_mul, Nat.one_mul, Bool.not_true, Bool.not_false, ht, z3, z0, l2, i2, d2, b14]
  refine callP (by kernel_rfl : hasBody Try.prog 28 = true) (eqInts_any u2 y2 [0] [0] w14 (Rep.mono (hle_ext (x1113.trans x14)) hu2) (o14.rw_ (hle_ext x14)) (by decide)) ?_
  rintro r w15 ⟨hr, x15⟩
  rw [decide_eq_true rfl, ← ht] at hr
  subst hr
  simp only [CW_seq, CW_skip, CW_cond, CW_block, CW_loop, CW_reg, CW_draw, CW_exit, CW_ret, thenF_n, thenF_nK, thenF_r, thenF_x, blockF_n, blockF_nK, blockF_r, blockF_x, condF_t, condF_f, Rn_nil, Rn_ng, Rn_g, oneStep_g, os_move, os_assign, os_pick, os_bin, os_un, os_fieldAddr, os_field, os_indexAddr, os_index, os_slice, os_extract, os_nilCheck, os_makeFunc, os_build, os_len, os_cap, os_convert, os_min, os_max, on_load, on_buildSlice, on_alloc, on_box, on_makeSlice, on_lookup, mn_convert, mn_bin, optP_n, on_append, on_copy, on_store, on_call, ev, updo, upd, optP_p, resP_ok, resU_ok, ↓reduceIte, Nat.reduceEqDiff, List.map_cons, List.map_nil, List.map_toArray, argU, Nat.reduceAdd, gval_slot, gslot, List.getElem?_toArray, List.getElem?_cons_zero, List.getElem?_cons_succ, Option.bind_some, Option.some.injEq, reduceCtorEq, Bool.false_eq_true, Bool.true_eq_false, Option.map_some, Option.map_none, Int.toNat_zero, Option.isNone_none, Option.isNone_some, add_zero', binV, binI, unV, fieldV, extV, idxV, indexV, sliceV, lenV, capV, convV, min2V, max2V, TY, Option.isSome_some, Bool.true_and, Bool.and_true, Nat.mul_one, Int.toNat_natCast, le0n, Flat.val, Int.reduceToNat, Int.reduceLE, Int.reduceLT, Int.cast_ofNat_Int, decide_true, add_lit, Nat.zero_add, Nat.zero_mul, Nat.one_mul, Bool.not_true, Bool.not_false, ht]
  refine retq1 Try.results14 ?_
  simp only [upd, ↓reduceIte, Nat.reduceEqDiff]
  exact ⟨by trivial, (((((x1.trans x19).trans x10).trans xA).trans x1113).trans x14).trans x15⟩
end Go.Proofs.Ytldmnnloakpjlaa
