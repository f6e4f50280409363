/- Contracts: the laws' own first test, graphed. -/
import Derived.Test.YtldmnnloakpjlaaB14
set_option linter.unusedSimpArgs false
set_option linter.unusedVariables false
set_option maxRecDepth 100000
namespace Go.Proofs.Ytldmnnloakpjlaa
open Go

def E0 : List (Int × Int) := [(0, 1), (1, 0), (1, 2)]
theorem nx0 : newF 3 E0 = ([[1], [0, 2], []], [[1], [0], [1]]) := by decide +kernel
theorem row0 (a : Int) : rowF [[1], [0, 2], []] a = if a = 0 then [1] else if a = 1 then [0, 2] else [] := by
  unfold rowF
  by_cases h : 0 ≤ a ∧ a < ([[1], [0, 2], []] : List (List Int)).length
  · rw [if_pos h]
    simp only [List.length_cons, List.length_nil] at h
    rcases (show a = 0 ∨ a = 1 ∨ a = 2 by omega) with rfl | rfl | rfl <;> rfl
  · rw [if_neg h]
    simp only [List.length_cons, List.length_nil] at h
    rw [if_neg (by omega), if_neg (by omega)]
theorem way2 {b : Int} (h : Way [[1], [0, 2], []] 2 b) : b = 2 := by
  induction h with
  | refl => rfl
  | step _ hc ih =>
    subst ih
    rw [row0] at hc
    simp at hc
theorem part1 {m : Int} (h : IsPart [[1], [0, 2], []] 1 m) : m = 0 := by
  have h01 : (0 : Int) ∈ rowF [[1], [0, 2], []] 1 := by rw [row0]; simp
  have h10 : (1 : Int) ∈ rowF [[1], [0, 2], []] 0 := by rw [row0]; simp
  have h1 := h.2 0 ⟨.one h01, .one h10⟩
  have hg : GoodRows 3 [[1], [0, 2], []] := by have := (newF_graph 3 E0).nx; rw [nx0] at this; exact this
  have h2 := okN_iff.1 (way_ok hg h.1.1 (by decide))
  omega
theorem part2 {m : Int} (h : IsPart [[1], [0, 2], []] 2 m) : m = 2 := way2 h.1.1
theorem reach2 {r : List Int} (h : SetOf r (Rch [[1], [0, 2], []] [2])) : r = [2] := by
  have h2 : SetOf [2] (fun b => b = 2) := ⟨by simp, fun b => by simp⟩
  refine h.eq h2 fun b => ⟨fun hb => ?_, fun hb => ?_⟩
  · induction hb with
    | base ha _ => simpa using ha
    | step _ hc ih => subst ih; rw [row0] at hc; simp at hc
  · subst hb; exact .base (by simp) (by decide)

theorem enc_pair (h : Hp) (a b : Int) : Rep.enc h [.int .i64 a, .int .i64 b] ((a, b) : Int × Int) := ⟨[.int .i64 a], [.int .i64 b], rfl, rfl, rfl⟩
theorem graphed_any (w : World) : Calls Try.prog 24 #[] w fun e w' => ∃ u, e = .returned u ∧ (u = .bool true ∧ Ext w w') := by
  refine calls_of_CW (args := []) hm Try.func24 rfl (by kernel_rfl) (by show 0 ≤ _; decide +kernel) ?_
  have hbp : ∀ a b : Int, buildV Try.prog 38 [(0, .int .i64 a), (1, .int .i64 b)] = some (.agg #[.int .i64 a, .int .i64 b]) := fun a b => by
    simp [buildV, tyM38, fillL, Instr.fill, Value.cells]
  obtain ⟨ve, w1, hlit, hov, hx1, _⟩ := lit (P := Try.prog) (w := w) (h := hpOf w) (α := Int × Int) (xs := [.agg #[.int .i64 0, .int .i64 1], .agg #[.int .i64 1, .int .i64 0], .agg #[.int .i64 1, .int .i64 2]]) (ys := E0)
    (parts := #[(0, .agg #[.int .i64 0, .int .i64 1]), (1, .agg #[.int .i64 1, .int .i64 0]), (2, .agg #[.int .i64 1, .int .i64 2])]) (n := 3) sokP rfl
    ⟨[.int .i64 0, .int .i64 1], _, rfl, enc_pair _ _ _, [.int .i64 1, .int .i64 0], _, rfl, enc_pair _ _ _, [.int .i64 1, .int .i64 2], _, rfl, enc_pair _ _ _, rfl⟩
    (by simp [Value.cells]) rfl rfl (by simp) (by simp) (hle_refl _)
  simp only [CW_seq, CW_skip, CW_cond, CW_block, CW_loop, CW_reg, CW_draw, CW_exit, CW_ret, thenF_n, thenF_nK, thenF_r, thenF_x, blockF_n, blockF_nK, blockF_r, blockF_x, condF_t, condF_f, Rn_nil, Rn_ng, Rn_g, oneStep_g, os_move, os_assign, os_pick, os_bin, os_un, os_fieldAddr, os_field, os_indexAddr, os_index, os_slice, os_extract, os_nilCheck, os_makeFunc, os_build, os_len, os_cap, os_convert, os_min, os_max, on_load, on_buildSlice, on_alloc, on_box, on_makeSlice, on_lookup, mn_convert, mn_bin, optP_n, on_append, on_copy, on_store, on_call, ev, updo, upd, optP_s, resP_ok, resU_ok, ↓reduceIte, Nat.reduceEqDiff, List.map_cons, List.map_nil, List.map_toArray, argU, Nat.reduceAdd, gval_slot, gslot, List.getElem?_toArray, List.getElem?_cons_zero, List.getElem?_cons_succ, Option.bind_some, Option.some.injEq, reduceCtorEq, Bool.false_eq_true, Bool.true_eq_false, Option.map_some, Option.map_none, Int.toNat_zero, Option.isNone_none, Option.isNone_some, add_zero', binV, binI, unV, fieldV, extV, idxV, indexV, sliceV, lenV, capV, convV, min2V, max2V, TY, Option.isSome_some, Bool.true_and, Bool.and_true, Nat.mul_one, Int.toNat_natCast, le0n, Flat.val, Int.reduceToNat, Int.reduceLE, Int.reduceLT, Int.cast_ofNat_Int, decide_true, add_lit, Nat.zero_add, Nat.zero_mul, Nat.one_mul, Bool.not_true, Bool.not_false, hbp, hlit]
  refine callP (by kernel_rfl : hasBody Try.prog 26 = true) (new_any 3 ve E0 w1 (by omega) (hov.rw_ (hle_ext hx1)) (by simp [E0])) ?_
  rintro pg w2 ⟨⟨M, hgo⟩, hx2⟩
  have hgr := (newF_graph 3 E0)
  rw [nx0] at hgo hgr
  simp only at hgo
  have hr := hgo.read (hle_ext hx2)
  simp only [CW_seq, CW_skip, CW_cond, CW_block, CW_loop, CW_reg, CW_draw, CW_exit, CW_ret, thenF_n, thenF_nK, thenF_r, thenF_x, blockF_n, blockF_nK, blockF_r, blockF_x, condF_t, condF_f, Rn_nil, Rn_ng, Rn_g, oneStep_g, os_move, os_assign, os_pick, os_bin, os_un, os_fieldAddr, os_field, os_indexAddr, os_index, os_slice, os_extract, os_nilCheck, os_makeFunc, os_build, os_len, os_cap, os_convert, os_min, os_max, on_load, on_buildSlice, on_alloc, on_box, on_makeSlice, on_lookup, mn_convert, mn_bin, optP_n, on_append, on_copy, on_store, on_call, ev, updo, upd, optP_s, resP_ok, resU_ok, ↓reduceIte, Nat.reduceEqDiff, List.map_cons, List.map_nil, List.map_toArray, argU, Nat.reduceAdd, gval_slot, gslot, List.getElem?_toArray, List.getElem?_cons_zero, List.getElem?_cons_succ, Option.bind_some, Option.some.injEq, reduceCtorEq, Bool.false_eq_true, Bool.true_eq_false, Option.map_some, Option.map_none, Int.toNat_zero, Option.isNone_none, Option.isNone_some, add_zero', binV, binI, unV, fieldV, extV, idxV, indexV, sliceV, lenV, capV, convV, min2V, max2V, TY, Option.isSome_some, Bool.true_and, Bool.and_true, Nat.mul_one, Int.toNat_natCast, le0n, Flat.val, Int.reduceToNat, Int.reduceLE, Int.reduceLT, Int.cast_ofNat_Int, decide_true, add_lit, Nat.zero_add, Nat.zero_mul, Nat.one_mul, Bool.not_true, Bool.not_false]
  refine callP (by kernel_rfl : hasBody Try.prog 32 = true) (Len_any pg _ _ w2 hr) ?_
  rintro u w3 ⟨rfl, rfl⟩
  have c1 : ((([[1], [0, 2], []] : List (List Int)).length : Int) == 3) = true := rfl
  have hgx : GoodRows ([[1], [0, 2], []] : List (List Int)).length [[1], [0, 2], []] := hgr.nx
  have hok : ∀ a : Int, okN ([[1], [0, 2], []] : List (List Int)).length a = okN 3 a := fun _ => rfl
  simp only [CW_seq, CW_skip, CW_cond, CW_block, CW_loop, CW_reg, CW_draw, CW_exit, CW_ret, thenF_n, thenF_nK, thenF_r, thenF_x, blockF_n, blockF_nK, blockF_r, blockF_x, condF_t, condF_f, Rn_nil, Rn_ng, Rn_g, oneStep_g, os_move, os_assign, os_pick, os_bin, os_un, os_fieldAddr, os_field, os_indexAddr, os_index, os_slice, os_extract, os_nilCheck, os_makeFunc, os_build, os_len, os_cap, os_convert, os_min, os_max, on_load, on_buildSlice, on_alloc, on_box, on_makeSlice, on_lookup, mn_convert, mn_bin, optP_n, on_append, on_copy, on_store, on_call, ev, updo, upd, optP_s, resP_ok, resU_ok, ↓reduceIte, Nat.reduceEqDiff, List.map_cons, List.map_nil, List.map_toArray, argU, Nat.reduceAdd, gval_slot, gslot, List.getElem?_toArray, List.getElem?_cons_zero, List.getElem?_cons_succ, Option.bind_some, Option.some.injEq, reduceCtorEq, Bool.false_eq_true, Bool.true_eq_false, Option.map_some, Option.map_none, Int.toNat_zero, Option.isNone_none, Option.isNone_some, add_zero', binV, binI, unV, fieldV, extV, idxV, indexV, sliceV, lenV, capV, convV, min2V, max2V, TY, Option.isSome_some, Bool.true_and, Bool.and_true, Nat.mul_one, Int.toNat_natCast, le0n, Flat.val, Int.reduceToNat, Int.reduceLE, Int.reduceLT, Int.cast_ofNat_Int, decide_true, add_lit, Nat.zero_add, Nat.zero_mul, Nat.one_mul, Bool.not_true, Bool.not_false, c1]
  refine callP (by kernel_rfl : hasBody Try.prog 33 = true) (Next_any pg _ _ 1 w3 hr rfl (fun x hx => Nat.le_trans (hgx.row_len hx) (by simp))) ?_
  rintro u1 w4 ⟨ho1, hx4⟩
  have hr4 := hr.mono (hle_ext hx4)
  rw [row0] at ho1
  have l1 := ho1.vlen
  have s1 := ho1.isS
  have c2 : ((([0, 2] : List Int).length : Int) == 2) = true := rfl
  simp only [Int.reduceEq, if_false, if_true] at l1
  simp only [CW_seq, CW_skip, CW_cond, CW_block, CW_loop, CW_reg, CW_draw, CW_exit, CW_ret, thenF_n, thenF_nK, thenF_r, thenF_x, blockF_n, blockF_nK, blockF_r, blockF_x, condF_t, condF_f, Rn_nil, Rn_ng, Rn_g, oneStep_g, os_move, os_assign, os_pick, os_bin, os_un, os_fieldAddr, os_field, os_indexAddr, os_index, os_slice, os_extract, os_nilCheck, os_makeFunc, os_build, os_len, os_cap, os_convert, os_min, os_max, on_load, on_buildSlice, on_alloc, on_box, on_makeSlice, on_lookup, mn_convert, mn_bin, optP_n, on_append, on_copy, on_store, on_call, ev, updo, upd, optP_s, resP_ok, resU_ok, ↓reduceIte, Nat.reduceEqDiff, List.map_cons, List.map_nil, List.map_toArray, argU, Nat.reduceAdd, gval_slot, gslot, List.getElem?_toArray, List.getElem?_cons_zero, List.getElem?_cons_succ, Option.bind_some, Option.some.injEq, reduceCtorEq, Bool.false_eq_true, Bool.true_eq_false, Option.map_some, Option.map_none, Int.toNat_zero, Option.isNone_none, Option.isNone_some, add_zero', binV, binI, unV, fieldV, extV, idxV, indexV, sliceV, lenV, capV, convV, min2V, max2V, TY, Option.isSome_some, Bool.true_and, Bool.and_true, Nat.mul_one, Int.toNat_natCast, le0n, Flat.val, Int.reduceToNat, Int.reduceLE, Int.reduceLT, Int.cast_ofNat_Int, decide_true, add_lit, Nat.zero_add, Nat.zero_mul, Nat.one_mul, Bool.not_true, Bool.not_false, c1, s1, l1, c2]
  refine callP (by kernel_rfl : hasBody Try.prog 30 = true) (Parts_any pg _ _ w4 hr4 hgr (by simp)) ?_
  rintro u2 w5 ⟨⟨p, ho2, hp2, hpp⟩, hx5⟩
  have hr5 := hr4.mono (hle_ext hx5)
  have l2 := ho2.vlen
  have s2 := ho2.isS
  have c3 : ((p.length : Int) == 3) = true := by rw [hp2]; rfl
  simp only [CW_seq, CW_skip, CW_cond, CW_block, CW_loop, CW_reg, CW_draw, CW_exit, CW_ret, thenF_n, thenF_nK, thenF_r, thenF_x, blockF_n, blockF_nK, blockF_r, blockF_x, condF_t, condF_f, Rn_nil, Rn_ng, Rn_g, oneStep_g, os_move, os_assign, os_pick, os_bin, os_un, os_fieldAddr, os_field, os_indexAddr, os_index, os_slice, os_extract, os_nilCheck, os_makeFunc, os_build, os_len, os_cap, os_convert, os_min, os_max, on_load, on_buildSlice, on_alloc, on_box, on_makeSlice, on_lookup, mn_convert, mn_bin, optP_n, on_append, on_copy, on_store, on_call, ev, updo, upd, optP_s, resP_ok, resU_ok, ↓reduceIte, Nat.reduceEqDiff, List.map_cons, List.map_nil, List.map_toArray, argU, Nat.reduceAdd, gval_slot, gslot, List.getElem?_toArray, List.getElem?_cons_zero, List.getElem?_cons_succ, Option.bind_some, Option.some.injEq, reduceCtorEq, Bool.false_eq_true, Bool.true_eq_false, Option.map_some, Option.map_none, Int.toNat_zero, Option.isNone_none, Option.isNone_some, add_zero', binV, binI, unV, fieldV, extV, idxV, indexV, sliceV, lenV, capV, convV, min2V, max2V, TY, Option.isSome_some, Bool.true_and, Bool.and_true, Nat.mul_one, Int.toNat_natCast, le0n, Flat.val, Int.reduceToNat, Int.reduceLE, Int.reduceLT, Int.cast_ofNat_Int, decide_true, add_lit, Nat.zero_add, Nat.zero_mul, Nat.one_mul, Bool.not_true, Bool.not_false, c1, s1, l1, c2, s2, l2, c3]
  refine callP (by kernel_rfl : hasBody Try.prog 30 = true) (Parts_any pg _ _ w5 hr5 hgr (by simp)) ?_
  rintro u3 w6 ⟨⟨p3, ho3, hp3, hpp3⟩, hx6⟩
  have hr6 := hr5.mono (hle_ext hx6)
  have s3 := ho3.isS
  have i3 := ho3.inS (k := 1) (by rw [hp3]; simp)
  have e3 := part1 (hpp3 1 (by decide))
  have ld3 := own_ld_flat (P := Try.prog) (t := 3) ho3 (k := 1) (x := 0) (by
    have h9 : p3[1]? = some (ai p3 1) := by
      have : 1 < p3.length := by rw [hp3]; simp
      simp [ai, List.getD, this]
    rw [h9, e3]) tyG3
  have c4 : ((0 : Int) == 0) = true := rfl
  simp only [CW_seq, CW_skip, CW_cond, CW_block, CW_loop, CW_reg, CW_draw, CW_exit, CW_ret, thenF_n, thenF_nK, thenF_r, thenF_x, blockF_n, blockF_nK, blockF_r, blockF_x, condF_t, condF_f, Rn_nil, Rn_ng, Rn_g, oneStep_g, os_move, os_assign, os_pick, os_bin, os_un, os_fieldAddr, os_field, os_indexAddr, os_index, os_slice, os_extract, os_nilCheck, os_makeFunc, os_build, os_len, os_cap, os_convert, os_min, os_max, on_load, on_buildSlice, on_alloc, on_box, on_makeSlice, on_lookup, mn_convert, mn_bin, optP_n, on_append, on_copy, on_store, on_call, ev, updo, upd, optP_s, resP_ok, resU_ok, ↓reduceIte, Nat.reduceEqDiff, List.map_cons, List.map_nil, List.map_toArray, argU, Nat.reduceAdd, gval_slot, gslot, List.getElem?_toArray, List.getElem?_cons_zero, List.getElem?_cons_succ, Option.bind_some, Option.some.injEq, reduceCtorEq, Bool.false_eq_true, Bool.true_eq_false, Option.map_some, Option.map_none, Int.toNat_zero, Option.isNone_none, Option.isNone_some, add_zero', binV, binI, unV, fieldV, extV, idxV, indexV, sliceV, lenV, capV, convV, min2V, max2V, TY, Option.isSome_some, Bool.true_and, Bool.and_true, Nat.mul_one, Int.toNat_natCast, le0n, Flat.val, Int.reduceToNat, Int.reduceLE, Int.reduceLT, Int.cast_ofNat_Int, decide_true, add_lit, Nat.zero_add, Nat.zero_mul, Nat.one_mul, Bool.not_true, Bool.not_false, c1, s1, l1, c2, s2, l2, c3, s3, i3, ld3, c4]
  refine callP (by kernel_rfl : hasBody Try.prog 30 = true) (Parts_any pg _ _ w6 hr6 hgr (by simp)) ?_
  rintro u4 w7 ⟨⟨p4, ho4, hp4, hpp4⟩, hx7⟩
  have hr7 := hr6.mono (hle_ext hx7)
  have s4 := ho4.isS
  have i4 := ho4.inS (k := 2) (by rw [hp4]; simp)
  have e4 := part2 (hpp4 2 (by decide))
  have ld4 := own_ld_flat (P := Try.prog) (t := 3) ho4 (k := 2) (x := 2) (by
    have h9 : p4[2]? = some (ai p4 2) := by
      have : 2 < p4.length := by rw [hp4]; simp
      simp [ai, List.getD, this]
    rw [h9, e4]) tyG3
  have c5 : ((2 : Int) == 2) = true := rfl
  obtain ⟨vt, w8, hlit8, hot8, hxt8, _⟩ := lit (P := Try.prog) (w := w7) (h := hpOf w7) (α := Int) (xs := [.int .i64 2]) (ys := [2]) (parts := #[(0, .int .i64 2)]) (n := 1) sokI rfl (encs_ints.2 rfl) (by simp [Value.cells]) rfl rfl (by simp) (by simp) (hle_refl _)
  have hr8 := hr7.mono (hle_ext hxt8)
  simp only [CW_seq, CW_skip, CW_cond, CW_block, CW_loop, CW_reg, CW_draw, CW_exit, CW_ret, thenF_n, thenF_nK, thenF_r, thenF_x, blockF_n, blockF_nK, blockF_r, blockF_x, condF_t, condF_f, Rn_nil, Rn_ng, Rn_g, oneStep_g, os_move, os_assign, os_pick, os_bin, os_un, os_fieldAddr, os_field, os_indexAddr, os_index, os_slice, os_extract, os_nilCheck, os_makeFunc, os_build, os_len, os_cap, os_convert, os_min, os_max, on_load, on_buildSlice, on_alloc, on_box, on_makeSlice, on_lookup, mn_convert, mn_bin, optP_n, on_append, on_copy, on_store, on_call, ev, updo, upd, optP_s, resP_ok, resU_ok, ↓reduceIte, Nat.reduceEqDiff, List.map_cons, List.map_nil, List.map_toArray, argU, Nat.reduceAdd, gval_slot, gslot, List.getElem?_toArray, List.getElem?_cons_zero, List.getElem?_cons_succ, Option.bind_some, Option.some.injEq, reduceCtorEq, Bool.false_eq_true, Bool.true_eq_false, Option.map_some, Option.map_none, Int.toNat_zero, Option.isNone_none, Option.isNone_some, add_zero', binV, binI, unV, fieldV, extV, idxV, indexV, sliceV, lenV, capV, convV, min2V, max2V, TY, Option.isSome_some, Bool.true_and, Bool.and_true, Nat.mul_one, Int.toNat_natCast, le0n, Flat.val, Int.reduceToNat, Int.reduceLE, Int.reduceLT, Int.cast_ofNat_Int, decide_true, add_lit, Nat.zero_add, Nat.zero_mul, Nat.one_mul, Bool.not_true, Bool.not_false, c1, s1, l1, c2, s2, l2, c3, s3, i3, ld3, c4, s4, i4, ld4, c5, hlit8]
  refine callP (by kernel_rfl : hasBody Try.prog 27 = true) (Reach_any pg _ _ vt [2] w8 hr8 hgx (by simp) (hot8.rw_ (hle_ext hxt8)) (by simp)) ?_
  rintro u5 w9 ⟨⟨r, ho5, hset⟩, hx9⟩
  have hr1 := reach2 hset
  subst hr1
  have s5 := ho5.isS
  have l5 := ho5.vlen
  have c6 : ((([2] : List Int).length : Int) == 1) = true := rfl
  simp only [CW_seq, CW_skip, CW_cond, CW_block, CW_loop, CW_reg, CW_draw, CW_exit, CW_ret, thenF_n, thenF_nK, thenF_r, thenF_x, blockF_n, blockF_nK, blockF_r, blockF_x, condF_t, condF_f, Rn_nil, Rn_ng, Rn_g, oneStep_g, os_move, os_assign, os_pick, os_bin, os_un, os_fieldAddr, os_field, os_indexAddr, os_index, os_slice, os_extract, os_nilCheck, os_makeFunc, os_build, os_len, os_cap, os_convert, os_min, os_max, on_load, on_buildSlice, on_alloc, on_box, on_makeSlice, on_lookup, mn_convert, mn_bin, optP_n, on_append, on_copy, on_store, on_call, ev, updo, upd, optP_s, resP_ok, resU_ok, ↓reduceIte, Nat.reduceEqDiff, List.map_cons, List.map_nil, List.map_toArray, argU, Nat.reduceAdd, gval_slot, gslot, List.getElem?_toArray, List.getElem?_cons_zero, List.getElem?_cons_succ, Option.bind_some, Option.some.injEq, reduceCtorEq, Bool.false_eq_true, Bool.true_eq_false, Option.map_some, Option.map_none, Int.toNat_zero, Option.isNone_none, Option.isNone_some, add_zero', binV, binI, unV, fieldV, extV, idxV, indexV, sliceV, lenV, capV, convV, min2V, max2V, TY, Option.isSome_some, Bool.true_and, Bool.and_true, Nat.mul_one, Int.toNat_natCast, le0n, Flat.val, Int.reduceToNat, Int.reduceLE, Int.reduceLT, Int.cast_ofNat_Int, decide_true, add_lit, Nat.zero_add, Nat.zero_mul, Nat.one_mul, Bool.not_true, Bool.not_false, c1, s1, l1, c2, s2, l2, c3, s3, i3, ld3, c4, s4, i4, ld4, c5, s5, l5, c6]
  refine retq1 Try.results24 ?_
  simp only [upd, ↓reduceIte, Nat.reduceEqDiff]
  exact ⟨by trivial, ((((((hx1.trans hx2).trans hx4).trans hx5).trans hx6).trans hx7).trans hxt8).trans hx9⟩
end Go.Proofs.Ytldmnnloakpjlaa
