/- whittlerlaw19.SolveMore: the walk. -/
import Derived.Test.YtldmnnloakpjlaaB26
import Derived.Test.YtldmnnloakpjlaaC16
set_option linter.unusedSimpArgs false
set_option linter.unusedVariables false
set_option maxRecDepth 100000
set_option maxHeartbeats 4000000
namespace Go.Proofs.Ytldmnnloakpjlaa
open Go

theorem SolveMore_walk (n : Int) (v : Value) (st : List (Int × Int)) (vg : Value) (gl : List (List Int)) (vk : Value) (kl : List (List Int)) (most f a b : Int) (w : World) (hv : R (hpOf w) v st) (hvg : R (hpOf w) vg gl) (hvk : R (hpOf w) vk kl) :
    Calls Try.prog 4 #[.int .i64 n, v, vg, vk, .int .i64 most, .int .i64 f, .int .i64 a, .int .i64 b] w fun e w' => ∃ u, e = .returned u ∧ (u = .bool true ∧ Ext w w') := by
  refine calls_of_CW (args := [.int .i64 n, v, vg, vk, .int .i64 most, .int .i64 f, .int .i64 a, .int .i64 b]) hm Try.func4 rfl (by kernel_rfl) (by show 8 ≤ _; decide +kernel) ?_
  obtain ⟨N, hN, hN1, hN10⟩ := one_plus n (m := 10) (by omega) (by omega)
  obtain ⟨M, hM, hM1, hM6⟩ := one_plus most (m := 6) (by omega) (by omega)
  have hN' : IntKind.i64.wrap (1 + modf n 10) = (N : Int) := hN
  have hM' : IntKind.i64.wrap (1 + modf most 6) = (M : Int) := hM
  simp only [CW_seq, CW_skip, CW_cond, CW_block, CW_loop, CW_reg, CW_draw, CW_exit, CW_ret, thenF_n, thenF_nK, thenF_r, thenF_x, blockF_n, blockF_nK, blockF_r, blockF_x, condF_t, condF_f, Rn_nil, Rn_ng, Rn_g, oneStep_g, os_move, os_assign, os_pick, os_bin, os_un, os_fieldAddr, os_field, os_indexAddr, os_index, os_slice, os_extract, os_nilCheck, os_makeFunc, os_build, os_len, os_cap, os_convert, os_min, os_max, on_load, on_buildSlice, on_alloc, on_box, on_makeSlice, on_lookup, mn_convert, mn_bin, optP_n, on_append, on_copy, on_store, on_call, ev, updo, upd, optP_p, resP_ok, resU_ok, ↓reduceIte, Nat.reduceEqDiff, List.map_cons, List.map_nil, List.map_toArray, argU, Nat.reduceAdd, gval_slot, gslot, List.getElem?_toArray, List.getElem?_cons_zero, List.getElem?_cons_succ, Option.bind_some, Option.some.injEq, reduceCtorEq, Bool.false_eq_true, Bool.true_eq_false, Option.map_some, Option.map_none, Int.toNat_zero, Option.isNone_none, Option.isNone_some, add_zero', binV, binI, unV, fieldV, extV, idxV, indexV, sliceV, lenV, capV, convV, min2V, max2V, TY, Option.isSome_some, Bool.true_and, Bool.and_true, Nat.mul_one, Int.toNat_natCast, le0n, Flat.val, Int.reduceToNat, Int.reduceLE, Int.reduceLT, Int.cast_ofNat_Int, decide_true, add_lit, Nat.zero_add, Nat.zero_mul, Nat.one_mul, Bool.not_true, Bool.not_false]
  refine callP (by kernel_rfl : hasBody Try.prog 14 = true) (solved_any w) ?_
  rintro u w1 ⟨rfl, hx1⟩
  simp only [CW_seq, CW_skip, CW_cond, CW_block, CW_loop, CW_reg, CW_draw, CW_exit, CW_ret, thenF_n, thenF_nK, thenF_r, thenF_x, blockF_n, blockF_nK, blockF_r, blockF_x, condF_t, condF_f, Rn_nil, Rn_ng, Rn_g, oneStep_g, os_move, os_assign, os_pick, os_bin, os_un, os_fieldAddr, os_field, os_indexAddr, os_index, os_slice, os_extract, os_nilCheck, os_makeFunc, os_build, os_len, os_cap, os_convert, os_min, os_max, on_load, on_buildSlice, on_alloc, on_box, on_makeSlice, on_lookup, mn_convert, mn_bin, optP_n, on_append, on_copy, on_store, on_call, ev, updo, upd, optP_p, resP_ok, resU_ok, ↓reduceIte, Nat.reduceEqDiff, List.map_cons, List.map_nil, List.map_toArray, argU, Nat.reduceAdd, gval_slot, gslot, List.getElem?_toArray, List.getElem?_cons_zero, List.getElem?_cons_succ, Option.bind_some, Option.some.injEq, reduceCtorEq, Bool.false_eq_true, Bool.true_eq_false, Option.map_some, Option.map_none, Int.toNat_zero, Option.isNone_none, Option.isNone_some, add_zero', binV, binI, unV, fieldV, extV, idxV, indexV, sliceV, lenV, capV, convV, min2V, max2V, TY, Option.isSome_some, Bool.true_and, Bool.and_true, Nat.mul_one, Int.toNat_natCast, le0n, Flat.val, Int.reduceToNat, Int.reduceLE, Int.reduceLT, Int.cast_ofNat_Int, decide_true, add_lit, Nat.zero_add, Nat.zero_mul, Nat.one_mul, Bool.not_true, Bool.not_false]
  refine callP (by kernel_rfl : hasBody Try.prog 19 = true) (mod_any n 10 w1 (by omega)) ?_
  rintro u w1' ⟨hu, hw⟩
  subst hw; subst hu
  simp only [CW_seq, CW_skip, CW_cond, CW_block, CW_loop, CW_reg, CW_draw, CW_exit, CW_ret, thenF_n, thenF_nK, thenF_r, thenF_x, blockF_n, blockF_nK, blockF_r, blockF_x, condF_t, condF_f, Rn_nil, Rn_ng, Rn_g, oneStep_g, os_move, os_assign, os_pick, os_bin, os_un, os_fieldAddr, os_field, os_indexAddr, os_index, os_slice, os_extract, os_nilCheck, os_makeFunc, os_build, os_len, os_cap, os_convert, os_min, os_max, on_load, on_buildSlice, on_alloc, on_box, on_makeSlice, on_lookup, mn_convert, mn_bin, optP_n, on_append, on_copy, on_store, on_call, ev, updo, upd, optP_p, resP_ok, resU_ok, ↓reduceIte, Nat.reduceEqDiff, List.map_cons, List.map_nil, List.map_toArray, argU, Nat.reduceAdd, gval_slot, gslot, List.getElem?_toArray, List.getElem?_cons_zero, List.getElem?_cons_succ, Option.bind_some, Option.some.injEq, reduceCtorEq, Bool.false_eq_true, Bool.true_eq_false, Option.map_some, Option.map_none, Int.toNat_zero, Option.isNone_none, Option.isNone_some, add_zero', binV, binI, unV, fieldV, extV, idxV, indexV, sliceV, lenV, capV, convV, min2V, max2V, TY, Option.isSome_some, Bool.true_and, Bool.and_true, Nat.mul_one, Int.toNat_natCast, le0n, Flat.val, Int.reduceToNat, Int.reduceLE, Int.reduceLT, Int.cast_ofNat_Int, decide_true, add_lit, Nat.zero_add, Nat.zero_mul, Nat.one_mul, Bool.not_true, Bool.not_false, hN']
  refine callP (by kernel_rfl : hasBody Try.prog 19 = true) (mod_any most 6 w1' (by omega)) ?_
  rintro u w1 ⟨hu, hw⟩
  subst hw; subst hu
  have hv1 : R (hpOf w1) v st := Rep.mono (hle_ext hx1) hv
  simp only [CW_seq, CW_skip, CW_cond, CW_block, CW_loop, CW_reg, CW_draw, CW_exit, CW_ret, thenF_n, thenF_nK, thenF_r, thenF_x, blockF_n, blockF_nK, blockF_r, blockF_x, condF_t, condF_f, Rn_nil, Rn_ng, Rn_g, oneStep_g, os_move, os_assign, os_pick, os_bin, os_un, os_fieldAddr, os_field, os_indexAddr, os_index, os_slice, os_extract, os_nilCheck, os_makeFunc, os_build, os_len, os_cap, os_convert, os_min, os_max, on_load, on_buildSlice, on_alloc, on_box, on_makeSlice, on_lookup, mn_convert, mn_bin, optP_n, on_append, on_copy, on_store, on_call, ev, updo, upd, optP_p, resP_ok, resU_ok, ↓reduceIte, Nat.reduceEqDiff, List.map_cons, List.map_nil, List.map_toArray, argU, Nat.reduceAdd, gval_slot, gslot, List.getElem?_toArray, List.getElem?_cons_zero, List.getElem?_cons_succ, Option.bind_some, Option.some.injEq, reduceCtorEq, Bool.false_eq_true, Bool.true_eq_false, Option.map_some, Option.map_none, Int.toNat_zero, Option.isNone_none, Option.isNone_some, add_zero', binV, binI, unV, fieldV, extV, idxV, indexV, sliceV, lenV, capV, convV, min2V, max2V, TY, Option.isSome_some, Bool.true_and, Bool.and_true, Nat.mul_one, Int.toNat_natCast, le0n, Flat.val, Int.reduceToNat, Int.reduceLE, Int.reduceLT, Int.cast_ofNat_Int, decide_true, add_lit, Nat.zero_add, Nat.zero_mul, Nat.one_mul, Bool.not_true, Bool.not_false, hN', hM']
  refine callP (by kernel_rfl : hasBody Try.prog 20 = true) (fitSteps_any v st (N : Int) w1 hv1 (by omega) (by omega)) ?_
  rintro us w2 ⟨hos, hx2⟩
  have hvg2 : R (hpOf w2) vg gl := Rep.mono (hle_ext (hx1.trans hx2)) hvg
  simp only [CW_seq, CW_skip, CW_cond, CW_block, CW_loop, CW_regp, CW_draw, CW_exit, CW_ret, thenF_n, thenF_nK, thenF_r, thenF_x, blockF_n, blockF_nK, blockF_r, blockF_x, condF_t, condF_f, Rn_nilp, Rn_ngp, Rn_gp, oneStep_g, os_move, os_assign, os_pick, os_bin, os_un, os_fieldAddr, os_field, os_indexAddr, os_index, os_slice, os_extract, os_nilCheck, os_makeFunc, os_build, os_len, os_cap, os_convert, os_min, os_max, on_load, on_buildSlice, on_alloc, on_box, on_makeSlice, on_lookup, mn_convert, mn_bin, optP_n, on_append, on_copy, on_store, on_call, ev, updo, upd, optP_p, resP_p, resU_p, ↓reduceIte, Nat.reduceEqDiff, List.map_cons, List.map_nil, List.map_toArray, argU, Nat.reduceAdd, gval_slotB, boolO_b, boolO_u, gslot, List.getElem?_toArray, List.getElem?_cons_zero, List.getElem?_cons_succ, Option.bind_some, Option.some.injEq, reduceCtorEq, Bool.false_eq_true, Bool.true_eq_false, Option.map_some, Option.map_none, Int.toNat_zero, Option.isNone_none, Option.isNone_some, add_zero', unV, fieldV, extV, idxV, indexV, sliceV, lenV, capV, convV, min2V, max2V, TY, Option.isSome_some, Bool.true_and, Bool.and_true, Nat.mul_one, Int.toNat_natCast, le0n, Flat.val, Int.reduceToNat, Int.reduceLE, Int.reduceLT, Int.cast_ofNat_Int, decide_true, add_lit, Nat.zero_add, Nat.zero_mul, Nat.one_mul, Bool.not_true, Bool.not_false]
  refine callP (by kernel_rfl : hasBody Try.prog 22 = true) (cut_any vg gl N w2 hvg2 (by omega)) ?_
  rintro uc w3 ⟨hoc, hx3⟩
  simp only [CW_seq, CW_skip, CW_cond, CW_block, CW_loop, CW_regp, CW_draw, CW_exit, CW_ret, thenF_n, thenF_nK, thenF_r, thenF_x, blockF_n, blockF_nK, blockF_r, blockF_x, condF_t, condF_f, Rn_nilp, Rn_ngp, Rn_gp, oneStep_g, os_move, os_assign, os_pick, os_bin, os_un, os_fieldAddr, os_field, os_indexAddr, os_index, os_slice, os_extract, os_nilCheck, os_makeFunc, os_build, os_len, os_cap, os_convert, os_min, os_max, on_load, on_buildSlice, on_alloc, on_box, on_makeSlice, on_lookup, mn_convert, mn_bin, optP_n, on_append, on_copy, on_store, on_call, ev, updo, upd, optP_p, resP_p, resU_p, ↓reduceIte, Nat.reduceEqDiff, List.map_cons, List.map_nil, List.map_toArray, argU, Nat.reduceAdd, gval_slotB, boolO_b, boolO_u, gslot, List.getElem?_toArray, List.getElem?_cons_zero, List.getElem?_cons_succ, Option.bind_some, Option.some.injEq, reduceCtorEq, Bool.false_eq_true, Bool.true_eq_false, Option.map_some, Option.map_none, Int.toNat_zero, Option.isNone_none, Option.isNone_some, add_zero', unV, fieldV, extV, idxV, indexV, sliceV, lenV, capV, convV, min2V, max2V, TY, Option.isSome_some, Bool.true_and, Bool.and_true, Nat.mul_one, Int.toNat_natCast, le0n, Flat.val, Int.reduceToNat, Int.reduceLE, Int.reduceLT, Int.cast_ofNat_Int, decide_true, add_lit, Nat.zero_add, Nat.zero_mul, Nat.one_mul, Bool.not_true, Bool.not_false]
  refine callP (by kernel_rfl : hasBody Try.prog 21 = true) (fit_any uc (cutF gl N) (M : Int) w3 (hoc.rw_ (hle_ext hx3)) (by omega) (by omega) (by rw [cutF_len]; omega) (fun x hx => Nat.le_trans (cutF_rows gl N x hx) (by omega))) ?_
  rintro ug w4 ⟨hRg, hx4⟩
  have hvk4 : R (hpOf w4) vk kl := Rep.mono (hle_ext (((hx1.trans hx2).trans hx3).trans hx4)) hvk
  simp only [CW_seq, CW_skip, CW_cond, CW_block, CW_loop, CW_regp, CW_draw, CW_exit, CW_ret, thenF_n, thenF_nK, thenF_r, thenF_x, blockF_n, blockF_nK, blockF_r, blockF_x, condF_t, condF_f, Rn_nilp, Rn_ngp, Rn_gp, oneStep_g, os_move, os_assign, os_pick, os_bin, os_un, os_fieldAddr, os_field, os_indexAddr, os_index, os_slice, os_extract, os_nilCheck, os_makeFunc, os_build, os_len, os_cap, os_convert, os_min, os_max, on_load, on_buildSlice, on_alloc, on_box, on_makeSlice, on_lookup, mn_convert, mn_bin, optP_n, on_append, on_copy, on_store, on_call, ev, updo, upd, optP_p, resP_p, resU_p, ↓reduceIte, Nat.reduceEqDiff, List.map_cons, List.map_nil, List.map_toArray, argU, Nat.reduceAdd, gval_slotB, boolO_b, boolO_u, gslot, List.getElem?_toArray, List.getElem?_cons_zero, List.getElem?_cons_succ, Option.bind_some, Option.some.injEq, reduceCtorEq, Bool.false_eq_true, Bool.true_eq_false, Option.map_some, Option.map_none, Int.toNat_zero, Option.isNone_none, Option.isNone_some, add_zero', unV, fieldV, extV, idxV, indexV, sliceV, lenV, capV, convV, min2V, max2V, TY, Option.isSome_some, Bool.true_and, Bool.and_true, Nat.mul_one, Int.toNat_natCast, le0n, Flat.val, Int.reduceToNat, Int.reduceLE, Int.reduceLT, Int.cast_ofNat_Int, decide_true, add_lit, Nat.zero_add, Nat.zero_mul, Nat.one_mul, Bool.not_true, Bool.not_false]
  refine callP (by kernel_rfl : hasBody Try.prog 22 = true) (cut_any vk kl N w4 hvk4 (by omega)) ?_
  rintro ud w5 ⟨hod, hx5⟩
  simp only [CW_seq, CW_skip, CW_cond, CW_block, CW_loop, CW_regp, CW_draw, CW_exit, CW_ret, thenF_n, thenF_nK, thenF_r, thenF_x, blockF_n, blockF_nK, blockF_r, blockF_x, condF_t, condF_f, Rn_nilp, Rn_ngp, Rn_gp, oneStep_g, os_move, os_assign, os_pick, os_bin, os_un, os_fieldAddr, os_field, os_indexAddr, os_index, os_slice, os_extract, os_nilCheck, os_makeFunc, os_build, os_len, os_cap, os_convert, os_min, os_max, on_load, on_buildSlice, on_alloc, on_box, on_makeSlice, on_lookup, mn_convert, mn_bin, optP_n, on_append, on_copy, on_store, on_call, ev, updo, upd, optP_p, resP_p, resU_p, ↓reduceIte, Nat.reduceEqDiff, List.map_cons, List.map_nil, List.map_toArray, argU, Nat.reduceAdd, gval_slotB, boolO_b, boolO_u, gslot, List.getElem?_toArray, List.getElem?_cons_zero, List.getElem?_cons_succ, Option.bind_some, Option.some.injEq, reduceCtorEq, Bool.false_eq_true, Bool.true_eq_false, Option.map_some, Option.map_none, Int.toNat_zero, Option.isNone_none, Option.isNone_some, add_zero', unV, fieldV, extV, idxV, indexV, sliceV, lenV, capV, convV, min2V, max2V, TY, Option.isSome_some, Bool.true_and, Bool.and_true, Nat.mul_one, Int.toNat_natCast, le0n, Flat.val, Int.reduceToNat, Int.reduceLE, Int.reduceLT, Int.cast_ofNat_Int, decide_true, add_lit, Nat.zero_add, Nat.zero_mul, Nat.one_mul, Bool.not_true, Bool.not_false]
  refine callP (by kernel_rfl : hasBody Try.prog 21 = true) (fit_any ud (cutF kl N) (M : Int) w5 (hod.rw_ (hle_ext hx5)) (by omega) (by omega) (by rw [cutF_len]; omega) (fun x hx => Nat.le_trans (cutF_rows kl N x hx) (by omega))) ?_
  rintro uk w6 ⟨hRk, hx6⟩
  have hok := fit_ok (N := N) (M := M) (by omega) (by omega) (by omega) (by omega) st gl kl
  have hgl := fitF_rows (m := (M : Int)) (cutF_rows gl N)
  have hkl := fitF_rows (m := (M : Int)) (cutF_rows kl N)
  have hgn : (fitF (M : Int) (cutF gl N)).length = N := by rw [fitF_len, cutF_len]
  have hkn : (fitF (M : Int) (cutF kl N)).length = N := by rw [fitF_len, cutF_len]
  have hsl := fitS_len (N : Int) st
  generalize fitF (M : Int) (cutF gl N) = g at *
  generalize fitF (M : Int) (cutF kl N) = k at *
  generalize fitS (N : Int) st = s at *
  have z2 := hx2.size
  have z3 := hx3.size
  have z4 := hx4.size
  have z5 := hx5.size
  have z6 := hx6.size
  have hx26 := ((hx3.trans hx4).trans hx5).trans hx6
  have kg6 := hRg.keep (hx5.trans hx6) (m0 := w2.heap.size) z3
  have kk6 := hRk.keep (Mod.refl _) (m0 := w2.heap.size) (by omega)
  simp only [CW_seq, CW_skip, CW_cond, CW_block, CW_loop, CW_regp, CW_draw, CW_exit, CW_ret, thenF_n, thenF_nK, thenF_r, thenF_x, blockF_n, blockF_nK, blockF_r, blockF_x, condF_t, condF_f, Rn_nilp, Rn_ngp, Rn_gp, oneStep_g, os_move, os_assign, os_pick, os_bin, os_un, os_fieldAddr, os_field, os_indexAddr, os_index, os_slice, os_extract, os_nilCheck, os_makeFunc, os_build, os_len, os_cap, os_convert, os_min, os_max, on_load, on_buildSlice, on_alloc, on_box, on_makeSlice, on_lookup, mn_convert, mn_bin, optP_n, on_append, on_copy, on_store, on_call, ev, updo, upd, optP_p, resP_p, resU_p, ↓reduceIte, Nat.reduceEqDiff, List.map_cons, List.map_nil, List.map_toArray, argU, Nat.reduceAdd, gval_slotB, boolO_b, boolO_u, gslot, List.getElem?_toArray, List.getElem?_cons_zero, List.getElem?_cons_succ, Option.bind_some, Option.some.injEq, reduceCtorEq, Bool.false_eq_true, Bool.true_eq_false, Option.map_some, Option.map_none, Int.toNat_zero, Option.isNone_none, Option.isNone_some, add_zero', unV, fieldV, extV, idxV, indexV, sliceV, lenV, capV, convV, min2V, max2V, TY, Option.isSome_some, Bool.true_and, Bool.and_true, Nat.mul_one, Int.toNat_natCast, le0n, Flat.val, Int.reduceToNat, Int.reduceLE, Int.reduceLT, Int.cast_ofNat_Int, decide_true, add_lit, Nat.zero_add, Nat.zero_mul, Nat.one_mul, Bool.not_true, Bool.not_false]
  refine callP (by kernel_rfl : hasBody Try.prog 19 = true) (mod_any a (N : Int) w6 (by omega)) ?_
  rintro u w6' ⟨hu, hw⟩
  subst hw; subst hu
  obtain ⟨ha0, haN⟩ := modf_range a (m := (N : Int)) (by omega)
  generalize modf a (N : Int) = a at *
  simp only [CW_seq, CW_skip, CW_cond, CW_block, CW_loop, CW_regp, CW_draw, CW_exit, CW_ret, thenF_n, thenF_nK, thenF_r, thenF_x, blockF_n, blockF_nK, blockF_r, blockF_x, condF_t, condF_f, Rn_nilp, Rn_ngp, Rn_gp, oneStep_g, os_move, os_assign, os_pick, os_bin, os_un, os_fieldAddr, os_field, os_indexAddr, os_index, os_slice, os_extract, os_nilCheck, os_makeFunc, os_build, os_len, os_cap, os_convert, os_min, os_max, on_load, on_buildSlice, on_alloc, on_box, on_makeSlice, on_lookup, mn_convert, mn_bin, optP_n, on_append, on_copy, on_store, on_call, ev, updo, upd, optP_p, resP_p, resU_p, ↓reduceIte, Nat.reduceEqDiff, List.map_cons, List.map_nil, List.map_toArray, argU, Nat.reduceAdd, gval_slotB, boolO_b, boolO_u, gslot, List.getElem?_toArray, List.getElem?_cons_zero, List.getElem?_cons_succ, Option.bind_some, Option.some.injEq, reduceCtorEq, Bool.false_eq_true, Bool.true_eq_false, Option.map_some, Option.map_none, Int.toNat_zero, Option.isNone_none, Option.isNone_some, add_zero', unV, fieldV, extV, idxV, indexV, sliceV, lenV, capV, convV, min2V, max2V, TY, Option.isSome_some, Bool.true_and, Bool.and_true, Nat.mul_one, Int.toNat_natCast, le0n, Flat.val, Int.reduceToNat, Int.reduceLE, Int.reduceLT, Int.cast_ofNat_Int, decide_true, add_lit, Nat.zero_add, Nat.zero_mul, Nat.one_mul, Bool.not_true, Bool.not_false]
  refine callP (by kernel_rfl : hasBody Try.prog 19 = true) (mod_any b (N : Int) w6' (by omega)) ?_
  rintro u w6 ⟨hu, hw⟩
  subst hw; subst hu
  obtain ⟨hb0, hbN⟩ := modf_range b (m := (N : Int)) (by omega)
  generalize modf b (N : Int) = b at *
  have hRs6 : R (hpOf w6) us s := Rep.mono (hle_ext hx26) (hos.rw_ (hle_ext hx2))
  have hRg6 : R (hpOf w6) ug g := Rep.mono (hpNo_le _ _) kg6
  have hRk6 : R (hpOf w6) uk k := Rep.mono (hpNo_le _ _) kk6
  simp only [CW_seq, CW_skip, CW_cond, CW_block, CW_loop, CW_regp, CW_draw, CW_exit, CW_ret, thenF_n, thenF_nK, thenF_r, thenF_x, blockF_n, blockF_nK, blockF_r, blockF_x, condF_t, condF_f, Rn_nilp, Rn_ngp, Rn_gp, oneStep_g, os_move, os_assign, os_pick, os_bin, os_un, os_fieldAddr, os_field, os_indexAddr, os_index, os_slice, os_extract, os_nilCheck, os_makeFunc, os_build, os_len, os_cap, os_convert, os_min, os_max, on_load, on_buildSlice, on_alloc, on_box, on_makeSlice, on_lookup, mn_convert, mn_bin, optP_n, on_append, on_copy, on_store, on_call, ev, updo, upd, optP_p, resP_p, resU_p, ↓reduceIte, Nat.reduceEqDiff, List.map_cons, List.map_nil, List.map_toArray, argU, Nat.reduceAdd, gval_slotB, boolO_b, boolO_u, gslot, List.getElem?_toArray, List.getElem?_cons_zero, List.getElem?_cons_succ, Option.bind_some, Option.some.injEq, reduceCtorEq, Bool.false_eq_true, Bool.true_eq_false, Option.map_some, Option.map_none, Int.toNat_zero, Option.isNone_none, Option.isNone_some, add_zero', unV, fieldV, extV, idxV, indexV, sliceV, lenV, capV, convV, min2V, max2V, TY, Option.isSome_some, Bool.true_and, Bool.and_true, Nat.mul_one, Int.toNat_natCast, le0n, Flat.val, Int.reduceToNat, Int.reduceLE, Int.reduceLT, Int.cast_ofNat_Int, decide_true, add_lit, Nat.zero_add, Nat.zero_mul, Nat.one_mul, Bool.not_true, Bool.not_false]
  refine callP (by kernel_rfl : hasBody Try.prog 16 = true) (of_any (N : Int) (M : Int) us ug uk s g k w6 hRs6 hRg6 hRk6 (by omega) (fun x hx => Nat.le_trans (hgl x hx) (by omega)) (fun x hx => Nat.le_trans (hkl x hx) (by omega))) ?_
  rintro u w8 ⟨⟨vr, ok, hu, ha1, ha2⟩, hx8⟩
  have hokt : ok = true := by
    cases ok
    · exact absurd hok (ha2 rfl).1
    · rfl
  obtain ⟨_, vi, sol, T, hvr, hR, hsol⟩ := ha1 hokt
  subst hu; subst hvr
  have Sv := hR.isS
  have nv := hR.vlen
  obtain ⟨p1, p2⟩ := solV w8 (T : Int) Sv
  have csb := heap_alloc_new w8 (.cells #[vi, .int .i64 (T : Int)] 27)
  have xA := Ext.alloc w8 (.cells #[vi, .int .i64 (T : Int)] 27)
  generalize w8.alloc (.cells #[vi, .int .i64 (T : Int)] 27) = w9 at *
  have z8 := hx8.size
  have z9 := xA.size
  have kg9 := kg6.keep (hx8.trans xA) (m0 := w2.heap.size) (Nat.le_refl _)
  have kk9 := kk6.keep (hx8.trans xA) (m0 := w2.heap.size) (Nat.le_refl _)
  have kv9 := hR.keep xA (m0 := w2.heap.size) (by omega)
  have hka : okN g.length a = true := okN_iff.2 ⟨ha0, by rw [hgn]; exact haN⟩
  have hHle : hle (hpNo w9 (fun b => b < w2.heap.size)) (hpOf w9) := hpNo_le _ _
  -- gen = append([][]int{}, gen...)
  obtain ⟨u0, w10, l1, o1, l2, l3⟩ := lit0 (P := Try.prog) (w := w9) (h := hpNo w9 (fun b => b < w2.heap.size)) (α := List Int) sokL hHle
  obtain ⟨u1, w11, s1, s2, s3, s4⟩ := own_spread (P := Try.prog) (e := 23) sokL rfl o1 kg9 (by simp; omega) (by simp; omega) (hle_trans hHle (hle_ext l2))
  simp only [List.nil_append] at s2
  have x11 : Ext w9 w11 := Mod.ext_of l2 s3 l3
  have fu1 : ∀ b, blk u1 b → w9.heap.size ≤ b := fun b hb => by
    rcases s4 b hb with h | h
    · exact l3 b h
    · have := l2.size; omega
  -- gen[a] = append(append([]int{}, gen[a]...), f)
  obtain ⟨y0, w12, l4, o4, l5, l6⟩ := lit0 (P := Try.prog) (w := w11) (h := hpNo w9 (fun b => b < w2.heap.size)) (α := Int) sokI (hle_trans hHle (hle_ext x11))
  obtain ⟨ur, hur, ldr⟩ := own_ld_list (P := Try.prog) (t := 37) (s2.ext l5) (rowF_at hka).1 tyG37
  have hral : (rowF g a).length ≤ 6 := hgl _ (rowF_mem hka)
  obtain ⟨y1, w13, t1, t2, t3, t4⟩ := own_spread (P := Try.prog) (e := 37) sokI rfl o4 hur (by simp; omega) (by simp; omega) (hle_trans hHle (hle_ext (x11.trans l5)))
  simp only [List.nil_append] at t2
  have x13 : Ext w11 w13 := Mod.ext_of l5 t3 l6
  have fy1 : ∀ b, blk y1 b → w11.heap.size ≤ b := fun b hb => by
    rcases t4 b hb with h | h
    · exact l6 b h
    · have := l5.size; omega
  obtain ⟨F, hF, hFM⟩ := modf_nat f M (by omega)
  obtain ⟨q1, y2, w14, q2, q3, q4, q5⟩ := push (P := Try.prog) (t := 37) (e := 37) sokI rfl t2 (x := .int .i64 (F : Int)) (y := (F : Int)) rfl (by omega) (by omega) (hle_trans hHle (hle_ext (x11.trans x13)))
  simp only [Value.cells] at q1 q2
  have x14 : Ext w11 w14 := Mod.ext_of x13 q4 fy1
  have fy2 : ∀ b, blk y2 b → w11.heap.size ≤ b := fun b hb => by
    rcases q5 b hb with h | h
    · exact fy1 b h
    · have := x13.size; omega
  have o14 := s2.ext x14
  have hH14 : hle (hpNo w9 (fun b => b < w2.heap.size)) (hpNo w14 (fun b => blk u1 b ∨ b < w2.heap.size)) := fun x o e => by
    have hn : ¬ blk u1 x := fun h => by rw [s2.free h] at e; cases e
    by_cases h : x < w2.heap.size
    · rw [hpNo_in (N := fun b => b < w2.heap.size) h] at e; cases e
    · rw [hpNo_oth (fun hh => hh.elim hn h)]
      exact hle_ext (x11.trans x14) x o (hHle x o e)
  have Sy2 := q3.isS
  have hy2 := q3.roNo hH14 (fun b hb hh => by
    have h1 := fy2 b hb
    rcases hh with hh | hh
    · have := s2.lt hh; omega
    · have := x11.size; omega)
  have o14' := o14.reNo hH14 (fun b h => .inl h)
  have hal : a.toNat < g.length := (rowF_at hka).2
  have hina := o14'.inS hal
  have hin1 := s2.inS hal
  obtain ⟨w15, r1, r2, r3, _⟩ := own_store (P := Try.prog) (t := 37) o14' rfl hal (x := y2) (y := rowF g a ++ [(F : Int)]) hy2 (isS_cells Sy2) (zeroT_info tyZ37).choose_spec.1 (by rw [← szT_info (zeroT_info tyZ37).choose_spec.1]; exact tyS37)
  have x915 : Ext w9 w15 := Mod.ext_of (x11.trans x14) r3 fu1
  have kg15 : R (hpNo w15 (fun b => b < w2.heap.size)) u1 (g.set a.toNat (rowF g a ++ [(F : Int)])) :=
    r2.ro (hpNo_mod r3 (fun b h => .inl h) (N' := fun b => b < w2.heap.size) fun b h => .inl (.inr h)) fun b hb => hpNo_oth (N := fun b => b < w2.heap.size) (by have := fu1 b hb; omega)
  have kk15 := kk9.keep x915 (m0 := w2.heap.size) (Nat.le_refl _)
  have kv15 := kv9.keep x915 (m0 := w2.heap.size) (Nat.le_refl _)
  have hx215 := ((hx26.trans hx8).trans xA).trans x915
  -- append(steps, [2]int{a, b})
  have hos15 := hos.ext hx215
  obtain ⟨e1', us2, w16, e2', e3', e4', e5'⟩ := push (P := Try.prog) (t := 22) (e := 22) sokP rfl hos15 (x := .agg #[.int .i64 a, .int .i64 b]) (y := (a, b)) (enc_pair _ _ _) (by omega) (by omega) (hle_ext (hx2.trans hx215))
  simp only [Value.cells] at e1' e2'
  have hbp := buildPair a b
  have hus : ∀ b, blk us b → b < w2.heap.size := fun b hb => hos.lt hb
  have kg16 : R (hpOf w16) u1 (g.set a.toNat (rowF g a ++ [(F : Int)])) := Rep.mono (hle_trans (hpNo_mod e4' hus (N' := fun b => b < w2.heap.size) fun b h => .inl h) (hpNo_le _ _)) kg15
  have kk16 : R (hpOf w16) uk k := Rep.mono (hle_trans (hpNo_mod e4' hus (N' := fun b => b < w2.heap.size) fun b h => .inl h) (hpNo_le _ _)) kk15
  have kv16 : R (hpOf w16) vi sol := Rep.mono (hle_trans (hpNo_mod e4' hus (N' := fun b => b < w2.heap.size) fun b h => .inl h) (hpNo_le _ _)) kv15
  have hx116 : Ext w1 w16 := hos15.ext2 (hx2.trans hx215) e4'
  have ks16 := e3'.rw_ (hle_ext hx116)
  have csb16 : w16.heap[w8.heap.size]? = some (.cells #[vi, .int .i64 (T : Int)] 27 (0, 0)) :=
    (e4'.block _ (by have := x915.size; have := (Array.getElem?_eq_some_iff.1 csb).1; omega) (fun h => by have := hus _ h; omega)).trans ((x915.block _ (Array.getElem?_eq_some_iff.1 csb).1 id).trans csb)
  have hgl2 : ∀ x ∈ g.set a.toNat (rowF g a ++ [(F : Int)]), x.length ≤ 1000000000 := fun x hx => by
    rcases List.mem_or_eq_of_mem_set hx with h | h
    · exact Nat.le_trans (hgl x h) (by omega)
    · rw [h]; simp; omega
  have db : decide (0 ≤ a) = true := by simpa using ha0
  have hok2 : OfOk (N : Int) (s ++ [(a, b)]) (g.set a.toNat (rowF g a ++ [(F : Int)])) k (M : Int) := by
    refine ⟨hok.n0, hok.n5, hok.m0, hok.m5, by rw [List.length_set]; exact hok.gn, hok.kn, fun x hx => ?_, fun x hx y hy => ?_, hok.kf⟩
    · rcases List.mem_append.1 hx with h | h
      · exact hok.st x h
      · simp at h; subst h; exact ⟨ha0, by simp only []; omega, hb0, by simp only []; omega⟩
    · rcases List.mem_or_eq_of_mem_set hx with h | h
      · exact hok.gf x h y hy
      · subst h
        rcases List.mem_append.1 hy with h | h
        · exact hok.gf _ (rowF_mem hka) y h
        · simp at h; subst h; omega
  simp only [CW_seq, CW_skip, CW_cond, CW_block, CW_loop, CW_regp, CW_draw, CW_exit, CW_ret, thenF_n, thenF_nK, thenF_r, thenF_x, blockF_n, blockF_nK, blockF_r, blockF_x, condF_t, condF_f, Rn_nilp, Rn_ngp, Rn_gp, oneStep_g, os_move, os_assign, os_pick, os_bin, os_un, os_fieldAddr, os_field, os_indexAddr, os_index, os_slice, os_extract, os_nilCheck, os_makeFunc, os_build, os_len, os_cap, os_convert, os_min, os_max, on_load, on_buildSlice, on_alloc, on_box, on_makeSlice, on_lookup, mn_convert, mn_bin, optP_n, on_append, on_copy, on_store, on_call, ev, updo, upd, optP_p, resP_p, resU_p, ↓reduceIte, Nat.reduceEqDiff, List.map_cons, List.map_nil, List.map_toArray, argU, Nat.reduceAdd, gval_slotB, boolO_b, boolO_u, gslot, List.getElem?_toArray, List.getElem?_cons_zero, List.getElem?_cons_succ, Option.bind_some, Option.some.injEq, reduceCtorEq, Bool.false_eq_true, Bool.true_eq_false, Option.map_some, Option.map_none, Int.toNat_zero, Option.isNone_none, Option.isNone_some, add_zero', unV, fieldV, extV, idxV, indexV, sliceV, lenV, capV, convV, min2V, max2V, TY, Option.isSome_some, Bool.true_and, Bool.and_true, Nat.mul_one, Int.toNat_natCast, le0n, Flat.val, Int.reduceToNat, Int.reduceLE, Int.reduceLT, Int.cast_ofNat_Int, decide_true, add_lit, Nat.zero_add, Nat.zero_mul, Nat.one_mul, Bool.not_true, Bool.not_false, p1, p2, l1, s1, l4, hin1, hina, db, ldr, t1]
  refine callP (by kernel_rfl : hasBody Try.prog 19 = true) (mod_any f (M : Int) w13 (by omega)) ?_
  rintro u w13' ⟨hu, hw⟩
  subst hw
  have hF' : modf f (M : Int) = (F : Int) := hF
  rw [hF'] at hu
  subst hu
  simp only [CW_seq, CW_skip, CW_cond, CW_block, CW_loop, CW_regp, CW_draw, CW_exit, CW_ret, thenF_n, thenF_nK, thenF_r, thenF_x, blockF_n, blockF_nK, blockF_r, blockF_x, condF_t, condF_f, Rn_nilp, Rn_ngp, Rn_gp, oneStep_g, os_move, os_assign, os_pick, os_bin, os_un, os_fieldAddr, os_field, os_indexAddr, os_index, os_slice, os_extract, os_nilCheck, os_makeFunc, os_build, os_len, os_cap, os_convert, os_min, os_max, on_load, on_buildSlice, on_alloc, on_box, on_makeSlice, on_lookup, mn_convert, mn_bin, optP_n, on_append, on_copy, on_store, on_call, ev, updo, upd, optP_p, resP_p, resU_p, ↓reduceIte, Nat.reduceEqDiff, List.map_cons, List.map_nil, List.map_toArray, argU, Nat.reduceAdd, gval_slotB, boolO_b, boolO_u, gslot, List.getElem?_toArray, List.getElem?_cons_zero, List.getElem?_cons_succ, Option.bind_some, Option.some.injEq, reduceCtorEq, Bool.false_eq_true, Bool.true_eq_false, Option.map_some, Option.map_none, Int.toNat_zero, Option.isNone_none, Option.isNone_some, add_zero', unV, fieldV, extV, idxV, indexV, sliceV, lenV, capV, convV, min2V, max2V, TY, Option.isSome_some, Bool.true_and, Bool.and_true, Nat.mul_one, Int.toNat_natCast, le0n, Flat.val, Int.reduceToNat, Int.reduceLE, Int.reduceLT, Int.cast_ofNat_Int, decide_true, add_lit, Nat.zero_add, Nat.zero_mul, Nat.one_mul, Bool.not_true, Bool.not_false, q1, q2, hina, hin1, db, r1, hbp, e1', e2', Value.cells]
  refine callP (by kernel_rfl : hasBody Try.prog 16 = true) (of_any (N : Int) (M : Int) us2 u1 uk (s ++ [(a, b)]) (g.set a.toNat (rowF g a ++ [(F : Int)])) k w16 ks16 kg16 kk16 (by simp; omega) hgl2 (fun x hx => Nat.le_trans (hkl x hx) (by omega))) ?_
  rintro u w17 ⟨⟨vr, ok2, hu, hb1, hb2⟩, hx17⟩
  have hokt2 : ok2 = true := by
    cases ok2
    · exact absurd hok2 (hb2 rfl).1
    · rfl
  obtain ⟨_, vi2, sol2, T2, hvr, hR2, hsol2⟩ := hb1 hokt2
  subst hu; subst hvr
  have Sv2 := hR2.isS
  have nv2 := hR2.vlen
  obtain ⟨p3, p4⟩ := solV w17 (T2 : Int) Sv2
  have hIn2 := fun w' hx => @sol_In w17 w' vi2 (T2 : Int) hx
  have xB := Ext.alloc w17 (.cells #[vi2, .int .i64 (T2 : Int)] 27)
  generalize w17.alloc (.cells #[vi2, .int .i64 (T2 : Int)] 27) = w18 at *
  have hx1618 := hx17.trans xB
  have hIn : ∀ w', Ext w16 w' → (Instr.loadAt 23 (.pointer (some ⟨w8.heap.size, 0, none⟩))).run Try.prog w' = .ok vi w' := fun w' hx =>
    blk_ld (T := 27) (cs := #[vi, .int .i64 (T : Int)]) (i := 0) ((hx.block _ (Array.getElem?_eq_some_iff.1 csb16).1 id).trans csb16) rfl tyG23
  have g1 := hIn w18 hx1618
  have g2 := hIn2 w18 (Mod.refl _)
  have hNt : ((N : Nat) : Int).toNat = N := by omega
  have hMt : ((M : Nat) : Int).toNat = M := by omega
  rw [hNt, hMt] at hsol hsol2
  have hkaN : okN N a = true := okN_iff.2 ⟨ha0, haN⟩
  have hkbN : okN N b = true := okN_iff.2 ⟨hb0, hbN⟩
  have hmore := fun {c : Int} {f : Nat} => comes_more (N := N) (s := s) (g := g) (k := k) (a := a) (b := b) (F := (F : Int)) hka (c := c) (f := f)
  have hlast := comes_last (N := N) (s := s) (g := g) (k := k) (a := a) (b := b) (F := F) hka hkaN hkbN
  have hnl : (newF N s).1.length = N := (newF_graph N s).nx.len
  have hnl2 : (newF N (s ++ [(a, b)])).1.length = N := (newF_graph N _).nx.len
  have hsl1 : sol.length = N := hsol.len.trans hnl
  have hsl2 : sol2.length = N := hsol2.len.trans hnl2
  have hgf2 : factsOk (g.set a.toNat (rowF g a ++ [(F : Int)])) M := by have := hok2.gf; rw [hMt] at this; exact this
  rw [hsl1] at nv
  rw [hsl2] at nv2
  obtain ⟨n1, nv1, z1⟩ : ∃ e : Nat, vlen vi = e ∧ binV Try.prog .neq 3 (.int .i64 (e : Int)) (.int .i64 (N : Int)) = some (.bool false) := ⟨_, nv, by simp [binV, binI]⟩
  obtain ⟨n2, nv22, z2'⟩ : ∃ e : Nat, vlen vi2 = e ∧ binV Try.prog .neq 3 (.int .i64 (e : Int)) (.int .i64 (N : Int)) = some (.bool false) := ⟨_, nv2, by simp [binV, binI]⟩
  have hn1 : n1 = N := nv1.symm.trans nv
  have hR18 : R (hpOf w18) vi sol := Rep.mono (hle_ext hx1618) kv16
  have hR218 : R (hpOf w18) vi2 sol2 := Rep.mono (hle_trans (hpNo_le _ _) (hle_ext xB)) hR2
  have hrowlen : ∀ (nx gl kl sol : List (List Int)) (T : Nat), SolOk nx gl kl M sol T → ∀ c, okN nx.length c = true → (rowF sol c).length ≤ M := fun nx gl kl sol T h c hc => by
    obtain ⟨p, h1, _⟩ := h.row c hc
    rw [h1, List.length_map]
    exact Nat.le_trans (List.length_filter_le _ _) (by simp)
  simp only [CW_seq, CW_skip, CW_cond, CW_block, CW_loop, CW_regp, CW_draw, CW_exit, CW_ret, thenF_n, thenF_nK, thenF_r, thenF_x, blockF_n, blockF_nK, blockF_r, blockF_x, condF_t, condF_f, Rn_nilp, Rn_ngp, Rn_gp, oneStep_g, os_move, os_assign, os_pick, os_bin, os_un, os_fieldAddr, os_field, os_indexAddr, os_index, os_slice, os_extract, os_nilCheck, os_makeFunc, os_build, os_len, os_cap, os_convert, os_min, os_max, on_load, on_buildSlice, on_alloc, on_box, on_makeSlice, on_lookup, mn_convert, mn_bin, optP_n, on_append, on_copy, on_store, on_call, ev, updo, upd, optP_p, resP_p, resU_p, ↓reduceIte, Nat.reduceEqDiff, List.map_cons, List.map_nil, List.map_toArray, argU, Nat.reduceAdd, gval_slotB, boolO_b, boolO_u, gslot, List.getElem?_toArray, List.getElem?_cons_zero, List.getElem?_cons_succ, Option.bind_some, Option.some.injEq, reduceCtorEq, Bool.false_eq_true, Bool.true_eq_false, Option.map_some, Option.map_none, Int.toNat_zero, Option.isNone_none, Option.isNone_some, add_zero', unV, fieldV, extV, idxV, indexV, sliceV, lenV, capV, convV, min2V, max2V, TY, Option.isSome_some, Bool.true_and, Bool.and_true, Nat.mul_one, Int.toNat_natCast, le0n, Flat.val, Int.reduceToNat, Int.reduceLE, Int.reduceLT, Int.cast_ofNat_Int, decide_true, add_lit, Nat.zero_add, Nat.zero_mul, Nat.one_mul, Bool.not_true, Bool.not_false, p3, p4, hokt, hokt2, Bool.not_true, g1, g2, Sv, Sv2, nv1, nv22, z1, z2']
  refine loop_rule [4, 5, 7, 17, 19, 113] (σ := Nat) (fun i f w' => f 114 = .int .i64 i ∧ i ≤ N ∧ Ext w18 w') (fun i => N - i) 0 (by decide +kernel) ?_ ?_
  · simp only [upd, ↓reduceIte, Nat.reduceEqDiff]
    exact ⟨by trivial, Nat.zero_le _, Mod.refl _⟩
  · rintro i fr w19 hk ⟨h114, hiN, hx19⟩
    simp only [List.forall_mem_cons, upd, ↓reduceIte, Nat.reduceEqDiff] at hk
    obtain ⟨e4, e5, e7, e17, e19, e113, _⟩ := hk
    simp only [CW_seq, CW_skip, CW_cond, CW_block, CW_loop, CW_reg, CW_draw, CW_exit, CW_ret, thenF_n, thenF_nK, thenF_r, thenF_x, blockF_n, blockF_nK, blockF_r, blockF_x, condF_t, condF_f, Rn_nil, Rn_ng, Rn_g, oneStep_g, os_move, os_assign, os_pick, os_bin, os_un, os_fieldAddr, os_field, os_indexAddr, os_index, os_slice, os_extract, os_nilCheck, os_makeFunc, os_build, os_len, os_cap, os_convert, os_min, os_max, on_load, on_buildSlice, on_alloc, on_box, on_makeSlice, on_lookup, mn_convert, mn_bin, optP_n, on_append, on_copy, on_store, on_call, ev, updo, upd, optP_p, resP_ok, resU_ok, ↓reduceIte, Nat.reduceEqDiff, List.map_cons, List.map_nil, List.map_toArray, argU, Nat.reduceAdd, gval_slot, gslot, List.getElem?_toArray, List.getElem?_cons_zero, List.getElem?_cons_succ, Option.bind_some, Option.some.injEq, reduceCtorEq, Bool.false_eq_true, Bool.true_eq_false, Option.map_some, Option.map_none, Int.toNat_zero, Option.isNone_none, Option.isNone_some, add_zero', binV, binI, unV, fieldV, extV, idxV, indexV, sliceV, lenV, capV, convV, min2V, max2V, TY, Option.isSome_some, Bool.true_and, Bool.and_true, Nat.mul_one, Int.toNat_natCast, le0n, Flat.val, Int.reduceToNat, Int.reduceLE, Int.reduceLT, Int.cast_ofNat_Int, decide_true, add_lit, Nat.zero_add, Nat.zero_mul, Nat.one_mul, Bool.not_true, Bool.not_false, h114, e113]
    refine condF_split (fun hc => ?_) (fun hc => ?_)
    · have hlt : i < N := by simp at hc; omega
      have hki : okN (newF N s).1.length (i : Int) = true := by rw [hnl]; exact okN_iff.2 ⟨by omega, by omega⟩
      have hki2 : okN (newF N (s ++ [(a, b)])).1.length (i : Int) = true := by rw [hnl2]; exact okN_iff.2 ⟨by omega, by omega⟩
      have hR19 : R (hpOf w19) vi sol := Rep.mono (hle_ext hx19) hR18
      have g3 := hIn w19 (hx1618.trans hx19)
      have r1' := (rowF_at (nx := sol) (a := (i : Int)) (by rw [hsl1]; exact okN_iff.2 ⟨by omega, by omega⟩)).1
      have r2' := (rowF_at (nx := sol2) (a := (i : Int)) (by rw [hsl2]; exact okN_iff.2 ⟨by omega, by omega⟩)).1
      rw [show ((i : Nat) : Int).toNat = i by omega] at r1' r2'
      have in1 := hR19.inS (k := i) (by omega)
      obtain ⟨x1, hx1r, c1⟩ := hR19.row r1'
      have ld1 := ld_at (P := Try.prog) (t := 37) c1 (hle_refl _) tyG37
      have S1 := hx1r.isS
      have n1' := hx1r.vlen
      have hlen2 := hrowlen _ _ _ _ _ hsol2 i hki2
      have hlen1 := hrowlen _ _ _ _ _ hsol i hki
      have hsub : ∀ x ∈ rowF sol (i : Int), (rowF sol2 (i : Int)).contains x = true := fun x hx => by
        obtain ⟨f, rfl, h2, h3⟩ := hsol.memI hki hx
        rw [List.contains_iff_mem, hsol2.mem hgf2 hki2]
        exact hmore h2
      generalize rowF sol (i : Int) = y1 at *
      generalize rowF sol2 (i : Int) = y2' at *
      simp only [CW_seq, CW_skip, CW_cond, CW_block, CW_loop, CW_regp, CW_draw, CW_exit, CW_ret, thenF_n, thenF_nK, thenF_r, thenF_x, blockF_n, blockF_nK, blockF_r, blockF_x, condF_t, condF_f, Rn_nilp, Rn_ngp, Rn_gp, oneStep_g, os_move, os_assign, os_pick, os_bin, os_un, os_fieldAddr, os_field, os_indexAddr, os_index, os_slice, os_extract, os_nilCheck, os_makeFunc, os_build, os_len, os_cap, os_convert, os_min, os_max, on_load, on_buildSlice, on_alloc, on_box, on_makeSlice, on_lookup, mn_convert, mn_bin, optP_n, on_append, on_copy, on_store, on_call, ev, updo, upd, optP_p, resP_p, resU_p, ↓reduceIte, Nat.reduceEqDiff, List.map_cons, List.map_nil, List.map_toArray, argU, Nat.reduceAdd, gval_slotB, boolO_b, boolO_u, gslot, List.getElem?_toArray, List.getElem?_cons_zero, List.getElem?_cons_succ, Option.bind_some, Option.some.injEq, reduceCtorEq, Bool.false_eq_true, Bool.true_eq_false, Option.map_some, Option.map_none, Int.toNat_zero, Option.isNone_none, Option.isNone_some, add_zero', unV, fieldV, extV, idxV, indexV, sliceV, lenV, capV, convV, min2V, max2V, TY, Option.isSome_some, Bool.true_and, Bool.and_true, Nat.mul_one, Int.toNat_natCast, le0n, Flat.val, Int.reduceToNat, Int.reduceLE, Int.reduceLT, Int.cast_ofNat_Int, decide_true, add_lit, Nat.zero_add, Nat.zero_mul, Nat.one_mul, Bool.not_true, Bool.not_false, h114, e17, g3, in1, ld1, S1, n1']
      refine loop_rule [4, 5, 7, 17, 19, 21, 113, 114, 121, 122] (σ := Nat) (fun j f w' => f 123 = .int .i64 j ∧ j ≤ y1.length ∧ Ext w19 w') (fun j => y1.length - j) 0 (by decide +kernel) ?_ ?_
      · simp only [upd, ↓reduceIte, Nat.reduceEqDiff]
        exact ⟨by trivial, Nat.zero_le _, Mod.refl _⟩
      · rintro j fr2 w20 hk ⟨h123, hjl, hx20⟩
        simp only [List.forall_mem_cons, upd, ↓reduceIte, Nat.reduceEqDiff] at hk
        simp only [e4, e5, e7, e17, e19, e113, h114] at hk
        obtain ⟨i4, i5, i7, i17, i19, i21, i113, i114, i121, i122, _⟩ := hk
        simp only [CW_seq, CW_skip, CW_cond, CW_block, CW_loop, CW_reg, CW_draw, CW_exit, CW_ret, thenF_n, thenF_nK, thenF_r, thenF_x, blockF_n, blockF_nK, blockF_r, blockF_x, condF_t, condF_f, Rn_nil, Rn_ng, Rn_g, oneStep_g, os_move, os_assign, os_pick, os_bin, os_un, os_fieldAddr, os_field, os_indexAddr, os_index, os_slice, os_extract, os_nilCheck, os_makeFunc, os_build, os_len, os_cap, os_convert, os_min, os_max, on_load, on_buildSlice, on_alloc, on_box, on_makeSlice, on_lookup, mn_convert, mn_bin, optP_n, on_append, on_copy, on_store, on_call, ev, updo, upd, optP_p, resP_ok, resU_ok, ↓reduceIte, Nat.reduceEqDiff, List.map_cons, List.map_nil, List.map_toArray, argU, Nat.reduceAdd, gval_slot, gslot, List.getElem?_toArray, List.getElem?_cons_zero, List.getElem?_cons_succ, Option.bind_some, Option.some.injEq, reduceCtorEq, Bool.false_eq_true, Bool.true_eq_false, Option.map_some, Option.map_none, Int.toNat_zero, Option.isNone_none, Option.isNone_some, add_zero', binV, binI, unV, fieldV, extV, idxV, indexV, sliceV, lenV, capV, convV, min2V, max2V, TY, Option.isSome_some, Bool.true_and, Bool.and_true, Nat.mul_one, Int.toNat_natCast, le0n, Flat.val, Int.reduceToNat, Int.reduceLE, Int.reduceLT, Int.cast_ofNat_Int, decide_true, add_lit, Nat.zero_add, Nat.zero_mul, Nat.one_mul, Bool.not_true, Bool.not_false, h123, i122]
        refine condF_split (fun hc => ?_) (fun hc => ?_)
        · have hjt : j < y1.length := by simpa using hc
          have hx1820 := hx19.trans hx20
          have hxr20 : R (hpOf w20) x1 y1 := Rep.mono (hle_ext hx20) hx1r
          have hR220 : R (hpOf w20) vi2 sol2 := Rep.mono (hle_ext hx1820) hR218
          have inj := hxr20.inS hjt
          have ldj := ld_flat (P := Try.prog) (t := 3) hxr20 (hle_refl _) (List.getElem?_eq_getElem hjt) tyG3
          simp only [Flat.val] at ldj
          have hcon := hsub _ (List.getElem_mem hjt)
          generalize y1[j] = x at ldj hcon
          have g4 := hIn2 w20 hx1820
          have in2 := hR220.inS (k := i) (by omega)
          obtain ⟨x2, hx2r, c2⟩ := hR220.row r2'
          have ld2 := ld_at (P := Try.prog) (t := 37) c2 (hle_refl _) tyG37
          have q6 : binV Try.prog .add 3 (.int .i64 j) (.int .i64 1) = some (.int .i64 ((j + 1 : Nat) : Int)) := by
            simp only [binV, binI, if_true]; rw [i64s j (by omega)]
          obtain ⟨t, ht⟩ : ∃ t : Bool, t = true := ⟨true, rfl⟩
          simp only [CW_seq, CW_skip, CW_cond, CW_block, CW_loop, CW_regp, CW_draw, CW_exit, CW_ret, thenF_n, thenF_nK, thenF_r, thenF_x, blockF_n, blockF_nK, blockF_r, blockF_x, condF_t, condF_f, Rn_nilp, Rn_ngp, Rn_gp, oneStep_g, os_move, os_assign, os_pick, os_bin, os_un, os_fieldAddr, os_field, os_indexAddr, os_index, os_slice, os_extract, os_nilCheck, os_makeFunc, os_build, os_len, os_cap, os_convert, os_min, os_max, on_load, on_buildSlice, on_alloc, on_box, on_makeSlice, on_lookup, mn_convert, mn_bin, optP_n, on_append, on_copy, on_store, on_call, ev, updo, upd, optP_p, resP_p, resU_p, ↓reduceIte, Nat.reduceEqDiff, List.map_cons, List.map_nil, List.map_toArray, argU, Nat.reduceAdd, gval_slotB, boolO_b, boolO_u, gslot, List.getElem?_toArray, List.getElem?_cons_zero, List.getElem?_cons_succ, Option.bind_some, Option.some.injEq, reduceCtorEq, Bool.false_eq_true, Bool.true_eq_false, Option.map_some, Option.map_none, Int.toNat_zero, Option.isNone_none, Option.isNone_some, add_zero', unV, fieldV, extV, idxV, indexV, sliceV, lenV, capV, convV, min2V, max2V, TY, Option.isSome_some, Bool.true_and, Bool.and_true, Nat.mul_one, Int.toNat_natCast, le0n, Flat.val, Int.reduceToNat, Int.reduceLE, Int.reduceLT, Int.cast_ofNat_Int, decide_true, add_lit, Nat.zero_add, Nat.zero_mul, Nat.one_mul, Bool.not_true, Bool.not_false, i121, h123, inj, ldj, i19, i21, g4, in2, ld2]
          refine callP (by kernel_rfl : hasBody Try.prog 23 = true) (Has_any x2 y2' x w20 hx2r (by omega)) ?_
          rintro r w21 ⟨hr, hw⟩
          rw [hcon, ← ht] at hr
          subst hw; subst hr
          simp only [CW_seq, CW_skip, CW_cond, CW_block, CW_loop, CW_regp, CW_draw, CW_exit, CW_ret, thenF_n, thenF_nK, thenF_r, thenF_x, blockF_n, blockF_nK, blockF_r, blockF_x, condF_t, condF_f, Rn_nilp, Rn_ngp, Rn_gp, oneStep_g, os_move, os_assign, os_pick, os_bin, os_un, os_fieldAddr, os_field, os_indexAddr, os_index, os_slice, os_extract, os_nilCheck, os_makeFunc, os_build, os_len, os_cap, os_convert, os_min, os_max, on_load, on_buildSlice, on_alloc, on_box, on_makeSlice, on_lookup, mn_convert, mn_bin, optP_n, on_append, on_copy, on_store, on_call, ev, updo, upd, optP_p, resP_p, resU_p, ↓reduceIte, Nat.reduceEqDiff, List.map_cons, List.map_nil, List.map_toArray, argU, Nat.reduceAdd, gval_slotB, boolO_b, boolO_u, gslot, List.getElem?_toArray, List.getElem?_cons_zero, List.getElem?_cons_succ, Option.bind_some, Option.some.injEq, reduceCtorEq, Bool.false_eq_true, Bool.true_eq_false, Option.map_some, Option.map_none, Int.toNat_zero, Option.isNone_none, Option.isNone_some, add_zero', unV, fieldV, extV, idxV, indexV, sliceV, lenV, capV, convV, min2V, max2V, TY, Option.isSome_some, Bool.true_and, Bool.and_true, Nat.mul_one, Int.toNat_natCast, le0n, Flat.val, Int.reduceToNat, Int.reduceLE, Int.reduceLT, Int.cast_ofNat_Int, decide_true, add_lit, Nat.zero_add, Nat.zero_mul, Nat.one_mul, Bool.not_true, Bool.not_false, ht, Bool.not_true, h123, q6]
          exact ⟨j + 1, by omega, by trivial, by omega, hx20⟩
        · have q6 : binV Try.prog .add 3 (.int .i64 i) (.int .i64 1) = some (.int .i64 ((i + 1 : Nat) : Int)) := by
            simp only [binV, binI, if_true]; rw [i64s i (by omega)]
          simp only [CW_seq, CW_skip, CW_cond, CW_block, CW_loop, CW_regp, CW_draw, CW_exit, CW_ret, thenF_n, thenF_nK, thenF_r, thenF_x, blockF_n, blockF_nK, blockF_r, blockF_x, condF_t, condF_f, Rn_nilp, Rn_ngp, Rn_gp, oneStep_g, os_move, os_assign, os_pick, os_bin, os_un, os_fieldAddr, os_field, os_indexAddr, os_index, os_slice, os_extract, os_nilCheck, os_makeFunc, os_build, os_len, os_cap, os_convert, os_min, os_max, on_load, on_buildSlice, on_alloc, on_box, on_makeSlice, on_lookup, mn_convert, mn_bin, optP_n, on_append, on_copy, on_store, on_call, ev, updo, upd, optP_p, resP_p, resU_p, ↓reduceIte, Nat.reduceEqDiff, List.map_cons, List.map_nil, List.map_toArray, argU, Nat.reduceAdd, gval_slotB, boolO_b, boolO_u, gslot, List.getElem?_toArray, List.getElem?_cons_zero, List.getElem?_cons_succ, Option.bind_some, Option.some.injEq, reduceCtorEq, Bool.false_eq_true, Bool.true_eq_false, Option.map_some, Option.map_none, Int.toNat_zero, Option.isNone_none, Option.isNone_some, add_zero', unV, fieldV, extV, idxV, indexV, sliceV, lenV, capV, convV, min2V, max2V, TY, Option.isSome_some, Bool.true_and, Bool.and_true, Nat.mul_one, Int.toNat_natCast, le0n, Flat.val, Int.reduceToNat, Int.reduceLE, Int.reduceLT, Int.cast_ofNat_Int, decide_true, add_lit, Nat.zero_add, Nat.zero_mul, Nat.one_mul, Bool.not_true, Bool.not_false, i114, q6]
          exact ⟨i + 1, by omega, by trivial, by omega, hx19.trans hx20⟩
    · have hd := Ext.drew w19
      have hx20 := hx19.trans hd
      have hkb2 : okN (newF N (s ++ [(a, b)])).1.length b = true := by rw [hnl2]; exact hkbN
      have r2' := (rowF_at (nx := sol2) (a := b) (by rw [hsl2]; exact hkbN)).1
      have hbl := (rowF_at (nx := sol2) (a := b) (by rw [hsl2]; exact hkbN)).2
      have hR220 : R (hpOf w19.drew) vi2 sol2 := Rep.mono (hle_ext hx20) hR218
      have in2 := hR220.inS hbl
      obtain ⟨x2, hx2r, c2⟩ := hR220.row r2'
      have hlen2 := hrowlen _ _ _ _ _ hsol2 b hkb2
      have dbb : decide (0 ≤ b) = true := by simpa using hb0
      have hcon : (rowF sol2 b).contains (F : Int) = true := by
        rw [List.contains_iff_mem, hsol2.mem hgf2 hkb2]
        exact hlast
      generalize rowF sol2 b = y2' at *
      simp only [CW_seq, CW_skip, CW_cond, CW_block, CW_loop, CW_regp, CW_draw, CW_exit, CW_ret, thenF_n, thenF_nK, thenF_r, thenF_x, blockF_n, blockF_nK, blockF_r, blockF_x, condF_t, condF_f, Rn_nilp, Rn_ngp, Rn_gp, oneStep_g, os_move, os_assign, os_pick, os_bin, os_un, os_fieldAddr, os_field, os_indexAddr, os_index, os_slice, os_extract, os_nilCheck, os_makeFunc, os_build, os_len, os_cap, os_convert, os_min, os_max, on_load, on_buildSlice, on_alloc, on_box, on_makeSlice, on_lookup, mn_convert, mn_bin, optP_n, on_append, on_copy, on_store, on_call, ev, updo, upd, optP_p, resP_p, resU_p, ↓reduceIte, Nat.reduceEqDiff, List.map_cons, List.map_nil, List.map_toArray, argU, Nat.reduceAdd, gval_slotB, boolO_b, boolO_u, gslot, List.getElem?_toArray, List.getElem?_cons_zero, List.getElem?_cons_succ, Option.bind_some, Option.some.injEq, reduceCtorEq, Bool.false_eq_true, Bool.true_eq_false, Option.map_some, Option.map_none, Int.toNat_zero, Option.isNone_none, Option.isNone_some, add_zero', unV, fieldV, extV, idxV, indexV, sliceV, lenV, capV, convV, min2V, max2V, TY, Option.isSome_some, Bool.true_and, Bool.and_true, Nat.mul_one, Int.toNat_natCast, le0n, Flat.val, Int.reduceToNat, Int.reduceLE, Int.reduceLT, Int.cast_ofNat_Int, decide_true, add_lit, Nat.zero_add, Nat.zero_mul, Nat.one_mul, Bool.not_true, Bool.not_false]
      refine drawR (fun w3 => Ext w19.drew w3) 8 (ordL [0, 1, 2, 3, 4, 5, 6, 7]) (by decide +kernel) (Mod.refl _) ?_
      simp only [RnF_nil, RnF_op, ordL, of_load, of_lookup, mf_convert, mf_bin, of_buildSlice, of_alloc, of_box, of_makeSlice, of_append, of_copy, of_store, of_call, List.drop_succ_cons, List.drop_zero, CW_seq, CW_skip, CW_cond, CW_block, CW_loop, CW_reg, CW_draw, CW_exit, CW_ret, thenF_n, thenF_nK, thenF_r, thenF_x, blockF_n, blockF_nK, blockF_r, blockF_x, condF_t, condF_f, Rn_nil, Rn_ng, Rn_g, oneStep_g, os_move, os_assign, os_pick, os_bin, os_un, os_fieldAddr, os_field, os_indexAddr, os_index, os_slice, os_extract, os_nilCheck, os_makeFunc, os_build, os_len, os_cap, os_convert, os_min, os_max, on_load, on_buildSlice, on_alloc, on_box, on_makeSlice, on_lookup, mn_convert, mn_bin, optP_n, on_append, on_copy, on_store, on_call, ev, updo, upd, optP_p, resP_ok, resU_ok, ↓reduceIte, Nat.reduceEqDiff, List.map_cons, List.map_nil, List.map_toArray, argU, Nat.reduceAdd, gval_slot, gslot, List.getElem?_toArray, List.getElem?_cons_zero, List.getElem?_cons_succ, Option.bind_some, Option.some.injEq, reduceCtorEq, Bool.false_eq_true, Bool.true_eq_false, Option.map_some, Option.map_none, Int.toNat_zero, Option.isNone_none, Option.isNone_some, add_zero', binV, binI, unV, fieldV, extV, idxV, indexV, sliceV, lenV, capV, convV, min2V, max2V, TY, Option.isSome_some, Bool.true_and, Bool.and_true, Nat.mul_one, Int.toNat_natCast, le0n, Flat.val, Int.reduceToNat, Int.reduceLE, Int.reduceLT, Int.cast_ofNat_Int, decide_true, add_lit, Nat.zero_add, Nat.zero_mul, Nat.one_mul, Bool.not_true, Bool.not_false, e19]
      refine ⟨vi2, fun w3 e => hIn2 w3 (hx20.trans e), ?_⟩
      simp only [RnF_nil, RnF_op, ordL, of_load, of_lookup, mf_convert, mf_bin, of_buildSlice, of_alloc, of_box, of_makeSlice, of_append, of_copy, of_store, of_call, List.drop_succ_cons, List.drop_zero, CW_seq, CW_skip, CW_cond, CW_block, CW_loop, CW_reg, CW_draw, CW_exit, CW_ret, thenF_n, thenF_nK, thenF_r, thenF_x, blockF_n, blockF_nK, blockF_r, blockF_x, condF_t, condF_f, Rn_nil, Rn_ng, Rn_g, oneStep_g, os_move, os_assign, os_pick, os_bin, os_un, os_fieldAddr, os_field, os_indexAddr, os_index, os_slice, os_extract, os_nilCheck, os_makeFunc, os_build, os_len, os_cap, os_convert, os_min, os_max, on_load, on_buildSlice, on_alloc, on_box, on_makeSlice, on_lookup, mn_convert, mn_bin, optP_n, on_append, on_copy, on_store, on_call, ev, updo, upd, optP_p, resP_ok, resU_ok, ↓reduceIte, Nat.reduceEqDiff, List.map_cons, List.map_nil, List.map_toArray, argU, Nat.reduceAdd, gval_slot, gslot, List.getElem?_toArray, List.getElem?_cons_zero, List.getElem?_cons_succ, Option.bind_some, Option.some.injEq, reduceCtorEq, Bool.false_eq_true, Bool.true_eq_false, Option.map_some, Option.map_none, Int.toNat_zero, Option.isNone_none, Option.isNone_some, add_zero', binV, binI, unV, fieldV, extV, idxV, indexV, sliceV, lenV, capV, convV, min2V, max2V, TY, Option.isSome_some, Bool.true_and, Bool.and_true, Nat.mul_one, Int.toNat_natCast, le0n, Flat.val, Int.reduceToNat, Int.reduceLE, Int.reduceLT, Int.cast_ofNat_Int, decide_true, add_lit, Nat.zero_add, Nat.zero_mul, Nat.one_mul, Bool.not_true, Bool.not_false, e7, dbb, in2]
      refine ⟨x2, fun w3 e => ld_at c2 (hle_ext e) tyG37, ?_⟩
      simp only [RnF_nil, RnF_op, ordL, of_load, of_lookup, mf_convert, mf_bin, of_buildSlice, of_alloc, of_box, of_makeSlice, of_append, of_copy, of_store, of_call, List.drop_succ_cons, List.drop_zero, CW_seq, CW_skip, CW_cond, CW_block, CW_loop, CW_reg, CW_draw, CW_exit, CW_ret, thenF_n, thenF_nK, thenF_r, thenF_x, blockF_n, blockF_nK, blockF_r, blockF_x, condF_t, condF_f, Rn_nil, Rn_ng, Rn_g, oneStep_g, os_move, os_assign, os_pick, os_bin, os_un, os_fieldAddr, os_field, os_indexAddr, os_index, os_slice, os_extract, os_nilCheck, os_makeFunc, os_build, os_len, os_cap, os_convert, os_min, os_max, on_load, on_buildSlice, on_alloc, on_box, on_makeSlice, on_lookup, mn_convert, mn_bin, optP_n, on_append, on_copy, on_store, on_call, ev, updo, upd, optP_p, resP_ok, resU_ok, ↓reduceIte, Nat.reduceEqDiff, List.map_cons, List.map_nil, List.map_toArray, argU, Nat.reduceAdd, gval_slot, gslot, List.getElem?_toArray, List.getElem?_cons_zero, List.getElem?_cons_succ, Option.bind_some, Option.some.injEq, reduceCtorEq, Bool.false_eq_true, Bool.true_eq_false, Option.map_some, Option.map_none, Int.toNat_zero, Option.isNone_none, Option.isNone_some, add_zero', binV, binI, unV, fieldV, extV, idxV, indexV, sliceV, lenV, capV, convV, min2V, max2V, TY, Option.isSome_some, Bool.true_and, Bool.and_true, Nat.mul_one, Int.toNat_natCast, le0n, Flat.val, Int.reduceToNat, Int.reduceLE, Int.reduceLT, Int.cast_ofNat_Int, decide_true, add_lit, Nat.zero_add, Nat.zero_mul, Nat.one_mul, Bool.not_true, Bool.not_false, e5, e4, keepS]
      refine callP (by kernel_rfl : hasBody Try.prog 19 = true) (mod_any f (M : Int) w19.drew (by omega)) ?_
      rintro r w21 ⟨hr, hw⟩
      rw [hF'] at hr
      rw [hw]
      subst hr
      simp only [RnF_nil, RnF_op, ordL, of_load, of_lookup, mf_convert, mf_bin, of_buildSlice, of_alloc, of_box, of_makeSlice, of_append, of_copy, of_store, of_call, List.drop_succ_cons, List.drop_zero, CW_seq, CW_skip, CW_cond, CW_block, CW_loop, CW_reg, CW_draw, CW_exit, CW_ret, thenF_n, thenF_nK, thenF_r, thenF_x, blockF_n, blockF_nK, blockF_r, blockF_x, condF_t, condF_f, Rn_nil, Rn_ng, Rn_g, oneStep_g, os_move, os_assign, os_pick, os_bin, os_un, os_fieldAddr, os_field, os_indexAddr, os_index, os_slice, os_extract, os_nilCheck, os_makeFunc, os_build, os_len, os_cap, os_convert, os_min, os_max, on_load, on_buildSlice, on_alloc, on_box, on_makeSlice, on_lookup, mn_convert, mn_bin, optP_n, on_append, on_copy, on_store, on_call, ev, updo, upd, optP_p, resP_ok, resU_ok, ↓reduceIte, Nat.reduceEqDiff, List.map_cons, List.map_nil, List.map_toArray, argU, Nat.reduceAdd, gval_slot, gslot, List.getElem?_toArray, List.getElem?_cons_zero, List.getElem?_cons_succ, Option.bind_some, Option.some.injEq, reduceCtorEq, Bool.false_eq_true, Bool.true_eq_false, Option.map_some, Option.map_none, Int.toNat_zero, Option.isNone_none, Option.isNone_some, add_zero', binV, binI, unV, fieldV, extV, idxV, indexV, sliceV, lenV, capV, convV, min2V, max2V, TY, Option.isSome_some, Bool.true_and, Bool.and_true, Nat.mul_one, Int.toNat_natCast, le0n, Flat.val, Int.reduceToNat, Int.reduceLE, Int.reduceLT, Int.cast_ofNat_Int, decide_true, add_lit, Nat.zero_add, Nat.zero_mul, Nat.one_mul, Bool.not_true, Bool.not_false, keepS]
      refine ⟨Mod.refl _, ?_⟩
      refine callP (by kernel_rfl : hasBody Try.prog 23 = true) (Has_any x2 y2' F w19.drew hx2r (by omega)) ?_
      rintro r w22 ⟨hr, hw⟩
      rw [hcon] at hr
      rw [hw]
      subst hr
      simp only [CW_seq, CW_skip, CW_cond, CW_block, CW_loop, CW_regp, CW_draw, CW_exit, CW_ret, thenF_n, thenF_nK, thenF_r, thenF_x, blockF_n, blockF_nK, blockF_r, blockF_x, condF_t, condF_f, Rn_nilp, Rn_ngp, Rn_gp, oneStep_g, os_move, os_assign, os_pick, os_bin, os_un, os_fieldAddr, os_field, os_indexAddr, os_index, os_slice, os_extract, os_nilCheck, os_makeFunc, os_build, os_len, os_cap, os_convert, os_min, os_max, on_load, on_buildSlice, on_alloc, on_box, on_makeSlice, on_lookup, mn_convert, mn_bin, optP_n, on_append, on_copy, on_store, on_call, ev, updo, upd, optP_p, resP_p, resU_p, ↓reduceIte, Nat.reduceEqDiff, List.map_cons, List.map_nil, List.map_toArray, argU, Nat.reduceAdd, gval_slotB, boolO_b, boolO_u, gslot, List.getElem?_toArray, List.getElem?_cons_zero, List.getElem?_cons_succ, Option.bind_some, Option.some.injEq, reduceCtorEq, Bool.false_eq_true, Bool.true_eq_false, Option.map_some, Option.map_none, Int.toNat_zero, Option.isNone_none, Option.isNone_some, add_zero', unV, fieldV, extV, idxV, indexV, sliceV, lenV, capV, convV, min2V, max2V, TY, Option.isSome_some, Bool.true_and, Bool.and_true, Nat.mul_one, Int.toNat_natCast, le0n, Flat.val, Int.reduceToNat, Int.reduceLE, Int.reduceLT, Int.cast_ofNat_Int, decide_true, add_lit, Nat.zero_add, Nat.zero_mul, Nat.one_mul, Bool.not_true, Bool.not_false]
      refine retq1 Try.results4 ?_
      simp only [upd, ↓reduceIte, Nat.reduceEqDiff]
      exact ⟨by trivial, ((hx1.trans hx116).trans hx1618).trans hx20⟩
end Go.Proofs.Ytldmnnloakpjlaa
