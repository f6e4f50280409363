/- whittlerlaw19.SolveWays: the walk. -/
import Derived.Test.YtldmnnloakpjlaaB26
import Derived.Test.YtldmnnloakpjlaaC15
set_option linter.unusedSimpArgs false
set_option linter.unusedVariables false
set_option maxRecDepth 100000
set_option maxHeartbeats 4000000
namespace Go.Proofs.Ytldmnnloakpjlaa
open Go

theorem SolveWays_walk (n : Int) (v : Value) (st : List (Int × Int)) (vg : Value) (gl : List (List Int)) (vk : Value) (kl : List (List Int)) (most f b : Int) (w : World) (hv : R (hpOf w) v st) (hvg : R (hpOf w) vg gl) (hvk : R (hpOf w) vk kl) :
    Calls Try.prog 13 #[.int .i64 n, v, vg, vk, .int .i64 most, .int .i64 f, .int .i64 b] w fun e w' => ∃ u, e = .returned u ∧ (u = .bool true ∧ Ext w w') := by
  refine calls_of_CW (args := [.int .i64 n, v, vg, vk, .int .i64 most, .int .i64 f, .int .i64 b]) hm Try.func13 rfl (by kernel_rfl) (by show 7 ≤ _; decide +kernel) ?_
  obtain ⟨N, hN, hN1, hN10⟩ := one_plus n (m := 10) (by omega) (by omega)
  obtain ⟨M, hM, hM1, hM6⟩ := one_plus most (m := 6) (by omega) (by omega)
  have hN' : IntKind.i64.wrap (1 + modf n 10) = (N : Int) := hN
  have hM' : IntKind.i64.wrap (1 + modf most 6) = (M : Int) := hM
  simp only [CW_seq, CW_skip, CW_cond, CW_block, CW_loop, CW_reg, CW_draw, CW_exit, CW_ret, thenF_n, thenF_nK, thenF_r, thenF_x, blockF_n, blockF_nK, blockF_r, blockF_x, condF_t, condF_f, Rn_nil, Rn_ng, Rn_g, oneStep_g, os_move, os_assign, os_pick, os_bin, os_un, os_fieldAddr, os_field, os_indexAddr, os_index, os_slice, os_extract, os_nilCheck, os_makeFunc, os_build, os_len, os_cap, os_convert, os_min, os_max, on_load, on_buildSlice, on_alloc, on_box, on_makeSlice, on_lookup, mn_convert, mn_bin, optP_n, on_append, on_copy, on_store, on_call, ev, updo, upd, optP_p, resP_ok, resU_ok, ↓reduceIte, Nat.reduceEqDiff, List.map_cons, List.map_nil, List.map_toArray, argU, Nat.reduceAdd, gval_slot, gslot, List.getElem?_toArray, List.getElem?_cons_zero, List.getElem?_cons_succ, Option.bind_some, Option.some.injEq, reduceCtorEq, Bool.false_eq_true, Bool.true_eq_false, Option.map_some, Option.map_none, Int.toNat_zero, Option.isNone_none, Option.isNone_some, add_zero', binV, binI, unV, fieldV, extV, idxV, indexV, sliceV, lenV, capV, convV, min2V, max2V, TY, Option.isSome_some, Bool.true_and, Bool.and_true, Nat.mul_one, Int.toNat_natCast, le0n, Flat.val, Int.reduceToNat, Int.reduceLE, Int.reduceLT, Int.cast_ofNat_Int, decide_true, add_lit, Nat.zero_add, Nat.zero_mul, Nat.one_mul, Bool.not_true, Bool.not_false]
  refine callP (by kernel_rfl : hasBody Try.prog 14 = true) (solved_any w) ?_
  rintro u w1 ⟨rfl, hx1⟩
  simp only [CW_seq, CW_skip, CW_cond, CW_block, CW_loop, CW_reg, CW_draw, CW_exit, CW_ret, thenF_n, thenF_nK, thenF_r, thenF_x, blockF_n, blockF_nK, blockF_r, blockF_x, condF_t, condF_f, Rn_nil, Rn_ng, Rn_g, oneStep_g, os_move, os_assign, os_pick, os_bin, os_un, os_fieldAddr, os_field, os_indexAddr, os_index, os_slice, os_extract, os_nilCheck, os_makeFunc, os_build, os_len, os_cap, os_convert, os_min, os_max, on_load, on_buildSlice, on_alloc, on_box, on_makeSlice, on_lookup, mn_convert, mn_bin, optP_n, on_append, on_copy, on_store, on_call, ev, updo, upd, optP_p, resP_ok, resU_ok, ↓reduceIte, Nat.reduceEqDiff, List.map_cons, List.map_nil, List.map_toArray, argU, Nat.reduceAdd, gval_slot, gslot, List.getElem?_toArray, List.getElem?_cons_zero, List.getElem?_cons_succ, Option.bind_some, Option.some.injEq, reduceCtorEq, Bool.false_eq_true, Bool.true_eq_false, Option.map_some, Option.map_none, Int.toNat_zero, Option.isNone_none, Option.isNone_some, add_zero', binV, binI, unV, fieldV, extV, idxV, indexV, sliceV, lenV, capV, convV, min2V, max2V, TY, Option.isSome_some, Bool.true_and, Bool.and_true, Nat.mul_one, Int.toNat_natCast, le0n, Flat.val, Int.reduceToNat, Int.reduceLE, Int.reduceLT, Int.cast_ofNat_Int, decide_true, add_lit, Nat.zero_add, Nat.zero_mul, Nat.one_mul, Bool.not_true, Bool.not_false]
  refine callP (by kernel_rfl : hasBody Try.prog 19 = true) (mod_any n 10 w1 (by omega)) ?_
  rintro u w1' ⟨hu, hw⟩
  subst hw; subst hu
  simp only [CW_seq, CW_skip, CW_cond, CW_block, CW_loop, CW_reg, CW_draw, CW_exit, CW_ret, thenF_n, thenF_nK, thenF_r, thenF_x, blockF_n, blockF_nK, blockF_r, blockF_x, condF_t, condF_f, Rn_nil, Rn_ng, Rn_g, oneStep_g, os_move, os_assign, os_pick, os_bin, os_un, os_fieldAddr, os_field, os_indexAddr, os_index, os_slice, os_extract, os_nilCheck, os_makeFunc, os_build, os_len, os_cap, os_convert, os_min, os_max, on_load, on_buildSlice, on_alloc, on_box, on_makeSlice, on_lookup, mn_convert, mn_bin, optP_n, on_append, on_copy, on_store, on_call, ev, updo, upd, optP_p, resP_ok, resU_ok, ↓reduceIte, Nat.reduceEqDiff, List.map_cons, List.map_nil, List.map_toArray, argU, Nat.reduceAdd, gval_slot, gslot, List.getElem?_toArray, List.getElem?_cons_zero, List.getElem?_cons_succ, Option.bind_some, Option.some.injEq, reduceCtorEq, Bool.false_eq_true, Bool.true_eq_false, Option.map_some, Option.map_none, Int.toNat_zero, Option.isNone_none, Option.isNone_some, add_zero', binV, binI, unV, fieldV, extV, idxV, indexV, sliceV, lenV, capV, convV, min2V, max2V, TY, Option.isSome_some, Bool.true_and, Bool.and_true, Nat.mul_one, Int.toNat_natCast, le0n, Flat.val, Int.reduceToNat, Int.reduceLE, Int.reduceLT, Int.cast_ofNat_Int, decide_true, add_lit, Nat.zero_add, Nat.zero_mul, Nat.one_mul, Bool.not_true, Bool.not_false, hN']
  refine callP (by kernel_rfl : hasBody Try.prog 19 = true) (mod_any most 6 w1' (by omega)) ?_
  rintro u w1 ⟨hu, hw⟩
  subst hw; subst hu
  have hv1 : R (hpOf w1) v st := Rep.mono (hle_ext hx1) hv
  simp only [CW_seq, CW_skip, CW_cond, CW_block, CW_loop, CW_reg, CW_draw, CW_exit, CW_ret, thenF_n, thenF_nK, thenF_r, thenF_x, blockF_n, blockF_nK, blockF_r, blockF_x, condF_t, condF_f, Rn_nil, Rn_ng, Rn_g, oneStep_g, os_move, os_assign, os_pick, os_bin, os_un, os_fieldAddr, os_field, os_indexAddr, os_index, os_slice, os_extract, os_nilCheck, os_makeFunc, os_build, os_len, os_cap, os_convert, os_min, os_max, on_load, on_buildSlice, on_alloc, on_box, on_makeSlice, on_lookup, mn_convert, mn_bin, optP_n, on_append, on_copy, on_store, on_call, ev, updo, upd, optP_p, resP_ok, resU_ok, ↓reduceIte, Nat.reduceEqDiff, List.map_cons, List.map_nil, List.map_toArray, argU, Nat.reduceAdd, gval_slot, gslot, List.getElem?_toArray, List.getElem?_cons_zero, List.getElem?_cons_succ, Option.bind_some, Option.some.injEq, reduceCtorEq, Bool.false_eq_true, Bool.true_eq_false, Option.map_some, Option.map_none, Int.toNat_zero, Option.isNone_none, Option.isNone_some, add_zero', binV, binI, unV, fieldV, extV, idxV, indexV, sliceV, lenV, capV, convV, min2V, max2V, TY, Option.isSome_some, Bool.true_and, Bool.and_true, Nat.mul_one, Int.toNat_natCast, le0n, Flat.val, Int.reduceToNat, Int.reduceLE, Int.reduceLT, Int.cast_ofNat_Int, decide_true, add_lit, Nat.zero_add, Nat.zero_mul, Nat.one_mul, Bool.not_true, Bool.not_false, hN', hM']
  refine callP (by kernel_rfl : hasBody Try.prog 20 = true) (fitSteps_any v st (N : Int) w1 hv1 (by omega) (by omega)) ?_
  rintro us w2 ⟨hos, hx2⟩
  have hvg2 : R (hpOf w2) vg gl := Rep.mono (hle_ext (hx1.trans hx2)) hvg
  simp only [CW_seq, CW_skip, CW_cond, CW_block, CW_loop, CW_reg, CW_draw, CW_exit, CW_ret, thenF_n, thenF_nK, thenF_r, thenF_x, blockF_n, blockF_nK, blockF_r, blockF_x, condF_t, condF_f, Rn_nil, Rn_ng, Rn_g, oneStep_g, os_move, os_assign, os_pick, os_bin, os_un, os_fieldAddr, os_field, os_indexAddr, os_index, os_slice, os_extract, os_nilCheck, os_makeFunc, os_build, os_len, os_cap, os_convert, os_min, os_max, on_load, on_buildSlice, on_alloc, on_box, on_makeSlice, on_lookup, mn_convert, mn_bin, optP_n, on_append, on_copy, on_store, on_call, ev, updo, upd, optP_p, resP_ok, resU_ok, ↓reduceIte, Nat.reduceEqDiff, List.map_cons, List.map_nil, List.map_toArray, argU, Nat.reduceAdd, gval_slot, gslot, List.getElem?_toArray, List.getElem?_cons_zero, List.getElem?_cons_succ, Option.bind_some, Option.some.injEq, reduceCtorEq, Bool.false_eq_true, Bool.true_eq_false, Option.map_some, Option.map_none, Int.toNat_zero, Option.isNone_none, Option.isNone_some, add_zero', binV, binI, unV, fieldV, extV, idxV, indexV, sliceV, lenV, capV, convV, min2V, max2V, TY, Option.isSome_some, Bool.true_and, Bool.and_true, Nat.mul_one, Int.toNat_natCast, le0n, Flat.val, Int.reduceToNat, Int.reduceLE, Int.reduceLT, Int.cast_ofNat_Int, decide_true, add_lit, Nat.zero_add, Nat.zero_mul, Nat.one_mul, Bool.not_true, Bool.not_false]
  refine callP (by kernel_rfl : hasBody Try.prog 22 = true) (cut_any vg gl N w2 hvg2 (by omega)) ?_
  rintro uc w3 ⟨hoc, hx3⟩
  simp only [CW_seq, CW_skip, CW_cond, CW_block, CW_loop, CW_reg, CW_draw, CW_exit, CW_ret, thenF_n, thenF_nK, thenF_r, thenF_x, blockF_n, blockF_nK, blockF_r, blockF_x, condF_t, condF_f, Rn_nil, Rn_ng, Rn_g, oneStep_g, os_move, os_assign, os_pick, os_bin, os_un, os_fieldAddr, os_field, os_indexAddr, os_index, os_slice, os_extract, os_nilCheck, os_makeFunc, os_build, os_len, os_cap, os_convert, os_min, os_max, on_load, on_buildSlice, on_alloc, on_box, on_makeSlice, on_lookup, mn_convert, mn_bin, optP_n, on_append, on_copy, on_store, on_call, ev, updo, upd, optP_p, resP_ok, resU_ok, ↓reduceIte, Nat.reduceEqDiff, List.map_cons, List.map_nil, List.map_toArray, argU, Nat.reduceAdd, gval_slot, gslot, List.getElem?_toArray, List.getElem?_cons_zero, List.getElem?_cons_succ, Option.bind_some, Option.some.injEq, reduceCtorEq, Bool.false_eq_true, Bool.true_eq_false, Option.map_some, Option.map_none, Int.toNat_zero, Option.isNone_none, Option.isNone_some, add_zero', binV, binI, unV, fieldV, extV, idxV, indexV, sliceV, lenV, capV, convV, min2V, max2V, TY, Option.isSome_some, Bool.true_and, Bool.and_true, Nat.mul_one, Int.toNat_natCast, le0n, Flat.val, Int.reduceToNat, Int.reduceLE, Int.reduceLT, Int.cast_ofNat_Int, decide_true, add_lit, Nat.zero_add, Nat.zero_mul, Nat.one_mul, Bool.not_true, Bool.not_false]
  refine callP (by kernel_rfl : hasBody Try.prog 21 = true) (fit_any uc (cutF gl N) (M : Int) w3 (hoc.rw_ (hle_ext hx3)) (by omega) (by omega) (by rw [cutF_len]; omega) (fun x hx => Nat.le_trans (cutF_rows gl N x hx) (by omega))) ?_
  rintro ug w4 ⟨hRgn, hx4⟩
  have hRg : R (hpOf w4) ug (fitF (M : Int) (cutF gl N)) := Rep.mono (hpNo_le _ _) hRgn
  have hvk4 : R (hpOf w4) vk kl := Rep.mono (hle_ext (((hx1.trans hx2).trans hx3).trans hx4)) hvk
  simp only [CW_seq, CW_skip, CW_cond, CW_block, CW_loop, CW_reg, CW_draw, CW_exit, CW_ret, thenF_n, thenF_nK, thenF_r, thenF_x, blockF_n, blockF_nK, blockF_r, blockF_x, condF_t, condF_f, Rn_nil, Rn_ng, Rn_g, oneStep_g, os_move, os_assign, os_pick, os_bin, os_un, os_fieldAddr, os_field, os_indexAddr, os_index, os_slice, os_extract, os_nilCheck, os_makeFunc, os_build, os_len, os_cap, os_convert, os_min, os_max, on_load, on_buildSlice, on_alloc, on_box, on_makeSlice, on_lookup, mn_convert, mn_bin, optP_n, on_append, on_copy, on_store, on_call, ev, updo, upd, optP_p, resP_ok, resU_ok, ↓reduceIte, Nat.reduceEqDiff, List.map_cons, List.map_nil, List.map_toArray, argU, Nat.reduceAdd, gval_slot, gslot, List.getElem?_toArray, List.getElem?_cons_zero, List.getElem?_cons_succ, Option.bind_some, Option.some.injEq, reduceCtorEq, Bool.false_eq_true, Bool.true_eq_false, Option.map_some, Option.map_none, Int.toNat_zero, Option.isNone_none, Option.isNone_some, add_zero', binV, binI, unV, fieldV, extV, idxV, indexV, sliceV, lenV, capV, convV, min2V, max2V, TY, Option.isSome_some, Bool.true_and, Bool.and_true, Nat.mul_one, Int.toNat_natCast, le0n, Flat.val, Int.reduceToNat, Int.reduceLE, Int.reduceLT, Int.cast_ofNat_Int, decide_true, add_lit, Nat.zero_add, Nat.zero_mul, Nat.one_mul, Bool.not_true, Bool.not_false]
  refine callP (by kernel_rfl : hasBody Try.prog 22 = true) (cut_any vk kl N w4 hvk4 (by omega)) ?_
  rintro ud w5 ⟨hod, hx5⟩
  simp only [CW_seq, CW_skip, CW_cond, CW_block, CW_loop, CW_reg, CW_draw, CW_exit, CW_ret, thenF_n, thenF_nK, thenF_r, thenF_x, blockF_n, blockF_nK, blockF_r, blockF_x, condF_t, condF_f, Rn_nil, Rn_ng, Rn_g, oneStep_g, os_move, os_assign, os_pick, os_bin, os_un, os_fieldAddr, os_field, os_indexAddr, os_index, os_slice, os_extract, os_nilCheck, os_makeFunc, os_build, os_len, os_cap, os_convert, os_min, os_max, on_load, on_buildSlice, on_alloc, on_box, on_makeSlice, on_lookup, mn_convert, mn_bin, optP_n, on_append, on_copy, on_store, on_call, ev, updo, upd, optP_p, resP_ok, resU_ok, ↓reduceIte, Nat.reduceEqDiff, List.map_cons, List.map_nil, List.map_toArray, argU, Nat.reduceAdd, gval_slot, gslot, List.getElem?_toArray, List.getElem?_cons_zero, List.getElem?_cons_succ, Option.bind_some, Option.some.injEq, reduceCtorEq, Bool.false_eq_true, Bool.true_eq_false, Option.map_some, Option.map_none, Int.toNat_zero, Option.isNone_none, Option.isNone_some, add_zero', binV, binI, unV, fieldV, extV, idxV, indexV, sliceV, lenV, capV, convV, min2V, max2V, TY, Option.isSome_some, Bool.true_and, Bool.and_true, Nat.mul_one, Int.toNat_natCast, le0n, Flat.val, Int.reduceToNat, Int.reduceLE, Int.reduceLT, Int.cast_ofNat_Int, decide_true, add_lit, Nat.zero_add, Nat.zero_mul, Nat.one_mul, Bool.not_true, Bool.not_false]
  refine callP (by kernel_rfl : hasBody Try.prog 21 = true) (fit_any ud (cutF kl N) (M : Int) w5 (hod.rw_ (hle_ext hx5)) (by omega) (by omega) (by rw [cutF_len]; omega) (fun x hx => Nat.le_trans (cutF_rows kl N x hx) (by omega))) ?_
  rintro uk w6 ⟨hRkn, hx6⟩
  have hRk : R (hpOf w6) uk (fitF (M : Int) (cutF kl N)) := Rep.mono (hpNo_le _ _) hRkn
  have hok := fit_ok (N := N) (M := M) (by omega) (by omega) (by omega) (by omega) st gl kl
  have hgl := fitF_rows (m := (M : Int)) (cutF_rows gl N)
  have hkl := fitF_rows (m := (M : Int)) (cutF_rows kl N)
  have hgn : (fitF (M : Int) (cutF gl N)).length = N := by rw [fitF_len, cutF_len]
  have hkn : (fitF (M : Int) (cutF kl N)).length = N := by rw [fitF_len, cutF_len]
  have hRs : R (hpOf w6) us (fitS N st) := Rep.mono (hle_ext (((hx3.trans hx4).trans hx5).trans hx6)) (hos.rw_ (hle_ext hx2))
  have hRg6 : R (hpOf w6) ug (fitF (M : Int) (cutF gl N)) := Rep.mono (hle_ext (hx5.trans hx6)) hRg
  have hsl := fitS_len (N : Int) st
  generalize fitF (M : Int) (cutF gl N) = g at *
  generalize fitF (M : Int) (cutF kl N) = k at *
  generalize fitS (N : Int) st = s at *
  simp only [CW_seq, CW_skip, CW_cond, CW_block, CW_loop, CW_reg, CW_draw, CW_exit, CW_ret, thenF_n, thenF_nK, thenF_r, thenF_x, blockF_n, blockF_nK, blockF_r, blockF_x, condF_t, condF_f, Rn_nil, Rn_ng, Rn_g, oneStep_g, os_move, os_assign, os_pick, os_bin, os_un, os_fieldAddr, os_field, os_indexAddr, os_index, os_slice, os_extract, os_nilCheck, os_makeFunc, os_build, os_len, os_cap, os_convert, os_min, os_max, on_load, on_buildSlice, on_alloc, on_box, on_makeSlice, on_lookup, mn_convert, mn_bin, optP_n, on_append, on_copy, on_store, on_call, ev, updo, upd, optP_p, resP_ok, resU_ok, ↓reduceIte, Nat.reduceEqDiff, List.map_cons, List.map_nil, List.map_toArray, argU, Nat.reduceAdd, gval_slot, gslot, List.getElem?_toArray, List.getElem?_cons_zero, List.getElem?_cons_succ, Option.bind_some, Option.some.injEq, reduceCtorEq, Bool.false_eq_true, Bool.true_eq_false, Option.map_some, Option.map_none, Int.toNat_zero, Option.isNone_none, Option.isNone_some, add_zero', binV, binI, unV, fieldV, extV, idxV, indexV, sliceV, lenV, capV, convV, min2V, max2V, TY, Option.isSome_some, Bool.true_and, Bool.and_true, Nat.mul_one, Int.toNat_natCast, le0n, Flat.val, Int.reduceToNat, Int.reduceLE, Int.reduceLT, Int.cast_ofNat_Int, decide_true, add_lit, Nat.zero_add, Nat.zero_mul, Nat.one_mul, Bool.not_true, Bool.not_false]
  refine callP (by kernel_rfl : hasBody Try.prog 19 = true) (mod_any f (M : Int) w6 (by omega)) ?_
  rintro u w6' ⟨hu, hw⟩
  subst hw; subst hu
  obtain ⟨F, hF, hFM⟩ := modf_nat f M (by omega)
  rw [hF]
  simp only [CW_seq, CW_skip, CW_cond, CW_block, CW_loop, CW_reg, CW_draw, CW_exit, CW_ret, thenF_n, thenF_nK, thenF_r, thenF_x, blockF_n, blockF_nK, blockF_r, blockF_x, condF_t, condF_f, Rn_nil, Rn_ng, Rn_g, oneStep_g, os_move, os_assign, os_pick, os_bin, os_un, os_fieldAddr, os_field, os_indexAddr, os_index, os_slice, os_extract, os_nilCheck, os_makeFunc, os_build, os_len, os_cap, os_convert, os_min, os_max, on_load, on_buildSlice, on_alloc, on_box, on_makeSlice, on_lookup, mn_convert, mn_bin, optP_n, on_append, on_copy, on_store, on_call, ev, updo, upd, optP_p, resP_ok, resU_ok, ↓reduceIte, Nat.reduceEqDiff, List.map_cons, List.map_nil, List.map_toArray, argU, Nat.reduceAdd, gval_slot, gslot, List.getElem?_toArray, List.getElem?_cons_zero, List.getElem?_cons_succ, Option.bind_some, Option.some.injEq, reduceCtorEq, Bool.false_eq_true, Bool.true_eq_false, Option.map_some, Option.map_none, Int.toNat_zero, Option.isNone_none, Option.isNone_some, add_zero', binV, binI, unV, fieldV, extV, idxV, indexV, sliceV, lenV, capV, convV, min2V, max2V, TY, Option.isSome_some, Bool.true_and, Bool.and_true, Nat.mul_one, Int.toNat_natCast, le0n, Flat.val, Int.reduceToNat, Int.reduceLE, Int.reduceLT, Int.cast_ofNat_Int, decide_true, add_lit, Nat.zero_add, Nat.zero_mul, Nat.one_mul, Bool.not_true, Bool.not_false]
  refine callP (by kernel_rfl : hasBody Try.prog 19 = true) (mod_any b (N : Int) w6' (by omega)) ?_
  rintro u w6 ⟨hu, hw⟩
  subst hw; subst hu
  obtain ⟨hb0, hbN⟩ := modf_range b (m := (N : Int)) (by omega)
  generalize modf b (N : Int) = b at *
  have hx06 := ((((hx1.trans hx2).trans hx3).trans hx4).trans hx5).trans hx6
  clear hRg hos hoc hod hv1 hvg2 hvk4
  simp only [CW_seq, CW_skip, CW_cond, CW_block, CW_loop, CW_reg, CW_draw, CW_exit, CW_ret, thenF_n, thenF_nK, thenF_r, thenF_x, blockF_n, blockF_nK, blockF_r, blockF_x, condF_t, condF_f, Rn_nil, Rn_ng, Rn_g, oneStep_g, os_move, os_assign, os_pick, os_bin, os_un, os_fieldAddr, os_field, os_indexAddr, os_index, os_slice, os_extract, os_nilCheck, os_makeFunc, os_build, os_len, os_cap, os_convert, os_min, os_max, on_load, on_buildSlice, on_alloc, on_box, on_makeSlice, on_lookup, mn_convert, mn_bin, optP_n, on_append, on_copy, on_store, on_call, ev, updo, upd, optP_p, resP_ok, resU_ok, ↓reduceIte, Nat.reduceEqDiff, List.map_cons, List.map_nil, List.map_toArray, argU, Nat.reduceAdd, gval_slot, gslot, List.getElem?_toArray, List.getElem?_cons_zero, List.getElem?_cons_succ, Option.bind_some, Option.some.injEq, reduceCtorEq, Bool.false_eq_true, Bool.true_eq_false, Option.map_some, Option.map_none, Int.toNat_zero, Option.isNone_none, Option.isNone_some, add_zero', binV, binI, unV, fieldV, extV, idxV, indexV, sliceV, lenV, capV, convV, min2V, max2V, TY, Option.isSome_some, Bool.true_and, Bool.and_true, Nat.mul_one, Int.toNat_natCast, le0n, Flat.val, Int.reduceToNat, Int.reduceLE, Int.reduceLT, Int.cast_ofNat_Int, decide_true, add_lit, Nat.zero_add, Nat.zero_mul, Nat.one_mul, Bool.not_true, Bool.not_false]
  refine callP (by kernel_rfl : hasBody Try.prog 16 = true) (of_any (N : Int) (M : Int) us ug uk s g k w6 hRs hRg6 hRk (by omega) (fun x hx => Nat.le_trans (hgl x hx) (by omega)) (fun x hx => Nat.le_trans (hkl x hx) (by omega))) ?_
  rintro u w8 ⟨⟨vr, ok, hu, ha1, ha2⟩, hx8⟩
  have hokt : ok = true := by
    cases ok
    · exact absurd hok (ha2 rfl).1
    · rfl
  obtain ⟨_, vi, sol, T, hvr, hRn, hsol⟩ := ha1 hokt
  have hR : R (hpOf w8) vi sol := Rep.mono (hpNo_le _ _) hRn
  subst hu; subst hvr
  have Sv := hR.isS
  have nv := hR.vlen
  obtain ⟨p1, p2⟩ := solV w8 (T : Int) Sv
  have hIn := fun w' hx => @sol_In w8 w' vi (T : Int) hx
  have xA := Ext.alloc w8 (.cells #[vi, .int .i64 (T : Int)] 27)
  generalize w8.alloc (.cells #[vi, .int .i64 (T : Int)] 27) = w9 at *
  have hx69 := hx8.trans xA
  have l1 := hIn w9 (Mod.refl _)
  have hNt : ((N : Nat) : Int).toNat = N := by omega
  have hMt : ((M : Nat) : Int).toNat = M := by omega
  rw [hNt, hMt] at hsol
  have hnl : (newF N s).1.length = N := (newF_graph N s).nx.len
  have hsl1 : sol.length = N := hsol.len.trans hnl
  have hval : ∀ x ∈ s, validE N x := by have := hok.st; rw [hNt] at this; exact this
  have hgf : factsOk g M := by have := hok.gf; rw [hMt] at this; exact this
  have hkb : okN N b = true := okN_iff.2 ⟨hb0, hbN⟩
  have hmem := hsol.mem hgf (b := b) (by rw [hnl]; exact hkb) F
  have hways := comes_ways (g := g) (k := k) (F := F) hval b
  have hlast : (rowF sol b).contains (F : Int) = s.any (comesB g (newF N (passF k F s)).1 F b) := by
    rw [Bool.eq_iff_iff, List.contains_iff_mem, hmem, hways]
  rw [hsl1] at nv
  obtain ⟨n1, nv1, z1⟩ : ∃ e : Nat, vlen vi = e ∧ ((e : Int) != (N : Int)) = false := ⟨_, nv, by simp⟩
  have hRs9 : R (hpOf w9) us s := Rep.mono (hle_ext hx69) hRs
  have hRg9 : R (hpOf w9) ug g := Rep.mono (hle_ext hx69) hRg6
  have hRk9 : R (hpOf w9) uk k := Rep.mono (hle_ext hx69) hRk
  have hR9 : R (hpOf w9) vi sol := Rep.mono (hle_ext xA) hR
  have Ss := hRs9.isS
  have ns := hRs9.vlen
  simp only [CW_seq, CW_skip, CW_cond, CW_block, CW_loop, CW_reg, CW_draw, CW_exit, CW_ret, thenF_n, thenF_nK, thenF_r, thenF_x, blockF_n, blockF_nK, blockF_r, blockF_x, condF_t, condF_f, Rn_nil, Rn_ng, Rn_g, oneStep_g, os_move, os_assign, os_pick, os_bin, os_un, os_fieldAddr, os_field, os_indexAddr, os_index, os_slice, os_extract, os_nilCheck, os_makeFunc, os_build, os_len, os_cap, os_convert, os_min, os_max, on_load, on_buildSlice, on_alloc, on_box, on_makeSlice, on_lookup, mn_convert, mn_bin, optP_n, on_append, on_copy, on_store, on_call, ev, updo, upd, optP_p, resP_ok, resU_ok, ↓reduceIte, Nat.reduceEqDiff, List.map_cons, List.map_nil, List.map_toArray, argU, Nat.reduceAdd, gval_slot, gslot, List.getElem?_toArray, List.getElem?_cons_zero, List.getElem?_cons_succ, Option.bind_some, Option.some.injEq, reduceCtorEq, Bool.false_eq_true, Bool.true_eq_false, Option.map_some, Option.map_none, Int.toNat_zero, Option.isNone_none, Option.isNone_some, add_zero', binV, binI, unV, fieldV, extV, idxV, indexV, sliceV, lenV, capV, convV, min2V, max2V, TY, Option.isSome_some, Bool.true_and, Bool.and_true, Nat.mul_one, Int.toNat_natCast, le0n, Flat.val, Int.reduceToNat, Int.reduceLE, Int.reduceLT, Int.cast_ofNat_Int, decide_true, add_lit, Nat.zero_add, Nat.zero_mul, Nat.one_mul, Bool.not_true, Bool.not_false, p1, p2, hokt, Bool.not_true, l1, Sv, nv1, z1]
  refine callP (by kernel_rfl : hasBody Try.prog 26 = true) (new_any N _ [] w9 (by omega) (nilR _) (by simp)) ?_
  rintro pg w10 ⟨⟨M0, hgo0⟩, hx10⟩
  simp only [CW_seq, CW_skip, CW_cond, CW_block, CW_loop, CW_reg, CW_draw, CW_exit, CW_ret, thenF_n, thenF_nK, thenF_r, thenF_x, blockF_n, blockF_nK, blockF_r, blockF_x, condF_t, condF_f, Rn_nil, Rn_ng, Rn_g, oneStep_g, os_move, os_assign, os_pick, os_bin, os_un, os_fieldAddr, os_field, os_indexAddr, os_index, os_slice, os_extract, os_nilCheck, os_makeFunc, os_build, os_len, os_cap, os_convert, os_min, os_max, on_load, on_buildSlice, on_alloc, on_box, on_makeSlice, on_lookup, mn_convert, mn_bin, optP_n, on_append, on_copy, on_store, on_call, ev, updo, upd, optP_p, resP_ok, resU_ok, ↓reduceIte, Nat.reduceEqDiff, List.map_cons, List.map_nil, List.map_toArray, argU, Nat.reduceAdd, gval_slot, gslot, List.getElem?_toArray, List.getElem?_cons_zero, List.getElem?_cons_succ, Option.bind_some, Option.some.injEq, reduceCtorEq, Bool.false_eq_true, Bool.true_eq_false, Option.map_some, Option.map_none, Int.toNat_zero, Option.isNone_none, Option.isNone_some, add_zero', binV, binI, unV, fieldV, extV, idxV, indexV, sliceV, lenV, capV, convV, min2V, max2V, TY, Option.isSome_some, Bool.true_and, Bool.and_true, Nat.mul_one, Int.toNat_natCast, le0n, Flat.val, Int.reduceToNat, Int.reduceLE, Int.reduceLT, Int.cast_ofNat_Int, decide_true, add_lit, Nat.zero_add, Nat.zero_mul, Nat.one_mul, Bool.not_true, Bool.not_false, Ss, ns]
  refine loop_rule [0, 1, 2, 3, 5, 6, 15, 17, 70, 71] (σ := Nat) (fun i f w' => f 72 = .int .i64 i ∧ i ≤ s.length ∧ (∃ Mb, GO (hpOf w9) w' pg (newF N (passF k F (s.take i))).1 (newF N (passF k F (s.take i))).2 Mb) ∧ Ext w9 w') (fun i => s.length - i) 0 (by decide +kernel) ?_ ?_
  · simp only [upd, ↓reduceIte, Nat.reduceEqDiff]
    exact ⟨rfl, Nat.zero_le _, ⟨M0, hgo0⟩, hx10⟩
  · rintro i fr w11 hk ⟨h72, hil, ⟨Mb, hgo⟩, hx11⟩
    simp only [List.forall_mem_cons, upd, ↓reduceIte, Nat.reduceEqDiff] at hk
    obtain ⟨e0, e1, e2, e3, e5, e6, e15, e17, e70, e71, _⟩ := hk
    simp only [CW_seq, CW_skip, CW_cond, CW_block, CW_loop, CW_reg, CW_draw, CW_exit, CW_ret, thenF_n, thenF_nK, thenF_r, thenF_x, blockF_n, blockF_nK, blockF_r, blockF_x, condF_t, condF_f, Rn_nil, Rn_ng, Rn_g, oneStep_g, os_move, os_assign, os_pick, os_bin, os_un, os_fieldAddr, os_field, os_indexAddr, os_index, os_slice, os_extract, os_nilCheck, os_makeFunc, os_build, os_len, os_cap, os_convert, os_min, os_max, on_load, on_buildSlice, on_alloc, on_box, on_makeSlice, on_lookup, mn_convert, mn_bin, optP_n, on_append, on_copy, on_store, on_call, ev, updo, upd, optP_p, resP_ok, resU_ok, ↓reduceIte, Nat.reduceEqDiff, List.map_cons, List.map_nil, List.map_toArray, argU, Nat.reduceAdd, gval_slot, gslot, List.getElem?_toArray, List.getElem?_cons_zero, List.getElem?_cons_succ, Option.bind_some, Option.some.injEq, reduceCtorEq, Bool.false_eq_true, Bool.true_eq_false, Option.map_some, Option.map_none, Int.toNat_zero, Option.isNone_none, Option.isNone_some, add_zero', binV, binI, unV, fieldV, extV, idxV, indexV, sliceV, lenV, capV, convV, min2V, max2V, TY, Option.isSome_some, Bool.true_and, Bool.and_true, Nat.mul_one, Int.toNat_natCast, le0n, Flat.val, Int.reduceToNat, Int.reduceLE, Int.reduceLT, Int.cast_ofNat_Int, decide_true, add_lit, Nat.zero_add, Nat.zero_mul, Nat.one_mul, Bool.not_true, Bool.not_false, h72, e71]
    refine condF_split (fun hc => ?_) (fun hc => ?_)
    · have hlt : i < s.length := by simpa using hc
      have hin := hRs9.inS hlt
      have hld := ldP hRs9 (hle_ext hx11) (List.getElem?_eq_getElem hlt)
      have hve := hval _ (List.getElem_mem hlt)
      have hpt := passF_take (k := k) (F := (F : Int)) hlt
      have hgk := newF_graph N (passF k F (s.take i))
      have hsn := newF_snoc N (passF k F (s.take i)) s[i]
      generalize s[i] = e at hld hve hpt hsn
      obtain ⟨x, y⟩ := e
      obtain ⟨v1, v2, v3, v4⟩ := hve
      simp only at hld hpt v1 v2 v3 v4
      have q6 : binV Try.prog .add 3 (.int .i64 i) (.int .i64 1) = some (.int .i64 ((i + 1 : Nat) : Int)) := by
        simp only [binV, binI, if_true]; rw [i64s i (by omega)]
      obtain ⟨p3, p4⟩ := pairV w11 x y
      have q0 := pair0 w11 x y
      have q1 := pair1 w11 x y
      have hxA := Ext.alloc w11 (.cells #[.int .i64 x, .int .i64 y] 38)
      have hgo1 := hgo.mod hxA fun b _ h => h
      have hx12 := hx11.trans hxA
      generalize w11.alloc (.cells #[.int .i64 x, .int .i64 y] 38) = w12 at *
      have d0 : decide (0 ≤ x) = true := by simpa using v1
      have hkx : okN k.length x = true := okN_iff.2 ⟨v1, by omega⟩
      have hkg := (rowF_at hkx).1
      obtain ⟨ux, hux, cx⟩ := hRk9.row hkg
      have ink := hRk9.inS (k := x.toNat) (by have := okN_iff.1 hkx; omega)
      have ldx := ld_at (P := Try.prog) (t := 37) cx (hle_ext hx12) tyG37
      have hxl := hkl _ (rowF_mem hkx)
      simp only [CW_seq, CW_skip, CW_cond, CW_block, CW_loop, CW_reg, CW_draw, CW_exit, CW_ret, thenF_n, thenF_nK, thenF_r, thenF_x, blockF_n, blockF_nK, blockF_r, blockF_x, condF_t, condF_f, Rn_nil, Rn_ng, Rn_g, oneStep_g, os_move, os_assign, os_pick, os_bin, os_un, os_fieldAddr, os_field, os_indexAddr, os_index, os_slice, os_extract, os_nilCheck, os_makeFunc, os_build, os_len, os_cap, os_convert, os_min, os_max, on_load, on_buildSlice, on_alloc, on_box, on_makeSlice, on_lookup, mn_convert, mn_bin, optP_n, on_append, on_copy, on_store, on_call, ev, updo, upd, optP_p, resP_ok, resU_ok, ↓reduceIte, Nat.reduceEqDiff, List.map_cons, List.map_nil, List.map_toArray, argU, Nat.reduceAdd, gval_slot, gslot, List.getElem?_toArray, List.getElem?_cons_zero, List.getElem?_cons_succ, Option.bind_some, Option.some.injEq, reduceCtorEq, Bool.false_eq_true, Bool.true_eq_false, Option.map_some, Option.map_none, Int.toNat_zero, Option.isNone_none, Option.isNone_some, add_zero', binV, binI, unV, fieldV, extV, idxV, indexV, sliceV, lenV, capV, convV, min2V, max2V, TY, Option.isSome_some, Bool.true_and, Bool.and_true, Nat.mul_one, Int.toNat_natCast, le0n, Flat.val, Int.reduceToNat, Int.reduceLE, Int.reduceLT, Int.cast_ofNat_Int, decide_true, add_lit, Nat.zero_add, Nat.zero_mul, Nat.one_mul, Bool.not_true, Bool.not_false, h72, e70, hin, hld, p3, p4, q0, q1, e3, d0, ink, ldx, e5]
      refine callP (by kernel_rfl : hasBody Try.prog 23 = true) (Has_any ux (rowF k x) F w12 (Rep.mono (hle_ext hx12) hux) (by omega)) ?_
      rintro r w13 ⟨hr, hw⟩
      subst hw; subst hr
      cases hc1 : (rowF k x).contains (F : Int)
      · rw [hc1, if_neg (by simp)] at hpt
        simp only [CW_seq, CW_skip, CW_cond, CW_block, CW_loop, CW_reg, CW_draw, CW_exit, CW_ret, thenF_n, thenF_nK, thenF_r, thenF_x, blockF_n, blockF_nK, blockF_r, blockF_x, condF_t, condF_f, Rn_nil, Rn_ng, Rn_g, oneStep_g, os_move, os_assign, os_pick, os_bin, os_un, os_fieldAddr, os_field, os_indexAddr, os_index, os_slice, os_extract, os_nilCheck, os_makeFunc, os_build, os_len, os_cap, os_convert, os_min, os_max, on_load, on_buildSlice, on_alloc, on_box, on_makeSlice, on_lookup, mn_convert, mn_bin, optP_n, on_append, on_copy, on_store, on_call, ev, updo, upd, optP_p, resP_ok, resU_ok, ↓reduceIte, Nat.reduceEqDiff, List.map_cons, List.map_nil, List.map_toArray, argU, Nat.reduceAdd, gval_slot, gslot, List.getElem?_toArray, List.getElem?_cons_zero, List.getElem?_cons_succ, Option.bind_some, Option.some.injEq, reduceCtorEq, Bool.false_eq_true, Bool.true_eq_false, Option.map_some, Option.map_none, Int.toNat_zero, Option.isNone_none, Option.isNone_some, add_zero', binV, binI, unV, fieldV, extV, idxV, indexV, sliceV, lenV, capV, convV, min2V, max2V, TY, Option.isSome_some, Bool.true_and, Bool.and_true, Nat.mul_one, Int.toNat_natCast, le0n, Flat.val, Int.reduceToNat, Int.reduceLE, Int.reduceLT, Int.cast_ofNat_Int, decide_true, add_lit, Nat.zero_add, Nat.zero_mul, Nat.one_mul, Bool.not_true, Bool.not_false, Bool.not_false, e17, q0, q1]
        refine callP (by kernel_rfl : hasBody Try.prog 39 = true) (add_any (hpOf w9) pg _ _ Mb x y w13 hgo1 (hle_ext hx12) (by rw [hgk.pv.len, hgk.nx.len]) (hgk.nx.rising (by omega)) (hgk.pv.rising (by omega))) ?_
        rintro u w14 ⟨hu, M', hgo5, hm5, hM'⟩
        have hx14 : Ext w9 w14 := Mod.ext_of hx12 hm5 fun b hb => by
          have := hgo1.free b hb
          exact Nat.le_of_not_lt fun hlt => by simp [hpOf, hlt] at this
        simp only [CW_seq, CW_skip, CW_cond, CW_block, CW_loop, CW_reg, CW_draw, CW_exit, CW_ret, thenF_n, thenF_nK, thenF_r, thenF_x, blockF_n, blockF_nK, blockF_r, blockF_x, condF_t, condF_f, Rn_nil, Rn_ng, Rn_g, oneStep_g, os_move, os_assign, os_pick, os_bin, os_un, os_fieldAddr, os_field, os_indexAddr, os_index, os_slice, os_extract, os_nilCheck, os_makeFunc, os_build, os_len, os_cap, os_convert, os_min, os_max, on_load, on_buildSlice, on_alloc, on_box, on_makeSlice, on_lookup, mn_convert, mn_bin, optP_n, on_append, on_copy, on_store, on_call, ev, updo, upd, optP_p, resP_ok, resU_ok, ↓reduceIte, Nat.reduceEqDiff, List.map_cons, List.map_nil, List.map_toArray, argU, Nat.reduceAdd, gval_slot, gslot, List.getElem?_toArray, List.getElem?_cons_zero, List.getElem?_cons_succ, Option.bind_some, Option.some.injEq, reduceCtorEq, Bool.false_eq_true, Bool.true_eq_false, Option.map_some, Option.map_none, Int.toNat_zero, Option.isNone_none, Option.isNone_some, add_zero', unV, fieldV, extV, idxV, indexV, sliceV, lenV, capV, convV, min2V, max2V, TY, Option.isSome_some, Bool.true_and, Bool.and_true, Nat.mul_one, Int.toNat_natCast, le0n, Flat.val, Int.reduceToNat, Int.reduceLE, Int.reduceLT, Int.cast_ofNat_Int, decide_true, add_lit, Nat.zero_add, Nat.zero_mul, Nat.one_mul, Bool.not_true, Bool.not_false, h72, q6]
        refine ⟨i + 1, by omega, by trivial, by omega, ⟨M', ?_⟩, hx14⟩
        rw [hpt, hsn]
        exact hgo5
      · rw [hc1, if_pos rfl] at hpt
        simp only [CW_seq, CW_skip, CW_cond, CW_block, CW_loop, CW_reg, CW_draw, CW_exit, CW_ret, thenF_n, thenF_nK, thenF_r, thenF_x, blockF_n, blockF_nK, blockF_r, blockF_x, condF_t, condF_f, Rn_nil, Rn_ng, Rn_g, oneStep_g, os_move, os_assign, os_pick, os_bin, os_un, os_fieldAddr, os_field, os_indexAddr, os_index, os_slice, os_extract, os_nilCheck, os_makeFunc, os_build, os_len, os_cap, os_convert, os_min, os_max, on_load, on_buildSlice, on_alloc, on_box, on_makeSlice, on_lookup, mn_convert, mn_bin, optP_n, on_append, on_copy, on_store, on_call, ev, updo, upd, optP_p, resP_ok, resU_ok, ↓reduceIte, Nat.reduceEqDiff, List.map_cons, List.map_nil, List.map_toArray, argU, Nat.reduceAdd, gval_slot, gslot, List.getElem?_toArray, List.getElem?_cons_zero, List.getElem?_cons_succ, Option.bind_some, Option.some.injEq, reduceCtorEq, Bool.false_eq_true, Bool.true_eq_false, Option.map_some, Option.map_none, Int.toNat_zero, Option.isNone_none, Option.isNone_some, add_zero', unV, fieldV, extV, idxV, indexV, sliceV, lenV, capV, convV, min2V, max2V, TY, Option.isSome_some, Bool.true_and, Bool.and_true, Nat.mul_one, Int.toNat_natCast, le0n, Flat.val, Int.reduceToNat, Int.reduceLE, Int.reduceLT, Int.cast_ofNat_Int, decide_true, add_lit, Nat.zero_add, Nat.zero_mul, Nat.one_mul, Bool.not_true, Bool.not_false, Bool.not_true, h72, q6]
        refine ⟨i + 1, by omega, by trivial, by omega, ⟨Mb, ?_⟩, hx12⟩
        rw [hpt]
        exact hgo1
    · have hge : i = s.length := by simp at hc; omega
      subst hge
      rw [List.take_length] at hgo
      have hgr := hgo.read (hle_ext hx11)
      have hgg := newF_graph N (passF k F s)
      generalize newF N (passF k F s) = G at *
      obtain ⟨nx, pv⟩ := G
      simp only at hgr hlast
      have hnl2 : nx.length = N := hgg.nx.len
      have hgn' : GoodRows nx.length nx := by rw [hnl2]; exact hgg.nx
      simp only [CW_seq, CW_skip, CW_cond, CW_block, CW_loop, CW_reg, CW_draw, CW_exit, CW_ret, thenF_n, thenF_nK, thenF_r, thenF_x, blockF_n, blockF_nK, blockF_r, blockF_x, condF_t, condF_f, Rn_nil, Rn_ng, Rn_g, oneStep_g, os_move, os_assign, os_pick, os_bin, os_un, os_fieldAddr, os_field, os_indexAddr, os_index, os_slice, os_extract, os_nilCheck, os_makeFunc, os_build, os_len, os_cap, os_convert, os_min, os_max, on_load, on_buildSlice, on_alloc, on_box, on_makeSlice, on_lookup, mn_convert, mn_bin, optP_n, on_append, on_copy, on_store, on_call, ev, updo, upd, optP_p, resP_ok, resU_ok, ↓reduceIte, Nat.reduceEqDiff, List.map_cons, List.map_nil, List.map_toArray, argU, Nat.reduceAdd, gval_slot, gslot, List.getElem?_toArray, List.getElem?_cons_zero, List.getElem?_cons_succ, Option.bind_some, Option.some.injEq, reduceCtorEq, Bool.false_eq_true, Bool.true_eq_false, Option.map_some, Option.map_none, Int.toNat_zero, Option.isNone_none, Option.isNone_some, add_zero', binV, binI, unV, fieldV, extV, idxV, indexV, sliceV, lenV, capV, convV, min2V, max2V, TY, Option.isSome_some, Bool.true_and, Bool.and_true, Nat.mul_one, Int.toNat_natCast, le0n, Flat.val, Int.reduceToNat, Int.reduceLE, Int.reduceLT, Int.cast_ofNat_Int, decide_true, add_lit, Nat.zero_add, Nat.zero_mul, Nat.one_mul, Bool.not_true, Bool.not_false, e1, Ss, ns]
      refine loop_rule [0, 2, 5, 6, 15, 17, 91, 92] (σ := Nat) (fun j f w' => f 93 = .int .i64 j ∧ j ≤ s.length ∧ f 20 = .bool ((s.take j).any (comesB g nx F b)) ∧ Ext w11 w') (fun j => s.length - j) 0 (by decide +kernel) ?_ ?_
      · simp only [upd, ↓reduceIte, Nat.reduceEqDiff]
        exact ⟨by trivial, Nat.zero_le _, by simp, Mod.refl _⟩
      · rintro j fr2 w12 hk ⟨h93, hjl, h20, hx12⟩
        simp only [List.forall_mem_cons, upd, ↓reduceIte, Nat.reduceEqDiff] at hk
        simp only [e0, e2, e5, e6, e15, e17] at hk
        obtain ⟨i0, i2, i5, i6, i15, i17, i91, i92, _⟩ := hk
        simp only [CW_seq, CW_skip, CW_cond, CW_block, CW_loop, CW_reg, CW_draw, CW_exit, CW_ret, thenF_n, thenF_nK, thenF_r, thenF_x, blockF_n, blockF_nK, blockF_r, blockF_x, condF_t, condF_f, Rn_nil, Rn_ng, Rn_g, oneStep_g, os_move, os_assign, os_pick, os_bin, os_un, os_fieldAddr, os_field, os_indexAddr, os_index, os_slice, os_extract, os_nilCheck, os_makeFunc, os_build, os_len, os_cap, os_convert, os_min, os_max, on_load, on_buildSlice, on_alloc, on_box, on_makeSlice, on_lookup, mn_convert, mn_bin, optP_n, on_append, on_copy, on_store, on_call, ev, updo, upd, optP_p, resP_ok, resU_ok, ↓reduceIte, Nat.reduceEqDiff, List.map_cons, List.map_nil, List.map_toArray, argU, Nat.reduceAdd, gval_slot, gslot, List.getElem?_toArray, List.getElem?_cons_zero, List.getElem?_cons_succ, Option.bind_some, Option.some.injEq, reduceCtorEq, Bool.false_eq_true, Bool.true_eq_false, Option.map_some, Option.map_none, Int.toNat_zero, Option.isNone_none, Option.isNone_some, add_zero', binV, binI, unV, fieldV, extV, idxV, indexV, sliceV, lenV, capV, convV, min2V, max2V, TY, Option.isSome_some, Bool.true_and, Bool.and_true, Nat.mul_one, Int.toNat_natCast, le0n, Flat.val, Int.reduceToNat, Int.reduceLE, Int.reduceLT, Int.cast_ofNat_Int, decide_true, add_lit, Nat.zero_add, Nat.zero_mul, Nat.one_mul, Bool.not_true, Bool.not_false, h93, i92]
        refine condF_split (fun hc => ?_) (fun hc => ?_)
        · have hlt : j < s.length := by simpa using hc
          have hx9 := hx11.trans hx12
          have hin := hRs9.inS hlt
          have hld := ldP hRs9 (hle_ext hx9) (List.getElem?_eq_getElem hlt)
          have hve := hval _ (List.getElem_mem hlt)
          have hat := any_takeP (p := comesB g nx F b) hlt
          have hcb : (F : Int) ∈ rowF g s[j].1 → Way nx s[j].2 b → comesB g nx F b s[j] = true := fun h1 h2 => comesB_iff.2 ⟨h1, h2⟩
          have hcb2 : comesB g nx F b s[j] = true → (F : Int) ∈ rowF g s[j].1 ∧ Way nx s[j].2 b := fun h => comesB_iff.1 h
          generalize s[j] = e at hld hve hat hcb hcb2
          obtain ⟨x, y⟩ := e
          obtain ⟨v1, v2, v3, v4⟩ := hve
          simp only at hld v1 v2 v3 v4 hcb hcb2
          have d0 : decide (0 ≤ x) = true := by simpa using v1
          have hkx : okN g.length x = true := okN_iff.2 ⟨v1, by rw [hgn]; exact v2⟩
          have hky : okN nx.length y = true := okN_iff.2 ⟨v3, by rw [hnl2]; exact v4⟩
          have hgx : x.toNat < g.length := (rowF_at hkx).2
          have hxl : (rowF g x).length ≤ 6 := hgl _ (rowF_mem hkx)
          generalize hpx : comesB g nx F b (x, y) = px at *
          have q6 : binV Try.prog .add 3 (.int .i64 j) (.int .i64 1) = some (.int .i64 ((j + 1 : Nat) : Int)) := by
            simp only [binV, binI, if_true]; rw [i64s j (by omega)]
          obtain ⟨p3, p4⟩ := pairV w12 x y
          have q0 := pair0 w12 x y
          have hxA := Ext.alloc w12 (.cells #[.int .i64 x, .int .i64 y] 38)
          have ldy : ∀ w3, Ext (w12.alloc (.cells #[.int .i64 x, .int .i64 y] 38)) w3 → (Instr.loadAt 3 (.pointer (some ⟨w12.heap.size, 1, none⟩))).run Try.prog w3 = .ok (.int .i64 y) w3 := fun w3 h => blk_ld (i := 1) ((h.block _ (by simp) id).trans (heap_alloc_new w12 _)) rfl tyG3
          have hx13 := hx12.trans hxA
          generalize w12.alloc (.cells #[.int .i64 x, .int .i64 y] 38) = w13 at *
          generalize (s.take j).any (comesB g nx F b) = cb at h20 hat
          rcases Bool.eq_false_or_eq_true cb with hcb1 | hcb1
          case' inr =>
            subst hcb1
          case inr =>
            have hkg := (rowF_at hkx).1
            have hx913 := hx11.trans hx13
            obtain ⟨ux, hux, cx⟩ := hRg9.row hkg
            have ing := hRg9.inS hgx
            have ldx := ld_at (P := Try.prog) (t := 37) cx (hle_ext hx913) tyG37
            have l2 := ldy w13 (Mod.refl _)
            simp only [CW_seq, CW_skip, CW_cond, CW_block, CW_loop, CW_regp, CW_draw, CW_exit, CW_ret, thenF_n, thenF_nK, thenF_r, thenF_x, blockF_n, blockF_nK, blockF_r, blockF_x, condF_t, condF_f, Rn_nilp, Rn_ngp, Rn_gp, oneStep_g, os_move, os_assign, os_pick, os_bin, os_un, os_fieldAddr, os_field, os_indexAddr, os_index, os_slice, os_extract, os_nilCheck, os_makeFunc, os_build, os_len, os_cap, os_convert, os_min, os_max, on_load, on_buildSlice, on_alloc, on_box, on_makeSlice, on_lookup, mn_convert, mn_bin, optP_n, on_append, on_copy, on_store, on_call, ev, updo, upd, optP_p, resP_p, resU_p, ↓reduceIte, Nat.reduceEqDiff, List.map_cons, List.map_nil, List.map_toArray, argU, Nat.reduceAdd, gval_slotB, boolO_b, boolO_u, gslot, List.getElem?_toArray, List.getElem?_cons_zero, List.getElem?_cons_succ, Option.bind_some, Option.some.injEq, reduceCtorEq, Bool.false_eq_true, Bool.true_eq_false, Option.map_some, Option.map_none, Int.toNat_zero, Option.isNone_none, Option.isNone_some, add_zero', unV, fieldV, extV, idxV, indexV, sliceV, lenV, capV, convV, min2V, max2V, TY, Option.isSome_some, Bool.true_and, Bool.and_true, Nat.mul_one, Int.toNat_natCast, le0n, Flat.val, Int.reduceToNat, Int.reduceLE, Int.reduceLT, Int.cast_ofNat_Int, decide_true, add_lit, Nat.zero_add, Nat.zero_mul, Nat.one_mul, Bool.not_true, Bool.not_false, h93, i91, hin, hld, p3, p4, q0, h20, i2, d0, ing, ldx, i5]
            refine callP (by kernel_rfl : hasBody Try.prog 23 = true) (Has_any ux (rowF g x) F w13 (Rep.mono (hle_ext hx913) hux) (by omega)) ?_
            rintro r w14 ⟨hr, hw⟩
            subst hw; subst hr
            cases hc1 : (rowF g x).contains (F : Int)
            · have hpf : px = false := by
                cases px
                · rfl
                · have h9 := (hcb2 rfl).1
                  rw [List.contains_eq_mem, decide_eq_false_iff_not] at hc1
                  exact absurd h9 hc1
              simp only [CW_seq, CW_skip, CW_cond, CW_block, CW_loop, CW_reg, CW_draw, CW_exit, CW_ret, thenF_n, thenF_nK, thenF_r, thenF_x, blockF_n, blockF_nK, blockF_r, blockF_x, condF_t, condF_f, Rn_nil, Rn_ng, Rn_g, oneStep_g, os_move, os_assign, os_pick, os_bin, os_un, os_fieldAddr, os_field, os_indexAddr, os_index, os_slice, os_extract, os_nilCheck, os_makeFunc, os_build, os_len, os_cap, os_convert, os_min, os_max, on_load, on_buildSlice, on_alloc, on_box, on_makeSlice, on_lookup, mn_convert, mn_bin, optP_n, on_append, on_copy, on_store, on_call, ev, updo, upd, optP_p, resP_ok, resU_ok, ↓reduceIte, Nat.reduceEqDiff, List.map_cons, List.map_nil, List.map_toArray, argU, Nat.reduceAdd, gval_slot, gslot, List.getElem?_toArray, List.getElem?_cons_zero, List.getElem?_cons_succ, Option.bind_some, Option.some.injEq, reduceCtorEq, Bool.false_eq_true, Bool.true_eq_false, Option.map_some, Option.map_none, Int.toNat_zero, Option.isNone_none, Option.isNone_some, add_zero', unV, fieldV, extV, idxV, indexV, sliceV, lenV, capV, convV, min2V, max2V, TY, Option.isSome_some, Bool.true_and, Bool.and_true, Nat.mul_one, Int.toNat_natCast, le0n, Flat.val, Int.reduceToNat, Int.reduceLE, Int.reduceLT, Int.cast_ofNat_Int, decide_true, add_lit, Nat.zero_add, Nat.zero_mul, Nat.one_mul, Bool.not_true, Bool.not_false, h93, q6]
              exact ⟨j + 1, by omega, by trivial, by omega, by rw [hat, hpf]; rfl, hx13⟩
            · obtain ⟨vt, w15, hlit, hot, hxt, _⟩ := lit (P := Try.prog) (w := w14) (h := hpOf w14) (α := Int) (xs := [.int .i64 y]) (ys := [y]) (parts := #[(0, .int .i64 y)]) (n := 1) sokI rfl (encs_ints.2 rfl) (by simp [Value.cells]) rfl rfl (by simp) (by simp) (hle_refl _)
              simp only [CW_seq, CW_skip, CW_cond, CW_block, CW_loop, CW_regp, CW_draw, CW_exit, CW_ret, thenF_n, thenF_nK, thenF_r, thenF_x, blockF_n, blockF_nK, blockF_r, blockF_x, condF_t, condF_f, Rn_nilp, Rn_ngp, Rn_gp, oneStep_g, os_move, os_assign, os_pick, os_bin, os_un, os_fieldAddr, os_field, os_indexAddr, os_index, os_slice, os_extract, os_nilCheck, os_makeFunc, os_build, os_len, os_cap, os_convert, os_min, os_max, on_load, on_buildSlice, on_alloc, on_box, on_makeSlice, on_lookup, mn_convert, mn_bin, optP_n, on_append, on_copy, on_store, on_call, ev, updo, upd, optP_p, resP_p, resU_p, ↓reduceIte, Nat.reduceEqDiff, List.map_cons, List.map_nil, List.map_toArray, argU, Nat.reduceAdd, gval_slotB, boolO_b, boolO_u, gslot, List.getElem?_toArray, List.getElem?_cons_zero, List.getElem?_cons_succ, Option.bind_some, Option.some.injEq, reduceCtorEq, Bool.false_eq_true, Bool.true_eq_false, Option.map_some, Option.map_none, Int.toNat_zero, Option.isNone_none, Option.isNone_some, add_zero', unV, fieldV, extV, idxV, indexV, sliceV, lenV, capV, convV, min2V, max2V, TY, Option.isSome_some, Bool.true_and, Bool.and_true, Nat.mul_one, Int.toNat_natCast, le0n, Flat.val, Int.reduceToNat, Int.reduceLE, Int.reduceLT, Int.cast_ofNat_Int, decide_true, add_lit, Nat.zero_add, Nat.zero_mul, Nat.one_mul, Bool.not_true, Bool.not_false, l2, i17, hlit]
              refine callP (by kernel_rfl : hasBody Try.prog 27 = true) (Reach_any pg nx pv vt [y] w15 (hgr.mono (hle_ext (hx13.trans hxt))) hgn' (by omega) (hot.rw_ (hle_ext hxt)) (by simp)) ?_
              rintro u2 w16 ⟨⟨r2, hor2, hset2⟩, hx16⟩
              have hl2 := hset2.len hgn'
              have hm2 : (r2.contains b = true) ↔ Way nx y b := by rw [List.contains_iff_mem, hset2.mem, rch_one hky]
              simp only [CW_seq, CW_skip, CW_cond, CW_block, CW_loop, CW_regp, CW_draw, CW_exit, CW_ret, thenF_n, thenF_nK, thenF_r, thenF_x, blockF_n, blockF_nK, blockF_r, blockF_x, condF_t, condF_f, Rn_nilp, Rn_ngp, Rn_gp, oneStep_g, os_move, os_assign, os_pick, os_bin, os_un, os_fieldAddr, os_field, os_indexAddr, os_index, os_slice, os_extract, os_nilCheck, os_makeFunc, os_build, os_len, os_cap, os_convert, os_min, os_max, on_load, on_buildSlice, on_alloc, on_box, on_makeSlice, on_lookup, mn_convert, mn_bin, optP_n, on_append, on_copy, on_store, on_call, ev, updo, upd, optP_p, resP_p, resU_p, ↓reduceIte, Nat.reduceEqDiff, List.map_cons, List.map_nil, List.map_toArray, argU, Nat.reduceAdd, gval_slotB, boolO_b, boolO_u, gslot, List.getElem?_toArray, List.getElem?_cons_zero, List.getElem?_cons_succ, Option.bind_some, Option.some.injEq, reduceCtorEq, Bool.false_eq_true, Bool.true_eq_false, Option.map_some, Option.map_none, Int.toNat_zero, Option.isNone_none, Option.isNone_some, add_zero', unV, fieldV, extV, idxV, indexV, sliceV, lenV, capV, convV, min2V, max2V, TY, Option.isSome_some, Bool.true_and, Bool.and_true, Nat.mul_one, Int.toNat_natCast, le0n, Flat.val, Int.reduceToNat, Int.reduceLE, Int.reduceLT, Int.cast_ofNat_Int, decide_true, add_lit, Nat.zero_add, Nat.zero_mul, Nat.one_mul, Bool.not_true, Bool.not_false, i6]
              refine callP (by kernel_rfl : hasBody Try.prog 23 = true) (Has_any u2 r2 b w16 (hor2.rw_ (hle_ext hx16)) (by omega)) ?_
              rintro r w17 ⟨hr, hw⟩
              have hpe : px = r2.contains b := by
                have h9 : (F : Int) ∈ rowF g x := by simpa using hc1
                rw [Bool.eq_iff_iff, hm2]
                exact ⟨fun h => (hcb2 h).2, fun h => hcb h9 h⟩
              rw [← hpe] at hr
              subst hw; subst hr
              simp only [CW_seq, CW_skip, CW_cond, CW_block, CW_loop, CW_reg, CW_draw, CW_exit, CW_ret, thenF_n, thenF_nK, thenF_r, thenF_x, blockF_n, blockF_nK, blockF_r, blockF_x, condF_t, condF_f, Rn_nil, Rn_ng, Rn_g, oneStep_g, os_move, os_assign, os_pick, os_bin, os_un, os_fieldAddr, os_field, os_indexAddr, os_index, os_slice, os_extract, os_nilCheck, os_makeFunc, os_build, os_len, os_cap, os_convert, os_min, os_max, on_load, on_buildSlice, on_alloc, on_box, on_makeSlice, on_lookup, mn_convert, mn_bin, optP_n, on_append, on_copy, on_store, on_call, ev, updo, upd, optP_p, resP_ok, resU_ok, ↓reduceIte, Nat.reduceEqDiff, List.map_cons, List.map_nil, List.map_toArray, argU, Nat.reduceAdd, gval_slot, gslot, List.getElem?_toArray, List.getElem?_cons_zero, List.getElem?_cons_succ, Option.bind_some, Option.some.injEq, reduceCtorEq, Bool.false_eq_true, Bool.true_eq_false, Option.map_some, Option.map_none, Int.toNat_zero, Option.isNone_none, Option.isNone_some, add_zero', unV, fieldV, extV, idxV, indexV, sliceV, lenV, capV, convV, min2V, max2V, TY, Option.isSome_some, Bool.true_and, Bool.and_true, Nat.mul_one, Int.toNat_natCast, le0n, Flat.val, Int.reduceToNat, Int.reduceLE, Int.reduceLT, Int.cast_ofNat_Int, decide_true, add_lit, Nat.zero_add, Nat.zero_mul, Nat.one_mul, Bool.not_true, Bool.not_false, h93, q6]
              exact ⟨j + 1, by omega, by trivial, by omega, by rw [hat]; simp, (hx13.trans hxt).trans hx16⟩
          case inl =>
            simp only [CW_seq, CW_skip, CW_cond, CW_block, CW_loop, CW_regp, CW_draw, CW_exit, CW_ret, thenF_n, thenF_nK, thenF_r, thenF_x, blockF_n, blockF_nK, blockF_r, blockF_x, condF_t, condF_f, Rn_nilp, Rn_ngp, Rn_gp, oneStep_g, os_move, os_assign, os_pick, os_bin, os_un, os_fieldAddr, os_field, os_indexAddr, os_index, os_slice, os_extract, os_nilCheck, os_makeFunc, os_build, os_len, os_cap, os_convert, os_min, os_max, on_load, on_buildSlice, on_alloc, on_box, on_makeSlice, on_lookup, mn_convert, mn_bin, optP_n, on_append, on_copy, on_store, on_call, ev, updo, upd, optP_p, resP_p, resU_p, ↓reduceIte, Nat.reduceEqDiff, List.map_cons, List.map_nil, List.map_toArray, argU, Nat.reduceAdd, gval_slotB, boolO_b, boolO_u, gslot, List.getElem?_toArray, List.getElem?_cons_zero, List.getElem?_cons_succ, Option.bind_some, Option.some.injEq, reduceCtorEq, Bool.false_eq_true, Bool.true_eq_false, Option.map_some, Option.map_none, Int.toNat_zero, Option.isNone_none, Option.isNone_some, add_zero', unV, fieldV, extV, idxV, indexV, sliceV, lenV, capV, convV, min2V, max2V, TY, Option.isSome_some, Bool.true_and, Bool.and_true, Nat.mul_one, Int.toNat_natCast, le0n, Flat.val, Int.reduceToNat, Int.reduceLE, Int.reduceLT, Int.cast_ofNat_Int, decide_true, add_lit, Nat.zero_add, Nat.zero_mul, Nat.one_mul, Bool.not_true, Bool.not_false, h93, i91, hin, hld, p3, p4, h20, hcb1, q6]
            exact ⟨j + 1, by omega, by trivial, by omega, by rw [hat, hcb1]; simp, hx13⟩
        · have hge : j = s.length := by simp at hc; omega
          subst hge
          rw [List.take_length, ← hlast] at h20
          have hx912 := hx11.trans hx12
          have l3 := hIn w12 hx912
          have hR12 : R (hpOf w12) vi sol := Rep.mono (hle_ext hx912) hR9
          have hkb2 : okN sol.length b = true := by rw [hsl1]; exact hkb
          have g1 := (rowF_at hkb2).1
          obtain ⟨u1, hu1, c1⟩ := hR12.row g1
          have in1 := hR12.inS (k := b.toNat) (by have := okN_iff.1 hkb2; omega)
          have ld1 := ld_at (P := Try.prog) (t := 37) c1 (hle_refl _) tyG37
          have db : decide (0 ≤ b) = true := by simpa using hb0
          have hlen1 : (rowF sol b).length ≤ M := by
            obtain ⟨p, h1, _⟩ := hsol.row b (by rw [hnl]; exact hkb)
            rw [h1, List.length_map]
            exact Nat.le_trans (List.length_filter_le _ _) (by simp)
          simp only [CW_seq, CW_skip, CW_cond, CW_block, CW_loop, CW_reg, CW_draw, CW_exit, CW_ret, thenF_n, thenF_nK, thenF_r, thenF_x, blockF_n, blockF_nK, blockF_r, blockF_x, condF_t, condF_f, Rn_nil, Rn_ng, Rn_g, oneStep_g, os_move, os_assign, os_pick, os_bin, os_un, os_fieldAddr, os_field, os_indexAddr, os_index, os_slice, os_extract, os_nilCheck, os_makeFunc, os_build, os_len, os_cap, os_convert, os_min, os_max, on_load, on_buildSlice, on_alloc, on_box, on_makeSlice, on_lookup, mn_convert, mn_bin, optP_n, on_append, on_copy, on_store, on_call, ev, updo, upd, optP_p, resP_ok, resU_ok, ↓reduceIte, Nat.reduceEqDiff, List.map_cons, List.map_nil, List.map_toArray, argU, Nat.reduceAdd, gval_slot, gslot, List.getElem?_toArray, List.getElem?_cons_zero, List.getElem?_cons_succ, Option.bind_some, Option.some.injEq, reduceCtorEq, Bool.false_eq_true, Bool.true_eq_false, Option.map_some, Option.map_none, Int.toNat_zero, Option.isNone_none, Option.isNone_some, add_zero', binV, binI, unV, fieldV, extV, idxV, indexV, sliceV, lenV, capV, convV, min2V, max2V, TY, Option.isSome_some, Bool.true_and, Bool.and_true, Nat.mul_one, Int.toNat_natCast, le0n, Flat.val, Int.reduceToNat, Int.reduceLE, Int.reduceLT, Int.cast_ofNat_Int, decide_true, add_lit, Nat.zero_add, Nat.zero_mul, Nat.one_mul, Bool.not_true, Bool.not_false, i15, i6, i5, l3, db, in1, ld1]
          refine callP (by kernel_rfl : hasBody Try.prog 23 = true) (Has_any u1 (rowF sol b) F w12 hu1 (by omega)) ?_
          rintro r w13 ⟨hr, hw⟩
          subst hw; subst hr
          generalize (rowF sol b).contains (F : Int) = bb at *
          have q8 : binV Try.prog .eql 4 (.bool bb) (.bool bb) = some (.bool true) := by cases bb <;> rfl
          simp only [CW_seq, CW_skip, CW_cond, CW_block, CW_loop, CW_reg, CW_draw, CW_exit, CW_ret, thenF_n, thenF_nK, thenF_r, thenF_x, blockF_n, blockF_nK, blockF_r, blockF_x, condF_t, condF_f, Rn_nil, Rn_ng, Rn_g, oneStep_g, os_move, os_assign, os_pick, os_bin, os_un, os_fieldAddr, os_field, os_indexAddr, os_index, os_slice, os_extract, os_nilCheck, os_makeFunc, os_build, os_len, os_cap, os_convert, os_min, os_max, on_load, on_buildSlice, on_alloc, on_box, on_makeSlice, on_lookup, mn_convert, mn_bin, optP_n, on_append, on_copy, on_store, on_call, ev, updo, upd, optP_p, resP_ok, resU_ok, ↓reduceIte, Nat.reduceEqDiff, List.map_cons, List.map_nil, List.map_toArray, argU, Nat.reduceAdd, gval_slot, gslot, List.getElem?_toArray, List.getElem?_cons_zero, List.getElem?_cons_succ, Option.bind_some, Option.some.injEq, reduceCtorEq, Bool.false_eq_true, Bool.true_eq_false, Option.map_some, Option.map_none, Int.toNat_zero, Option.isNone_none, Option.isNone_some, add_zero', unV, fieldV, extV, idxV, indexV, sliceV, lenV, capV, convV, min2V, max2V, TY, Option.isSome_some, Bool.true_and, Bool.and_true, Nat.mul_one, Int.toNat_natCast, le0n, Flat.val, Int.reduceToNat, Int.reduceLE, Int.reduceLT, Int.cast_ofNat_Int, decide_true, add_lit, Nat.zero_add, Nat.zero_mul, Nat.one_mul, Bool.not_true, Bool.not_false, h20, q8]
          refine retq1 Try.results13 ?_
          simp only [upd, ↓reduceIte, Nat.reduceEqDiff]
          exact ⟨by trivial, (hx06.trans hx69).trans hx912⟩
end Go.Proofs.Ytldmnnloakpjlaa
