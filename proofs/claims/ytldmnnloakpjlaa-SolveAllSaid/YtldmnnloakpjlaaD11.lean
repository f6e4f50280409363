/- whittlerlaw19.SolveAll: the walk. -/
import Derived.Test.YtldmnnloakpjlaaB27
set_option linter.unusedSimpArgs false
set_option linter.unusedVariables false
set_option maxRecDepth 100000
set_option maxHeartbeats 4000000
namespace Go.Proofs.Ytldmnnloakpjlaa
open Go

theorem SolOk.set {nx gl kl : List (List Int)} {m : Nat} {sol : List (List Int)} {T : Nat} (h : SolOk nx gl kl m sol T) (hg : factsOk gl m) {b : Int} (hb : okN nx.length b = true) : SetOf (rowF sol b) (fun x => ∃ f : Nat, x = f ∧ Comes nx gl kl b f) := by
  obtain ⟨p, h1, h2⟩ := h.row b hb
  refine ⟨?_, fun x => ⟨fun hx => ?_, ?_⟩⟩
  · rw [h1, List.pairwise_map]
    refine List.Pairwise.filter _ ?_
    exact (List.pairwise_lt_range (n := m)).imp fun h => by omega
  · obtain ⟨f, e, h, _⟩ := h.memI hb hx
    exact ⟨f, e, h⟩
  · rintro ⟨f, rfl, hc⟩
    exact (h.mem hg hb f).2 hc
theorem SolOk.rows {nx gl kl : List (List Int)} {m : Nat} {sol : List (List Int)} {T : Nat} (h : SolOk nx gl kl m sol T) : ∀ x ∈ sol, x.length ≤ m := by
  intro x hx
  obtain ⟨i, hi⟩ := List.mem_iff_getElem?.1 hx
  have hlt := (List.getElem?_eq_some_iff.1 hi).1
  have hb : okN nx.length (i : Int) = true := okN_iff.2 ⟨by omega, by have := h.len; omega⟩
  obtain ⟨p, h1, h2⟩ := h.row i hb
  have hb' : okN sol.length (i : Int) = true := by rw [h.len]; exact hb
  have h3 := (rowF_at hb').1
  rw [show ((i : Nat) : Int).toNat = i by omega, hi] at h3
  rw [Option.some.inj h3, h1, List.length_map]
  exact Nat.le_trans (List.length_filter_le _ _) (by simp)
theorem rows_eq {a b : List (List Int)} (hl : a.length = b.length) (h : ∀ i : Int, okN a.length i = true → rowF a i = rowF b i) : a = b := by
  apply List.ext_getElem hl
  intro i h1 h2
  have hk : okN a.length (i : Int) = true := okN_iff.2 ⟨by omega, by omega⟩
  have h3 := (rowF_at hk).1
  have h4 := (rowF_at (nx := b) (a := (i : Int)) (by rw [← hl]; exact hk)).1
  rw [show ((i : Nat) : Int).toNat = i by omega] at h3 h4
  rw [List.getElem?_eq_getElem h1] at h3
  rw [List.getElem?_eq_getElem h2] at h4
  rw [Option.some.inj h3, Option.some.inj h4, h _ hk]
theorem many_cases (n most : Int) (a b c : Nat) : (decide (n > 12) = true) ∨ (decide (n > 12) = false ∧ decide (most > 12) = true) ∨ (decide (n > 12) = false ∧ decide (most > 12) = false ∧ decide ((a : Int) > 30) = true) ∨
    (decide (n > 12) = false ∧ decide (most > 12) = false ∧ decide ((a : Int) > 30) = false ∧ decide ((b : Int) > 12) = true) ∨ (decide (n > 12) = false ∧ decide (most > 12) = false ∧ decide ((a : Int) > 30) = false ∧ decide ((b : Int) > 12) = false ∧ decide ((c : Int) > 12) = true) ∨
    (decide (n > 12) = false ∧ decide (most > 12) = false ∧ decide ((a : Int) > 30) = false ∧ decide ((b : Int) > 12) = false ∧ decide ((c : Int) > 12) = false ∧ n ≤ 12 ∧ most ≤ 12 ∧ a ≤ 30 ∧ b ≤ 12 ∧ c ≤ 12) := by
  simp only [decide_eq_true_eq, decide_eq_false_iff_not]
  omega

theorem SolveAll_walk (n : Int) (v : Value) (st : List (Int × Int)) (vg : Value) (gl : List (List Int)) (vk : Value) (kl : List (List Int)) (most : Int) (w : World) (hv : R (hpOf w) v st) (hvg : R (hpOf w) vg gl) (hvk : R (hpOf w) vk kl) :
    Calls Try.prog 3 #[.int .i64 n, v, vg, vk, .int .i64 most] w fun e w' => ∃ u, e = .returned u ∧ (u = .bool true ∧ Ext w w') := by
  refine calls_of_CW (args := [.int .i64 n, v, vg, vk, .int .i64 most]) hm Try.func3 rfl (by kernel_rfl) (by show 5 ≤ _; decide +kernel) ?_
  have hSg := hvg.isS
  have hng := hvg.vlen
  have hSk := hvk.isS
  have hnk := hvk.vlen
  have hS := hv.isS
  have hvn := hv.vlen
  simp only [CW_seq, CW_skip, CW_cond, CW_block, CW_loop, CW_reg, CW_draw, CW_exit, CW_ret, thenF_n, thenF_nK, thenF_r, thenF_x, blockF_n, blockF_nK, blockF_r, blockF_x, condF_t, condF_f, Rn_nil, Rn_ng, Rn_g, oneStep_g, os_move, os_assign, os_pick, os_bin, os_un, os_fieldAddr, os_field, os_indexAddr, os_index, os_slice, os_extract, os_nilCheck, os_makeFunc, os_build, os_len, os_cap, os_convert, os_min, os_max, on_load, on_buildSlice, on_alloc, on_box, on_makeSlice, on_lookup, mn_convert, mn_bin, optP_n, on_append, on_copy, on_store, on_call, ev, updo, upd, optP_p, resP_ok, resU_ok, ↓reduceIte, Nat.reduceEqDiff, List.map_cons, List.map_nil, List.map_toArray, argU, Nat.reduceAdd, gval_slot, gslot, List.getElem?_toArray, List.getElem?_cons_zero, List.getElem?_cons_succ, Option.bind_some, Option.some.injEq, reduceCtorEq, Bool.false_eq_true, Bool.true_eq_false, Option.map_some, Option.map_none, Int.toNat_zero, Option.isNone_none, Option.isNone_some, add_zero', binV, binI, unV, fieldV, extV, idxV, indexV, sliceV, lenV, capV, convV, min2V, max2V, TY, Option.isSome_some, Bool.true_and, Bool.and_true, Nat.mul_one, Int.toNat_natCast, le0n, Flat.val, Int.reduceToNat, Int.reduceLE, Int.reduceLT, Int.cast_ofNat_Int, decide_true, add_lit, Nat.zero_add, Nat.zero_mul, Nat.one_mul, Bool.not_true, Bool.not_false]
  refine callP (by kernel_rfl : hasBody Try.prog 14 = true) (solved_any w) ?_
  rintro u w1 ⟨rfl, hx1⟩
  have hv1 : R (hpOf w1) v st := Rep.mono (hle_ext hx1) hv
  have hg1 : R (hpOf w1) vg gl := Rep.mono (hle_ext hx1) hvg
  have hk1 : R (hpOf w1) vk kl := Rep.mono (hle_ext hx1) hvk
  rcases many_cases n most st.length gl.length kl.length with d1 | ⟨d1, d2⟩ | ⟨d1, d2, d3⟩ | ⟨d1, d2, d3, d4⟩ | ⟨d1, d2, d3, d4, d5⟩ | ⟨d1, d2, d3, d4, d5, hn12, hm12, hst, hgn, hkn⟩
  case' inl => simp only [CW_seq, CW_skip, CW_cond, CW_block, CW_loop, CW_reg, CW_draw, CW_exit, CW_ret, thenF_n, thenF_nK, thenF_r, thenF_x, blockF_n, blockF_nK, blockF_r, blockF_x, condF_t, condF_f, Rn_nil, Rn_ng, Rn_g, oneStep_g, os_move, os_assign, os_pick, os_bin, os_un, os_fieldAddr, os_field, os_indexAddr, os_index, os_slice, os_extract, os_nilCheck, os_makeFunc, os_build, os_len, os_cap, os_convert, os_min, os_max, on_load, on_buildSlice, on_alloc, on_box, on_makeSlice, on_lookup, mn_convert, mn_bin, optP_n, on_append, on_copy, on_store, on_call, ev, updo, upd, optP_p, resP_ok, resU_ok, ↓reduceIte, Nat.reduceEqDiff, List.map_cons, List.map_nil, List.map_toArray, argU, Nat.reduceAdd, gval_slot, gslot, List.getElem?_toArray, List.getElem?_cons_zero, List.getElem?_cons_succ, Option.bind_some, Option.some.injEq, reduceCtorEq, Bool.false_eq_true, Bool.true_eq_false, Option.map_some, Option.map_none, Int.toNat_zero, Option.isNone_none, Option.isNone_some, add_zero', binV, binI, unV, fieldV, extV, idxV, indexV, sliceV, lenV, capV, convV, min2V, max2V, TY, Option.isSome_some, Bool.true_and, Bool.and_true, Nat.mul_one, Int.toNat_natCast, le0n, Flat.val, Int.reduceToNat, Int.reduceLE, Int.reduceLT, Int.cast_ofNat_Int, decide_true, add_lit, Nat.zero_add, Nat.zero_mul, Nat.one_mul, Bool.not_true, Bool.not_false, d1]
  case' inr.inl => simp only [CW_seq, CW_skip, CW_cond, CW_block, CW_loop, CW_reg, CW_draw, CW_exit, CW_ret, thenF_n, thenF_nK, thenF_r, thenF_x, blockF_n, blockF_nK, blockF_r, blockF_x, condF_t, condF_f, Rn_nil, Rn_ng, Rn_g, oneStep_g, os_move, os_assign, os_pick, os_bin, os_un, os_fieldAddr, os_field, os_indexAddr, os_index, os_slice, os_extract, os_nilCheck, os_makeFunc, os_build, os_len, os_cap, os_convert, os_min, os_max, on_load, on_buildSlice, on_alloc, on_box, on_makeSlice, on_lookup, mn_convert, mn_bin, optP_n, on_append, on_copy, on_store, on_call, ev, updo, upd, optP_p, resP_ok, resU_ok, ↓reduceIte, Nat.reduceEqDiff, List.map_cons, List.map_nil, List.map_toArray, argU, Nat.reduceAdd, gval_slot, gslot, List.getElem?_toArray, List.getElem?_cons_zero, List.getElem?_cons_succ, Option.bind_some, Option.some.injEq, reduceCtorEq, Bool.false_eq_true, Bool.true_eq_false, Option.map_some, Option.map_none, Int.toNat_zero, Option.isNone_none, Option.isNone_some, add_zero', binV, binI, unV, fieldV, extV, idxV, indexV, sliceV, lenV, capV, convV, min2V, max2V, TY, Option.isSome_some, Bool.true_and, Bool.and_true, Nat.mul_one, Int.toNat_natCast, le0n, Flat.val, Int.reduceToNat, Int.reduceLE, Int.reduceLT, Int.cast_ofNat_Int, decide_true, add_lit, Nat.zero_add, Nat.zero_mul, Nat.one_mul, Bool.not_true, Bool.not_false, d1, d2]
  case' inr.inr.inl => simp only [CW_seq, CW_skip, CW_cond, CW_block, CW_loop, CW_reg, CW_draw, CW_exit, CW_ret, thenF_n, thenF_nK, thenF_r, thenF_x, blockF_n, blockF_nK, blockF_r, blockF_x, condF_t, condF_f, Rn_nil, Rn_ng, Rn_g, oneStep_g, os_move, os_assign, os_pick, os_bin, os_un, os_fieldAddr, os_field, os_indexAddr, os_index, os_slice, os_extract, os_nilCheck, os_makeFunc, os_build, os_len, os_cap, os_convert, os_min, os_max, on_load, on_buildSlice, on_alloc, on_box, on_makeSlice, on_lookup, mn_convert, mn_bin, optP_n, on_append, on_copy, on_store, on_call, ev, updo, upd, optP_p, resP_ok, resU_ok, ↓reduceIte, Nat.reduceEqDiff, List.map_cons, List.map_nil, List.map_toArray, argU, Nat.reduceAdd, gval_slot, gslot, List.getElem?_toArray, List.getElem?_cons_zero, List.getElem?_cons_succ, Option.bind_some, Option.some.injEq, reduceCtorEq, Bool.false_eq_true, Bool.true_eq_false, Option.map_some, Option.map_none, Int.toNat_zero, Option.isNone_none, Option.isNone_some, add_zero', binV, binI, unV, fieldV, extV, idxV, indexV, sliceV, lenV, capV, convV, min2V, max2V, TY, Option.isSome_some, Bool.true_and, Bool.and_true, Nat.mul_one, Int.toNat_natCast, le0n, Flat.val, Int.reduceToNat, Int.reduceLE, Int.reduceLT, Int.cast_ofNat_Int, decide_true, add_lit, Nat.zero_add, Nat.zero_mul, Nat.one_mul, Bool.not_true, Bool.not_false, hS, hvn, d1, d2, d3]
  case' inr.inr.inr.inl => simp only [CW_seq, CW_skip, CW_cond, CW_block, CW_loop, CW_reg, CW_draw, CW_exit, CW_ret, thenF_n, thenF_nK, thenF_r, thenF_x, blockF_n, blockF_nK, blockF_r, blockF_x, condF_t, condF_f, Rn_nil, Rn_ng, Rn_g, oneStep_g, os_move, os_assign, os_pick, os_bin, os_un, os_fieldAddr, os_field, os_indexAddr, os_index, os_slice, os_extract, os_nilCheck, os_makeFunc, os_build, os_len, os_cap, os_convert, os_min, os_max, on_load, on_buildSlice, on_alloc, on_box, on_makeSlice, on_lookup, mn_convert, mn_bin, optP_n, on_append, on_copy, on_store, on_call, ev, updo, upd, optP_p, resP_ok, resU_ok, ↓reduceIte, Nat.reduceEqDiff, List.map_cons, List.map_nil, List.map_toArray, argU, Nat.reduceAdd, gval_slot, gslot, List.getElem?_toArray, List.getElem?_cons_zero, List.getElem?_cons_succ, Option.bind_some, Option.some.injEq, reduceCtorEq, Bool.false_eq_true, Bool.true_eq_false, Option.map_some, Option.map_none, Int.toNat_zero, Option.isNone_none, Option.isNone_some, add_zero', binV, binI, unV, fieldV, extV, idxV, indexV, sliceV, lenV, capV, convV, min2V, max2V, TY, Option.isSome_some, Bool.true_and, Bool.and_true, Nat.mul_one, Int.toNat_natCast, le0n, Flat.val, Int.reduceToNat, Int.reduceLE, Int.reduceLT, Int.cast_ofNat_Int, decide_true, add_lit, Nat.zero_add, Nat.zero_mul, Nat.one_mul, Bool.not_true, Bool.not_false, hS, hvn, hSg, hng, d1, d2, d3, d4]
  case' inr.inr.inr.inr.inl => simp only [CW_seq, CW_skip, CW_cond, CW_block, CW_loop, CW_reg, CW_draw, CW_exit, CW_ret, thenF_n, thenF_nK, thenF_r, thenF_x, blockF_n, blockF_nK, blockF_r, blockF_x, condF_t, condF_f, Rn_nil, Rn_ng, Rn_g, oneStep_g, os_move, os_assign, os_pick, os_bin, os_un, os_fieldAddr, os_field, os_indexAddr, os_index, os_slice, os_extract, os_nilCheck, os_makeFunc, os_build, os_len, os_cap, os_convert, os_min, os_max, on_load, on_buildSlice, on_alloc, on_box, on_makeSlice, on_lookup, mn_convert, mn_bin, optP_n, on_append, on_copy, on_store, on_call, ev, updo, upd, optP_p, resP_ok, resU_ok, ↓reduceIte, Nat.reduceEqDiff, List.map_cons, List.map_nil, List.map_toArray, argU, Nat.reduceAdd, gval_slot, gslot, List.getElem?_toArray, List.getElem?_cons_zero, List.getElem?_cons_succ, Option.bind_some, Option.some.injEq, reduceCtorEq, Bool.false_eq_true, Bool.true_eq_false, Option.map_some, Option.map_none, Int.toNat_zero, Option.isNone_none, Option.isNone_some, add_zero', binV, binI, unV, fieldV, extV, idxV, indexV, sliceV, lenV, capV, convV, min2V, max2V, TY, Option.isSome_some, Bool.true_and, Bool.and_true, Nat.mul_one, Int.toNat_natCast, le0n, Flat.val, Int.reduceToNat, Int.reduceLE, Int.reduceLT, Int.cast_ofNat_Int, decide_true, add_lit, Nat.zero_add, Nat.zero_mul, Nat.one_mul, Bool.not_true, Bool.not_false, hS, hvn, hSg, hng, hSk, hnk, d1, d2, d3, d4, d5]
  case inr.inr.inr.inr.inr =>
    simp only [CW_seq, CW_skip, CW_cond, CW_block, CW_loop, CW_reg, CW_draw, CW_exit, CW_ret, thenF_n, thenF_nK, thenF_r, thenF_x, blockF_n, blockF_nK, blockF_r, blockF_x, condF_t, condF_f, Rn_nil, Rn_ng, Rn_g, oneStep_g, os_move, os_assign, os_pick, os_bin, os_un, os_fieldAddr, os_field, os_indexAddr, os_index, os_slice, os_extract, os_nilCheck, os_makeFunc, os_build, os_len, os_cap, os_convert, os_min, os_max, on_load, on_buildSlice, on_alloc, on_box, on_makeSlice, on_lookup, mn_convert, mn_bin, optP_n, on_append, on_copy, on_store, on_call, ev, updo, upd, optP_p, resP_ok, resU_ok, ↓reduceIte, Nat.reduceEqDiff, List.map_cons, List.map_nil, List.map_toArray, argU, Nat.reduceAdd, gval_slot, gslot, List.getElem?_toArray, List.getElem?_cons_zero, List.getElem?_cons_succ, Option.bind_some, Option.some.injEq, reduceCtorEq, Bool.false_eq_true, Bool.true_eq_false, Option.map_some, Option.map_none, Int.toNat_zero, Option.isNone_none, Option.isNone_some, add_zero', binV, binI, unV, fieldV, extV, idxV, indexV, sliceV, lenV, capV, convV, min2V, max2V, TY, Option.isSome_some, Bool.true_and, Bool.and_true, Nat.mul_one, Int.toNat_natCast, le0n, Flat.val, Int.reduceToNat, Int.reduceLE, Int.reduceLT, Int.cast_ofNat_Int, decide_true, add_lit, Nat.zero_add, Nat.zero_mul, Nat.one_mul, Bool.not_true, Bool.not_false, hS, hvn, hSg, hng, hSk, hnk, d1, d2, d3, d4, d5]
    refine callP (by kernel_rfl : hasBody Try.prog 15 = true) (long_any vg gl w1 hg1 (by omega)) ?_
    rintro u w' ⟨hu, hw⟩
    subst hw; subst hu
    cases hlg : gl.any fun x => decide (30 < x.length)
    case true =>
      simp only [CW_seq, CW_skip, CW_cond, CW_block, CW_loop, CW_reg, CW_draw, CW_exit, CW_ret, thenF_n, thenF_nK, thenF_r, thenF_x, blockF_n, blockF_nK, blockF_r, blockF_x, condF_t, condF_f, Rn_nil, Rn_ng, Rn_g, oneStep_g, os_move, os_assign, os_pick, os_bin, os_un, os_fieldAddr, os_field, os_indexAddr, os_index, os_slice, os_extract, os_nilCheck, os_makeFunc, os_build, os_len, os_cap, os_convert, os_min, os_max, on_load, on_buildSlice, on_alloc, on_box, on_makeSlice, on_lookup, mn_convert, mn_bin, optP_n, on_append, on_copy, on_store, on_call, ev, updo, upd, optP_p, resP_ok, resU_ok, ↓reduceIte, Nat.reduceEqDiff, List.map_cons, List.map_nil, List.map_toArray, argU, Nat.reduceAdd, gval_slot, gslot, List.getElem?_toArray, List.getElem?_cons_zero, List.getElem?_cons_succ, Option.bind_some, Option.some.injEq, reduceCtorEq, Bool.false_eq_true, Bool.true_eq_false, Option.map_some, Option.map_none, Int.toNat_zero, Option.isNone_none, Option.isNone_some, add_zero', binV, binI, unV, fieldV, extV, idxV, indexV, sliceV, lenV, capV, convV, min2V, max2V, TY, Option.isSome_some, Bool.true_and, Bool.and_true, Nat.mul_one, Int.toNat_natCast, le0n, Flat.val, Int.reduceToNat, Int.reduceLE, Int.reduceLT, Int.cast_ofNat_Int, decide_true, add_lit, Nat.zero_add, Nat.zero_mul, Nat.one_mul, Bool.not_true, Bool.not_false]
      refine retq1 Try.results3 ?_
      simp only [upd, ↓reduceIte, Nat.reduceEqDiff]
      exact ⟨by trivial, hx1⟩
    simp only [CW_seq, CW_skip, CW_cond, CW_block, CW_loop, CW_reg, CW_draw, CW_exit, CW_ret, thenF_n, thenF_nK, thenF_r, thenF_x, blockF_n, blockF_nK, blockF_r, blockF_x, condF_t, condF_f, Rn_nil, Rn_ng, Rn_g, oneStep_g, os_move, os_assign, os_pick, os_bin, os_un, os_fieldAddr, os_field, os_indexAddr, os_index, os_slice, os_extract, os_nilCheck, os_makeFunc, os_build, os_len, os_cap, os_convert, os_min, os_max, on_load, on_buildSlice, on_alloc, on_box, on_makeSlice, on_lookup, mn_convert, mn_bin, optP_n, on_append, on_copy, on_store, on_call, ev, updo, upd, optP_p, resP_ok, resU_ok, ↓reduceIte, Nat.reduceEqDiff, List.map_cons, List.map_nil, List.map_toArray, argU, Nat.reduceAdd, gval_slot, gslot, List.getElem?_toArray, List.getElem?_cons_zero, List.getElem?_cons_succ, Option.bind_some, Option.some.injEq, reduceCtorEq, Bool.false_eq_true, Bool.true_eq_false, Option.map_some, Option.map_none, Int.toNat_zero, Option.isNone_none, Option.isNone_some, add_zero', binV, binI, unV, fieldV, extV, idxV, indexV, sliceV, lenV, capV, convV, min2V, max2V, TY, Option.isSome_some, Bool.true_and, Bool.and_true, Nat.mul_one, Int.toNat_natCast, le0n, Flat.val, Int.reduceToNat, Int.reduceLE, Int.reduceLT, Int.cast_ofNat_Int, decide_true, add_lit, Nat.zero_add, Nat.zero_mul, Nat.one_mul, Bool.not_true, Bool.not_false]
    refine callP (by kernel_rfl : hasBody Try.prog 15 = true) (long_any vk kl w' hk1 (by omega)) ?_
    rintro u w1 ⟨hu, hw⟩
    subst hw; subst hu
    cases hlk : kl.any fun x => decide (30 < x.length)
    case true =>
      simp only [CW_seq, CW_skip, CW_cond, CW_block, CW_loop, CW_reg, CW_draw, CW_exit, CW_ret, thenF_n, thenF_nK, thenF_r, thenF_x, blockF_n, blockF_nK, blockF_r, blockF_x, condF_t, condF_f, Rn_nil, Rn_ng, Rn_g, oneStep_g, os_move, os_assign, os_pick, os_bin, os_un, os_fieldAddr, os_field, os_indexAddr, os_index, os_slice, os_extract, os_nilCheck, os_makeFunc, os_build, os_len, os_cap, os_convert, os_min, os_max, on_load, on_buildSlice, on_alloc, on_box, on_makeSlice, on_lookup, mn_convert, mn_bin, optP_n, on_append, on_copy, on_store, on_call, ev, updo, upd, optP_p, resP_ok, resU_ok, ↓reduceIte, Nat.reduceEqDiff, List.map_cons, List.map_nil, List.map_toArray, argU, Nat.reduceAdd, gval_slot, gslot, List.getElem?_toArray, List.getElem?_cons_zero, List.getElem?_cons_succ, Option.bind_some, Option.some.injEq, reduceCtorEq, Bool.false_eq_true, Bool.true_eq_false, Option.map_some, Option.map_none, Int.toNat_zero, Option.isNone_none, Option.isNone_some, add_zero', binV, binI, unV, fieldV, extV, idxV, indexV, sliceV, lenV, capV, convV, min2V, max2V, TY, Option.isSome_some, Bool.true_and, Bool.and_true, Nat.mul_one, Int.toNat_natCast, le0n, Flat.val, Int.reduceToNat, Int.reduceLE, Int.reduceLT, Int.cast_ofNat_Int, decide_true, add_lit, Nat.zero_add, Nat.zero_mul, Nat.one_mul, Bool.not_true, Bool.not_false]
      refine retq1 Try.results3 ?_
      simp only [upd, ↓reduceIte, Nat.reduceEqDiff]
      exact ⟨by trivial, hx1⟩
    have hgl : ∀ x ∈ gl, x.length ≤ 1000000000 := fun x hx => by
      have h := List.any_eq_false.1 hlg x hx
      have : ¬ 30 < x.length := by simpa using h
      omega
    have hkl : ∀ x ∈ kl, x.length ≤ 1000000000 := fun x hx => by
      have h := List.any_eq_false.1 hlk x hx
      have : ¬ 30 < x.length := by simpa using h
      omega
    simp only [CW_seq, CW_skip, CW_cond, CW_block, CW_loop, CW_reg, CW_draw, CW_exit, CW_ret, thenF_n, thenF_nK, thenF_r, thenF_x, blockF_n, blockF_nK, blockF_r, blockF_x, condF_t, condF_f, Rn_nil, Rn_ng, Rn_g, oneStep_g, os_move, os_assign, os_pick, os_bin, os_un, os_fieldAddr, os_field, os_indexAddr, os_index, os_slice, os_extract, os_nilCheck, os_makeFunc, os_build, os_len, os_cap, os_convert, os_min, os_max, on_load, on_buildSlice, on_alloc, on_box, on_makeSlice, on_lookup, mn_convert, mn_bin, optP_n, on_append, on_copy, on_store, on_call, ev, updo, upd, optP_p, resP_ok, resU_ok, ↓reduceIte, Nat.reduceEqDiff, List.map_cons, List.map_nil, List.map_toArray, argU, Nat.reduceAdd, gval_slot, gslot, List.getElem?_toArray, List.getElem?_cons_zero, List.getElem?_cons_succ, Option.bind_some, Option.some.injEq, reduceCtorEq, Bool.false_eq_true, Bool.true_eq_false, Option.map_some, Option.map_none, Int.toNat_zero, Option.isNone_none, Option.isNone_some, add_zero', binV, binI, unV, fieldV, extV, idxV, indexV, sliceV, lenV, capV, convV, min2V, max2V, TY, Option.isSome_some, Bool.true_and, Bool.and_true, Nat.mul_one, Int.toNat_natCast, le0n, Flat.val, Int.reduceToNat, Int.reduceLE, Int.reduceLT, Int.cast_ofNat_Int, decide_true, add_lit, Nat.zero_add, Nat.zero_mul, Nat.one_mul, Bool.not_true, Bool.not_false]
    refine callP (by kernel_rfl : hasBody Try.prog 16 = true) (of_any n most v vg vk st gl kl w1 hv1 hg1 hk1 (by omega) hgl hkl) ?_
    rintro u w8 ⟨⟨vr, ok, hu, ha1, ha2⟩, hx8⟩
    subst hu
    obtain ⟨vi, T, hvr, Sv⟩ : ∃ (vi : Value) (T : Int), vr = .agg #[vi, .int .i64 T] ∧ isS vi = true := by
      cases ok
      · exact ⟨_, _, (ha2 rfl).2, rfl⟩
      · obtain ⟨_, vi, sol, T, hvr, hRn, _⟩ := ha1 rfl
        exact ⟨vi, T, hvr, hRn.isS⟩
    subst hvr
    obtain ⟨p1, p2⟩ := solV w8 T Sv
    have hIn := fun w' hx => @sol_In w8 w' vi T hx
    have hTm := fun w' hx => @sol_Times w8 w' vi T hx
    have xA := Ext.alloc w8 (.cells #[vi, .int .i64 T] 27)
    generalize w8.alloc (.cells #[vi, .int .i64 T] 27) = w9 at *
    have hx19 := hx8.trans xA
    simp only [CW_seq, CW_skip, CW_cond, CW_block, CW_loop, CW_regp, CW_draw, CW_exit, CW_ret, thenF_n, thenF_nK, thenF_r, thenF_x, blockF_n, blockF_nK, blockF_r, blockF_x, condF_t, condF_f, Rn_nilp, Rn_ngp, Rn_gp, oneStep_g, os_move, os_assign, os_pick, os_bin, os_un, os_fieldAddr, os_field, os_indexAddr, os_index, os_slice, os_extract, os_nilCheck, os_makeFunc, os_build, os_len, os_cap, os_convert, os_min, os_max, on_load, on_buildSlice, on_alloc, on_box, on_makeSlice, on_lookup, mn_convert, mn_bin, optP_n, on_append, on_copy, on_store, on_call, ev, updo, upd, optP_p, resP_p, resU_p, ↓reduceIte, Nat.reduceEqDiff, List.map_cons, List.map_nil, List.map_toArray, argU, Nat.reduceAdd, gval_slotB, boolO_b, boolO_u, gslot, List.getElem?_toArray, List.getElem?_cons_zero, List.getElem?_cons_succ, Option.bind_some, Option.some.injEq, reduceCtorEq, Bool.false_eq_true, Bool.true_eq_false, Option.map_some, Option.map_none, Int.toNat_zero, Option.isNone_none, Option.isNone_some, add_zero', unV, fieldV, extV, idxV, indexV, sliceV, lenV, capV, convV, min2V, max2V, TY, Option.isSome_some, Bool.true_and, Bool.and_true, Nat.mul_one, Int.toNat_natCast, le0n, Flat.val, Int.reduceToNat, Int.reduceLE, Int.reduceLT, Int.cast_ofNat_Int, decide_true, add_lit, Nat.zero_add, Nat.zero_mul, Nat.one_mul, Bool.not_true, Bool.not_false, p1, p2]
    refine callP (by kernel_rfl : hasBody Try.prog 17 = true) (refSolve_any n most v vg vk st gl kl w9 (Rep.mono (hle_ext hx19) hv1) (Rep.mono (hle_ext hx19) hg1) (Rep.mono (hle_ext hx19) hk1) (by omega) hgl hkl) ?_
    rintro u w10 ⟨⟨vl, ok2, hu, hb1, hb2⟩, hx10⟩
    subst hu
    have l0 := hIn w10 hx10
    have l1 := hTm w10 hx10
    have hxe := (hx1.trans hx19).trans hx10
    cases ok2
    · have hno := hb2 rfl
      cases ok
      case true => exact absurd (ha1 rfl).1 hno
      have he := (ha2 rfl).2
      simp only [Value.agg.injEq, List.toArray_inj, Array.mk.injEq, List.cons.injEq, Value.int.injEq, true_and, and_true] at he
      obtain ⟨e1, e2⟩ := he
      have hv0 : vlen vi = 0 := by rw [e1]; rfl
      have z0 : ((0 : Int) == 0) = true := rfl
      have z1 : (T == 0) = true := by rw [e2]; rfl
      simp only [CW_seq, CW_skip, CW_cond, CW_block, CW_loop, CW_reg, CW_draw, CW_exit, CW_ret, thenF_n, thenF_nK, thenF_r, thenF_x, blockF_n, blockF_nK, blockF_r, blockF_x, condF_t, condF_f, Rn_nil, Rn_ng, Rn_g, oneStep_g, os_move, os_assign, os_pick, os_bin, os_un, os_fieldAddr, os_field, os_indexAddr, os_index, os_slice, os_extract, os_nilCheck, os_makeFunc, os_build, os_len, os_cap, os_convert, os_min, os_max, on_load, on_buildSlice, on_alloc, on_box, on_makeSlice, on_lookup, mn_convert, mn_bin, optP_n, on_append, on_copy, on_store, on_call, ev, updo, upd, optP_p, resP_ok, resU_ok, ↓reduceIte, Nat.reduceEqDiff, List.map_cons, List.map_nil, List.map_toArray, argU, Nat.reduceAdd, gval_slot, gslot, List.getElem?_toArray, List.getElem?_cons_zero, List.getElem?_cons_succ, Option.bind_some, Option.some.injEq, reduceCtorEq, Bool.false_eq_true, Bool.true_eq_false, Option.map_some, Option.map_none, Int.toNat_zero, Option.isNone_none, Option.isNone_some, add_zero', binV, binI, unV, fieldV, extV, idxV, indexV, sliceV, lenV, capV, convV, min2V, max2V, TY, Option.isSome_some, Bool.true_and, Bool.and_true, Nat.mul_one, Int.toNat_natCast, le0n, Flat.val, Int.reduceToNat, Int.reduceLE, Int.reduceLT, Int.cast_ofNat_Int, decide_true, add_lit, Nat.zero_add, Nat.zero_mul, Nat.one_mul, Bool.not_true, Bool.not_false, l0, l1, Sv, hv0, z0, z1]
      refine retq1 Try.results3 ?_
      simp only [upd, ↓reduceIte, Nat.reduceEqDiff]
      exact ⟨by trivial, hxe⟩
    · obtain ⟨hok, l, hRl, hll, hset⟩ := hb1 rfl
      cases ok
      case false => exact absurd hok (ha2 rfl).1
      obtain ⟨_, vi', sol, T', he, hRn, hsol⟩ := ha1 rfl
      simp only [Value.agg.injEq, List.toArray_inj, Array.mk.injEq, List.cons.injEq, Value.int.injEq, true_and, and_true] at he
      obtain ⟨e1, e2⟩ := he
      subst e1; subst e2
      have hn0 := hok.n0
      have hm0 := hok.m0
      have hgf := hok.gf
      obtain ⟨N, hN⟩ : ∃ N : Nat, n.toNat = N := ⟨_, rfl⟩
      obtain ⟨M, hM⟩ : ∃ M : Nat, most.toNat = M := ⟨_, rfl⟩
      rw [hN, hM] at hsol
      rw [hN] at hset hll
      rw [hM] at hgf
      have hnl : (newF N st).1.length = N := (newF_graph N st).nx.len
      have hlo := hsol.lo
      have hhi := hsol.hi
      rw [hnl] at hlo hhi
      have heq : sol = l := by
        refine rows_eq (hsol.len.trans (hnl.trans hll.symm)) fun i hi => ?_
        rw [hsol.len] at hi
        have h1 := hsol.set hgf hi
        rw [hnl] at hi
        exact h1.eq (hset i hi) fun _ => Iff.rfl
      have hrl := hsol.rows
      have hsl : sol.length = N := hsol.len.trans hnl
      have hR : R (hpOf w10) vi sol := Rep.mono (hle_ext (xA.trans hx10)) (Rep.mono (hpNo_le _ _) hRn)
      have q1 : binV Try.prog .geq 3 (.int .i64 (T' : Nat)) (.int .i64 n) = some (.bool true) := by
        have : decide ((T' : Int) ≥ n) = true := by simp; omega
        rw [← this]; rfl
      have q2 : binV Try.prog .add 3 (.int .i64 most) (.int .i64 1) = some (.int .i64 (most + 1)) := by
        simp only [binV, binI, if_true]; rw [i64w _ (by omega)]
      have hmul : N * (M + 1) ≤ 12 * 13 := Nat.mul_le_mul (by omega) (by omega)
      have hnm : n * (most + 1) = ((N * (M + 1) : Nat) : Int) := by
        rw [show n = (N : Int) by omega, show most = (M : Int) by omega]; simp
      have q3 : binV Try.prog .mul 3 (.int .i64 n) (.int .i64 (most + 1)) = some (.int .i64 (n * (most + 1))) := by
        simp only [binV, binI, if_true]; rw [i64w _ (by rw [hnm]; omega)]
      have q4 : binV Try.prog .leq 3 (.int .i64 (T' : Nat)) (.int .i64 (n * (most + 1))) = some (.bool true) := by
        have hx : N * (M + 1) = N * M + N := Nat.mul_succ N M
        have : decide ((T' : Int) ≤ n * (most + 1)) = true := by
          rw [hnm]; simp only [decide_eq_true_eq]; omega
        rw [← this]; rfl
      simp only [CW_seq, CW_skip, CW_cond, CW_block, CW_loop, CW_regp, CW_draw, CW_exit, CW_ret, thenF_n, thenF_nK, thenF_r, thenF_x, blockF_n, blockF_nK, blockF_r, blockF_x, condF_t, condF_f, Rn_nilp, Rn_ngp, Rn_gp, oneStep_g, os_move, os_assign, os_pick, os_bin, os_un, os_fieldAddr, os_field, os_indexAddr, os_index, os_slice, os_extract, os_nilCheck, os_makeFunc, os_build, os_len, os_cap, os_convert, os_min, os_max, on_load, on_buildSlice, on_alloc, on_box, on_makeSlice, on_lookup, mn_convert, mn_bin, optP_n, on_append, on_copy, on_store, on_call, ev, updo, upd, optP_p, resP_p, resU_p, ↓reduceIte, Nat.reduceEqDiff, List.map_cons, List.map_nil, List.map_toArray, argU, Nat.reduceAdd, gval_slotB, boolO_b, boolO_u, gslot, List.getElem?_toArray, List.getElem?_cons_zero, List.getElem?_cons_succ, Option.bind_some, Option.some.injEq, reduceCtorEq, Bool.false_eq_true, Bool.true_eq_false, Option.map_some, Option.map_none, Int.toNat_zero, Option.isNone_none, Option.isNone_some, add_zero', unV, fieldV, extV, idxV, indexV, sliceV, lenV, capV, convV, min2V, max2V, TY, Option.isSome_some, Bool.true_and, Bool.and_true, Nat.mul_one, Int.toNat_natCast, le0n, Flat.val, Int.reduceToNat, Int.reduceLE, Int.reduceLT, Int.cast_ofNat_Int, decide_true, add_lit, Nat.zero_add, Nat.zero_mul, Nat.one_mul, Bool.not_true, Bool.not_false, l0, l1]
      refine callP (by kernel_rfl : hasBody Try.prog 18 = true) (eqLists_any vi vl sol l w10 hR hRl (by omega) (fun x hx => Nat.le_trans (hrl x hx) (by omega))) ?_
      rintro u w11 ⟨hu, hx11⟩
      subst hu
      rw [decide_eq_true heq]
      have l2 := hTm w11 (hx10.trans hx11)
      simp only [CW_seq, CW_skip, CW_cond, CW_block, CW_loop, CW_regp, CW_draw, CW_exit, CW_ret, thenF_n, thenF_nK, thenF_r, thenF_x, blockF_n, blockF_nK, blockF_r, blockF_x, condF_t, condF_f, Rn_nilp, Rn_ngp, Rn_gp, oneStep_g, os_move, os_assign, os_pick, os_bin, os_un, os_fieldAddr, os_field, os_indexAddr, os_index, os_slice, os_extract, os_nilCheck, os_makeFunc, os_build, os_len, os_cap, os_convert, os_min, os_max, on_load, on_buildSlice, on_alloc, on_box, on_makeSlice, on_lookup, mn_convert, mn_bin, optP_n, on_append, on_copy, on_store, on_call, ev, updo, upd, optP_p, resP_p, resU_p, ↓reduceIte, Nat.reduceEqDiff, List.map_cons, List.map_nil, List.map_toArray, argU, Nat.reduceAdd, gval_slotB, boolO_b, boolO_u, gslot, List.getElem?_toArray, List.getElem?_cons_zero, List.getElem?_cons_succ, Option.bind_some, Option.some.injEq, reduceCtorEq, Bool.false_eq_true, Bool.true_eq_false, Option.map_some, Option.map_none, Int.toNat_zero, Option.isNone_none, Option.isNone_some, add_zero', unV, fieldV, extV, idxV, indexV, sliceV, lenV, capV, convV, min2V, max2V, TY, Option.isSome_some, Bool.true_and, Bool.and_true, Nat.mul_one, Int.toNat_natCast, le0n, Flat.val, Int.reduceToNat, Int.reduceLE, Int.reduceLT, Int.cast_ofNat_Int, decide_true, add_lit, Nat.zero_add, Nat.zero_mul, Nat.one_mul, Bool.not_true, Bool.not_false, l2, q1, q2, q3, q4]
      refine retq1 Try.results3 ?_
      simp only [upd, ↓reduceIte, Nat.reduceEqDiff]
      exact ⟨by trivial, hxe.trans hx11⟩
  all_goals
    refine retq1 Try.results3 ?_
    simp only [upd, ↓reduceIte, Nat.reduceEqDiff]
    exact ⟨by trivial, hx1⟩
end Go.Proofs.Ytldmnnloakpjlaa
