/- whittlerlaw19.SolveApart: the walk. -/
import Derived.Test.YtldmnnloakpjlaaB25
import Derived.Test.YtldmnnloakpjlaaC14
import Derived.Test.YtldmnnloakpjlaaA13
set_option linter.unusedSimpArgs false
set_option linter.unusedVariables false
set_option maxRecDepth 100000
set_option maxHeartbeats 4000000
namespace Go.Proofs.Ytldmnnloakpjlaa
open Go

theorem one_plus (a : Int) {m : Nat} (hm : 0 < m) (hm2 : m ≤ 1000000) : ∃ N : Nat, IntKind.i64.wrap (1 + modf a m) = N ∧ 1 ≤ N ∧ N ≤ m := by
  obtain ⟨K, h1, h2⟩ := modf_nat a m hm
  refine ⟨K + 1, ?_, by omega, by omega⟩
  rw [h1, i64w _ (by omega)]; omega
theorem nilR (h : Hp) {α : Type} [Rep α] : R h (.slice none 0 0) ([] : List α) := ⟨none, 0, 0, rfl, rfl, Nat.le_refl _, [], rfl, fun j u hj => by simp at hj⟩
theorem oneF_len (l : List (List Int)) (f : Int) (y : List Int) : (oneF l f y).length = l.length := by simp [oneF]
theorem oneF_take {l : List (List Int)} {f : Int} {y : List Int} {k : Nat} (h : k < l.length) : oneF (l.take (k + 1)) f y = oneF (l.take k) f y ++ [if l[k].contains f then y else []] := by
  unfold oneF; rw [List.take_succ_eq_append_getElem h, List.map_append]; rfl

/-- A row put behind one of two lists. -/
theorem push_no {w : World} {u1 u2 x : Value} {xs ys : List (List Int)} {r : List Int} (h1 : Own (hpNo w (fun b => blk u1 b ∨ blk u2 b)) w 37 u1 xs) (h2 : Own (hpNo w (fun b => blk u1 b ∨ blk u2 b)) w 37 u2 ys) (hd : Dj u1 u2) (hS : isS x = true) (hx : R (hpNo w (fun b => blk u1 b ∨ blk u2 b)) x r) (hl : xs.length ≤ 100000) :
    (Instr.buildSlice 23 1 #[(0, x)]).run Try.prog w = .ok (.slice (some ⟨w.heap.size, 0, none⟩) 1 1) (w.alloc (.cells #[x] 37)) ∧
    ∃ v' w', (Builtin.append_ #[23, 23] 23 #[u1, .slice (some ⟨w.heap.size, 0, none⟩) 1 1]).run Try.prog (w.alloc (.cells #[x] 37)) = .ok v' w' ∧
      Own (hpNo w' (fun b => blk v' b ∨ blk u2 b)) w' 37 v' (xs ++ [r]) ∧ Own (hpNo w' (fun b => blk v' b ∨ blk u2 b)) w' 37 u2 ys ∧ Dj v' u2 ∧ Mod (blk u1) w w' ∧ movedTo w u1 v' := by
  obtain ⟨p1, v', w', p2, p3, p4, p5⟩ := push (P := Try.prog) (t := 23) (e := 23) sokL rfl h1 (x := x) (y := r) (by rw [isS_cells hS]; exact hx) (by omega) (by omega) (hpNo_le _ _)
  rw [isS_cells hS] at p1 p2
  have hN : ∀ b, (blk v' b ∨ blk u2 b) → (blk u1 b ∨ blk u2 b) ∨ w.heap.size ≤ b := fun b hb => by
    rcases hb with hb | hb
    · rcases p5 b hb with h | h
      · exact .inl (.inl h)
      · exact .inr h
    · exact .inl (.inr hb)
  refine ⟨p1, v', w', p2, p3.reNo (hpNo_mod p4 (fun b h => .inl h) hN) (fun b h => .inl h), h2.noMod p4 (fun b h => .inl h) (fun b h h' => hd b h' h) hN (fun b h => .inr h), fun b h h' => ?_, p4, p5⟩
  rcases p5 b h with k | k
  · exact hd b k h'
  · have := h2.lt h'; omega

theorem SolveApart_walk (n : Int) (v : Value) (st : List (Int × Int)) (vg : Value) (gl : List (List Int)) (vk : Value) (kl : List (List Int)) (most f : Int) (w : World) (hv : R (hpOf w) v st) (hvg : R (hpOf w) vg gl) (hvk : R (hpOf w) vk kl) :
    Calls Try.prog 5 #[.int .i64 n, v, vg, vk, .int .i64 most, .int .i64 f] w fun e w' => ∃ u, e = .returned u ∧ (u = .bool true ∧ Ext w w') := by
  refine calls_of_CW (args := [.int .i64 n, v, vg, vk, .int .i64 most, .int .i64 f]) hm Try.func5 rfl (by kernel_rfl) (by show 6 ≤ _; decide +kernel) ?_
  obtain ⟨N, hN, hN1, hN10⟩ := one_plus n (m := 10) (by omega) (by omega)
  obtain ⟨M, hM, hM1, hM6⟩ := one_plus most (m := 6) (by omega) (by omega)
  have hN' : IntKind.i64.wrap (1 + modf n 10) = (N : Int) := hN
  have hM' : IntKind.i64.wrap (1 + modf most 6) = (M : Int) := hM
  simp only [CW_seq, CW_skip, CW_cond, CW_block, CW_loop, CW_reg, CW_draw, CW_exit, CW_ret, thenF_n, thenF_nK, thenF_r, thenF_x, blockF_n, blockF_nK, blockF_r, blockF_x, condF_t, condF_f, Rn_nil, Rn_ng, Rn_g, oneStep_g, os_move, os_assign, os_pick, os_bin, os_un, os_fieldAddr, os_field, os_indexAddr, os_index, os_slice, os_extract, os_nilCheck, os_makeFunc, os_build, os_len, os_cap, os_convert, os_min, os_max, on_load, on_buildSlice, on_alloc, on_box, on_makeSlice, on_lookup, mn_convert, mn_bin, optP_n, on_append, on_copy, on_store, on_call, ev, updo, upd, optP_p, resP_ok, resU_ok, ↓reduceIte, Nat.reduceEqDiff, List.map_cons, List.map_nil, List.map_toArray, argU, Nat.reduceAdd, gval_slot, gslot, List.getElem?_toArray, List.getElem?_cons_zero, List.getElem?_cons_succ, Option.bind_some, Option.some.injEq, reduceCtorEq, Bool.false_eq_true, Bool.true_eq_false, Option.map_some, Option.map_none, Int.toNat_zero, Option.isNone_none, Option.isNone_some, add_zero', binV, binI, unV, fieldV, extV, idxV, indexV, sliceV, lenV, capV, convV, min2V, max2V, TY, Option.isSome_some, Bool.true_and, Bool.and_true, Nat.mul_one, Int.toNat_natCast, le0n, Flat.val, Int.reduceToNat, Int.reduceLE, Int.reduceLT, Int.cast_ofNat_Int, decide_true, add_lit, Nat.zero_add, Nat.zero_mul, Nat.one_mul, Bool.not_true, Bool.not_false]
  refine callP (by kernel_rfl : hasBody Try.prog 14 = true) (solved_any w) ?_
  rintro u w1 ⟨rfl, hx1⟩
  simp only [CW_seq, CW_skip, CW_cond, CW_block, CW_loop, CW_reg, CW_draw, CW_exit, CW_ret, thenF_n, thenF_nK, thenF_r, thenF_x, blockF_n, blockF_nK, blockF_r, blockF_x, condF_t, condF_f, Rn_nil, Rn_ng, Rn_g, oneStep_g, os_move, os_assign, os_pick, os_bin, os_un, os_fieldAddr, os_field, os_indexAddr, os_index, os_slice, os_extract, os_nilCheck, os_makeFunc, os_build, os_len, os_cap, os_convert, os_min, os_max, on_load, on_buildSlice, on_alloc, on_box, on_makeSlice, on_lookup, mn_convert, mn_bin, optP_n, on_append, on_copy, on_store, on_call, ev, updo, upd, optP_p, resP_ok, resU_ok, ↓reduceIte, Nat.reduceEqDiff, List.map_cons, List.map_nil, List.map_toArray, argU, Nat.reduceAdd, gval_slot, gslot, List.getElem?_toArray, List.getElem?_cons_zero, List.getElem?_cons_succ, Option.bind_some, Option.some.injEq, reduceCtorEq, Bool.false_eq_true, Bool.true_eq_false, Option.map_some, Option.map_none, Int.toNat_zero, Option.isNone_none, Option.isNone_some, add_zero', binV, binI, unV, fieldV, extV, idxV, indexV, sliceV, lenV, capV, convV, min2V, max2V, TY, Option.isSome_some, Bool.true_and, Bool.and_true, Nat.mul_one, Int.toNat_natCast, le0n, Flat.val, Int.reduceToNat, Int.reduceLE, Int.reduceLT, Int.cast_ofNat_Int, decide_true, add_lit, Nat.zero_add, Nat.zero_mul, Nat.one_mul, Bool.not_true, Bool.not_false]
  refine callP (by kernel_rfl : hasBody Try.prog 19 = true) (mod_any n 10 w1 (by omega)) ?_
  rintro u w1' ⟨hu, hw⟩
  subst hw; subst hu
  simp only [CW_seq, CW_skip, CW_cond, CW_block, CW_loop, CW_reg, CW_draw, CW_exit, CW_ret, thenF_n, thenF_nK, thenF_r, thenF_x, blockF_n, blockF_nK, blockF_r, blockF_x, condF_t, condF_f, Rn_nil, Rn_ng, Rn_g, oneStep_g, os_move, os_assign, os_pick, os_bin, os_un, os_fieldAddr, os_field, os_indexAddr, os_index, os_slice, os_extract, os_nilCheck, os_makeFunc, os_build, os_len, os_cap, os_convert, os_min, os_max, on_load, on_buildSlice, on_alloc, on_box, on_makeSlice, on_lookup, mn_convert, mn_bin, optP_n, on_append, on_copy, on_store, on_call, ev, updo, upd, optP_p, resP_ok, resU_ok, ↓reduceIte, Nat.reduceEqDiff, List.map_cons, List.map_nil, List.map_toArray, argU, Nat.reduceAdd, gval_slot, gslot, List.getElem?_toArray, List.getElem?_cons_zero, List.getElem?_cons_succ, Option.bind_some, Option.some.injEq, reduceCtorEq, Bool.false_eq_true, Bool.true_eq_false, Option.map_some, Option.map_none, Int.toNat_zero, Option.isNone_none, Option.isNone_some, add_zero', binV, binI, unV, fieldV, extV, idxV, indexV, sliceV, lenV, capV, convV, min2V, max2V, TY, Option.isSome_some, Bool.true_and, Bool.and_true, Nat.mul_one, Int.toNat_natCast, le0n, Flat.val, Int.reduceToNat, Int.reduceLE, Int.reduceLT, Int.cast_ofNat_Int, decide_true, add_lit, Nat.zero_add, Nat.zero_mul, Nat.one_mul, Bool.not_true, Bool.not_false, hN']
  refine callP (by kernel_rfl : hasBody Try.prog 19 = true) (mod_any most 6 w1' (by omega)) ?_
  rintro u w1 ⟨hu, hw⟩
  subst hw; subst hu
  have hv1 : R (hpOf w1) v st := Rep.mono (hle_ext hx1) hv
  simp only [CW_seq, CW_skip, CW_cond, CW_block, CW_loop, CW_reg, CW_draw, CW_exit, CW_ret, thenF_n, thenF_nK, thenF_r, thenF_x, blockF_n, blockF_nK, blockF_r, blockF_x, condF_t, condF_f, Rn_nil, Rn_ng, Rn_g, oneStep_g, os_move, os_assign, os_pick, os_bin, os_un, os_fieldAddr, os_field, os_indexAddr, os_index, os_slice, os_extract, os_nilCheck, os_makeFunc, os_build, os_len, os_cap, os_convert, os_min, os_max, on_load, on_buildSlice, on_alloc, on_box, on_makeSlice, on_lookup, mn_convert, mn_bin, optP_n, on_append, on_copy, on_store, on_call, ev, updo, upd, optP_p, resP_ok, resU_ok, ↓reduceIte, Nat.reduceEqDiff, List.map_cons, List.map_nil, List.map_toArray, argU, Nat.reduceAdd, gval_slot, gslot, List.getElem?_toArray, List.getElem?_cons_zero, List.getElem?_cons_succ, Option.bind_some, Option.some.injEq, reduceCtorEq, Bool.false_eq_true, Bool.true_eq_false, Option.map_some, Option.map_none, Int.toNat_zero, Option.isNone_none, Option.isNone_some, add_zero', binV, binI, unV, fieldV, extV, idxV, indexV, sliceV, lenV, capV, convV, min2V, max2V, TY, Option.isSome_some, Bool.true_and, Bool.and_true, Nat.mul_one, Int.toNat_natCast, le0n, Flat.val, Int.reduceToNat, Int.reduceLE, Int.reduceLT, Int.cast_ofNat_Int, decide_true, add_lit, Nat.zero_add, Nat.zero_mul, Nat.one_mul, Bool.not_true, Bool.not_false, hN', hM']
  refine callP (by kernel_rfl : hasBody Try.prog 20 = true) (fitSteps_any v st (N : Int) w1 hv1 (by omega) (by omega)) ?_
  rintro us w2 ⟨hos, hx2⟩
  have hvg2 : R (hpOf w2) vg gl := Rep.mono (hle_ext (hx1.trans hx2)) hvg
  simp only [CW_seq, CW_skip, CW_cond, CW_block, CW_loop, CW_reg, CW_draw, CW_exit, CW_ret, thenF_n, thenF_nK, thenF_r, thenF_x, blockF_n, blockF_nK, blockF_r, blockF_x, condF_t, condF_f, Rn_nil, Rn_ng, Rn_g, oneStep_g, os_move, os_assign, os_pick, os_bin, os_un, os_fieldAddr, os_field, os_indexAddr, os_index, os_slice, os_extract, os_nilCheck, os_makeFunc, os_build, os_len, os_cap, os_convert, os_min, os_max, on_load, on_buildSlice, on_alloc, on_box, on_makeSlice, on_lookup, mn_convert, mn_bin, optP_n, on_append, on_copy, on_store, on_call, ev, updo, upd, optP_p, resP_ok, resU_ok, ↓reduceIte, Nat.reduceEqDiff, List.map_cons, List.map_nil, List.map_toArray, argU, Nat.reduceAdd, gval_slot, gslot, List.getElem?_toArray, List.getElem?_cons_zero, List.getElem?_cons_succ, Option.bind_some, Option.some.injEq, reduceCtorEq, Bool.false_eq_true, Bool.true_eq_false, Option.map_some, Option.map_none, Int.toNat_zero, Option.isNone_none, Option.isNone_some, add_zero', binV, binI, unV, fieldV, extV, idxV, indexV, sliceV, lenV, capV, convV, min2V, max2V, TY, Option.isSome_some, Bool.true_and, Bool.and_true, Nat.mul_one, Int.toNat_natCast, le0n, Flat.val, Int.reduceToNat, Int.reduceLE, Int.reduceLT, Int.cast_ofNat_Int, decide_true, add_lit, Nat.zero_add, Nat.zero_mul, Nat.one_mul, Bool.not_true, Bool.not_false]
  refine callP (by kernel_rfl : hasBody Try.prog 22 = true) (cut_any vg gl N w2 hvg2 (by omega)) ?_
  rintro uc w3 ⟨hoc, hx3⟩
  simp only [CW_seq, CW_skip, CW_cond, CW_block, CW_loop, CW_reg, CW_draw, CW_exit, CW_ret, thenF_n, thenF_nK, thenF_r, thenF_x, blockF_n, blockF_nK, blockF_r, blockF_x, condF_t, condF_f, Rn_nil, Rn_ng, Rn_g, oneStep_g, os_move, os_assign, os_pick, os_bin, os_un, os_fieldAddr, os_field, os_indexAddr, os_index, os_slice, os_extract, os_nilCheck, os_makeFunc, os_build, os_len, os_cap, os_convert, os_min, os_max, on_load, on_buildSlice, on_alloc, on_box, on_makeSlice, on_lookup, mn_convert, mn_bin, optP_n, on_append, on_copy, on_store, on_call, ev, updo, upd, optP_p, resP_ok, resU_ok, ↓reduceIte, Nat.reduceEqDiff, List.map_cons, List.map_nil, List.map_toArray, argU, Nat.reduceAdd, gval_slot, gslot, List.getElem?_toArray, List.getElem?_cons_zero, List.getElem?_cons_succ, Option.bind_some, Option.some.injEq, reduceCtorEq, Bool.false_eq_true, Bool.true_eq_false, Option.map_some, Option.map_none, Int.toNat_zero, Option.isNone_none, Option.isNone_some, add_zero', binV, binI, unV, fieldV, extV, idxV, indexV, sliceV, lenV, capV, convV, min2V, max2V, TY, Option.isSome_some, Bool.true_and, Bool.and_true, Nat.mul_one, Int.toNat_natCast, le0n, Flat.val, Int.reduceToNat, Int.reduceLE, Int.reduceLT, Int.cast_ofNat_Int, decide_true, add_lit, Nat.zero_add, Nat.zero_mul, Nat.one_mul, Bool.not_true, Bool.not_false]
  refine callP (by kernel_rfl : hasBody Try.prog 21 = true) (fit_any uc (cutF gl N) (M : Int) w3 (hoc.rw_ (hle_ext hx3)) (by omega) (by omega) (by rw [cutF_len]; omega) (fun x hx => Nat.le_trans (cutF_rows gl N x hx) (by omega))) ?_
  rintro ug w4 ⟨hRg, hx4⟩
  have hvk4 : R (hpOf w4) vk kl := Rep.mono (hle_ext (((hx1.trans hx2).trans hx3).trans hx4)) hvk
  simp only [CW_seq, CW_skip, CW_cond, CW_block, CW_loop, CW_reg, CW_draw, CW_exit, CW_ret, thenF_n, thenF_nK, thenF_r, thenF_x, blockF_n, blockF_nK, blockF_r, blockF_x, condF_t, condF_f, Rn_nil, Rn_ng, Rn_g, oneStep_g, os_move, os_assign, os_pick, os_bin, os_un, os_fieldAddr, os_field, os_indexAddr, os_index, os_slice, os_extract, os_nilCheck, os_makeFunc, os_build, os_len, os_cap, os_convert, os_min, os_max, on_load, on_buildSlice, on_alloc, on_box, on_makeSlice, on_lookup, mn_convert, mn_bin, optP_n, on_append, on_copy, on_store, on_call, ev, updo, upd, optP_p, resP_ok, resU_ok, ↓reduceIte, Nat.reduceEqDiff, List.map_cons, List.map_nil, List.map_toArray, argU, Nat.reduceAdd, gval_slot, gslot, List.getElem?_toArray, List.getElem?_cons_zero, List.getElem?_cons_succ, Option.bind_some, Option.some.injEq, reduceCtorEq, Bool.false_eq_true, Bool.true_eq_false, Option.map_some, Option.map_none, Int.toNat_zero, Option.isNone_none, Option.isNone_some, add_zero', binV, binI, unV, fieldV, extV, idxV, indexV, sliceV, lenV, capV, convV, min2V, max2V, TY, Option.isSome_some, Bool.true_and, Bool.and_true, Nat.mul_one, Int.toNat_natCast, le0n, Flat.val, Int.reduceToNat, Int.reduceLE, Int.reduceLT, Int.cast_ofNat_Int, decide_true, add_lit, Nat.zero_add, Nat.zero_mul, Nat.one_mul, Bool.not_true, Bool.not_false]
  refine callP (by kernel_rfl : hasBody Try.prog 22 = true) (cut_any vk kl N w4 hvk4 (by omega)) ?_
  rintro ud w5 ⟨hod, hx5⟩
  simp only [CW_seq, CW_skip, CW_cond, CW_block, CW_loop, CW_reg, CW_draw, CW_exit, CW_ret, thenF_n, thenF_nK, thenF_r, thenF_x, blockF_n, blockF_nK, blockF_r, blockF_x, condF_t, condF_f, Rn_nil, Rn_ng, Rn_g, oneStep_g, os_move, os_assign, os_pick, os_bin, os_un, os_fieldAddr, os_field, os_indexAddr, os_index, os_slice, os_extract, os_nilCheck, os_makeFunc, os_build, os_len, os_cap, os_convert, os_min, os_max, on_load, on_buildSlice, on_alloc, on_box, on_makeSlice, on_lookup, mn_convert, mn_bin, optP_n, on_append, on_copy, on_store, on_call, ev, updo, upd, optP_p, resP_ok, resU_ok, ↓reduceIte, Nat.reduceEqDiff, List.map_cons, List.map_nil, List.map_toArray, argU, Nat.reduceAdd, gval_slot, gslot, List.getElem?_toArray, List.getElem?_cons_zero, List.getElem?_cons_succ, Option.bind_some, Option.some.injEq, reduceCtorEq, Bool.false_eq_true, Bool.true_eq_false, Option.map_some, Option.map_none, Int.toNat_zero, Option.isNone_none, Option.isNone_some, add_zero', binV, binI, unV, fieldV, extV, idxV, indexV, sliceV, lenV, capV, convV, min2V, max2V, TY, Option.isSome_some, Bool.true_and, Bool.and_true, Nat.mul_one, Int.toNat_natCast, le0n, Flat.val, Int.reduceToNat, Int.reduceLE, Int.reduceLT, Int.cast_ofNat_Int, decide_true, add_lit, Nat.zero_add, Nat.zero_mul, Nat.one_mul, Bool.not_true, Bool.not_false]
  refine callP (by kernel_rfl : hasBody Try.prog 21 = true) (fit_any ud (cutF kl N) (M : Int) w5 (hod.rw_ (hle_ext hx5)) (by omega) (by omega) (by rw [cutF_len]; omega) (fun x hx => Nat.le_trans (cutF_rows kl N x hx) (by omega))) ?_
  rintro uk w6 ⟨hRk, hx6⟩
  have hok := fit_ok (N := N) (M := M) (by omega) (by omega) (by omega) (by omega) st gl kl
  have hgl := fitF_rows (m := (M : Int)) (cutF_rows gl N)
  have hkl := fitF_rows (m := (M : Int)) (cutF_rows kl N)
  have hgn : (fitF (M : Int) (cutF gl N)).length = N := by rw [fitF_len, cutF_len]
  have hkn : (fitF (M : Int) (cutF kl N)).length = N := by rw [fitF_len, cutF_len]
  have hRs : R (hpOf w6) us (fitS N st) := Rep.mono (hle_ext (((hx3.trans hx4).trans hx5).trans hx6)) (hos.rw_ (hle_ext hx2))
  have hRg6 : R (hpOf w6) ug (fitF (M : Int) (cutF gl N)) := Rep.mono (hle_ext (hx5.trans hx6)) hRg
  have hsl := fitS_len (N : Int) st
  generalize fitF (M : Int) (cutF gl N) = g at *
  generalize fitF (M : Int) (cutF kl N) = k at *
  generalize fitS (N : Int) st = s at *
  simp only [CW_seq, CW_skip, CW_cond, CW_block, CW_loop, CW_reg, CW_draw, CW_exit, CW_ret, thenF_n, thenF_nK, thenF_r, thenF_x, blockF_n, blockF_nK, blockF_r, blockF_x, condF_t, condF_f, Rn_nil, Rn_ng, Rn_g, oneStep_g, os_move, os_assign, os_pick, os_bin, os_un, os_fieldAddr, os_field, os_indexAddr, os_index, os_slice, os_extract, os_nilCheck, os_makeFunc, os_build, os_len, os_cap, os_convert, os_min, os_max, on_load, on_buildSlice, on_alloc, on_box, on_makeSlice, on_lookup, mn_convert, mn_bin, optP_n, on_append, on_copy, on_store, on_call, ev, updo, upd, optP_p, resP_ok, resU_ok, ↓reduceIte, Nat.reduceEqDiff, List.map_cons, List.map_nil, List.map_toArray, argU, Nat.reduceAdd, gval_slot, gslot, List.getElem?_toArray, List.getElem?_cons_zero, List.getElem?_cons_succ, Option.bind_some, Option.some.injEq, reduceCtorEq, Bool.false_eq_true, Bool.true_eq_false, Option.map_some, Option.map_none, Int.toNat_zero, Option.isNone_none, Option.isNone_some, add_zero', binV, binI, unV, fieldV, extV, idxV, indexV, sliceV, lenV, capV, convV, min2V, max2V, TY, Option.isSome_some, Bool.true_and, Bool.and_true, Nat.mul_one, Int.toNat_natCast, le0n, Flat.val, Int.reduceToNat, Int.reduceLE, Int.reduceLT, Int.cast_ofNat_Int, decide_true, add_lit, Nat.zero_add, Nat.zero_mul, Nat.one_mul, Bool.not_true, Bool.not_false]
  refine callP (by kernel_rfl : hasBody Try.prog 19 = true) (mod_any f (M : Int) w6 (by omega)) ?_
  rintro u w6' ⟨hu, hw⟩
  subst hw; subst hu
  obtain ⟨F, hF, hFM⟩ := modf_nat f M (by omega)
  rw [hF]
  have hx06 := ((((hx1.trans hx2).trans hx3).trans hx4).trans hx5).trans hx6
  clear hRg hos hoc hod hv1 hvg2 hvk4
  simp only [CW_seq, CW_skip, CW_cond, CW_block, CW_loop, CW_reg, CW_draw, CW_exit, CW_ret, thenF_n, thenF_nK, thenF_r, thenF_x, blockF_n, blockF_nK, blockF_r, blockF_x, condF_t, condF_f, Rn_nil, Rn_ng, Rn_g, oneStep_g, os_move, os_assign, os_pick, os_bin, os_un, os_fieldAddr, os_field, os_indexAddr, os_index, os_slice, os_extract, os_nilCheck, os_makeFunc, os_build, os_len, os_cap, os_convert, os_min, os_max, on_load, on_buildSlice, on_alloc, on_box, on_makeSlice, on_lookup, mn_convert, mn_bin, optP_n, on_append, on_copy, on_store, on_call, ev, updo, upd, optP_p, resP_ok, resU_ok, ↓reduceIte, Nat.reduceEqDiff, List.map_cons, List.map_nil, List.map_toArray, argU, Nat.reduceAdd, gval_slot, gslot, List.getElem?_toArray, List.getElem?_cons_zero, List.getElem?_cons_succ, Option.bind_some, Option.some.injEq, reduceCtorEq, Bool.false_eq_true, Bool.true_eq_false, Option.map_some, Option.map_none, Int.toNat_zero, Option.isNone_none, Option.isNone_some, add_zero', binV, binI, unV, fieldV, extV, idxV, indexV, sliceV, lenV, capV, convV, min2V, max2V, TY, Option.isSome_some, Bool.true_and, Bool.and_true, Nat.mul_one, Int.toNat_natCast, le0n, Flat.val, Int.reduceToNat, Int.reduceLE, Int.reduceLT, Int.cast_ofNat_Int, decide_true, add_lit, Nat.zero_add, Nat.zero_mul, Nat.one_mul, Bool.not_true, Bool.not_false]
  refine loop_rule [0, 1, 2, 3, 4, 5] (σ := Nat) (fun i f w' => f 15 = .int .i64 i ∧ i ≤ N ∧ Own (hpNo w' (fun b => blk (f 13) b ∨ blk (f 14) b)) w' 37 (f 13) (oneF (g.take i) F [0]) ∧ Own (hpNo w' (fun b => blk (f 13) b ∨ blk (f 14) b)) w' 37 (f 14) (oneF (k.take i) F [0, 0]) ∧ Dj (f 13) (f 14) ∧ Ext w6' w' ∧ ∀ b, blk (f 13) b ∨ blk (f 14) b → w6'.heap.size ≤ b) (fun i => N - i) 0 (by decide +kernel) ?_ ?_
  · simp only [upd, ↓reduceIte, Nat.reduceEqDiff]
    exact ⟨rfl, Nat.zero_le _, Own.nil _ _ _, Own.nil _ _ _, Dj.nil _, Mod.refl _, fun b hb => hb.elim (fun h => absurd h blk_nil) (fun h => absurd h blk_nil)⟩
  · rintro i fr w7 hk ⟨h15, hil, ho1, ho2, hdj, hx7, hfr⟩
    simp only [List.forall_mem_cons, upd, ↓reduceIte, Nat.reduceEqDiff] at hk
    obtain ⟨e0, e1, e2, e3, e4, e5, _⟩ := hk
    generalize hu13 : fr 13 = u13 at *
    generalize hu14 : fr 14 = u14 at *
    simp only [CW_seq, CW_skip, CW_cond, CW_block, CW_loop, CW_reg, CW_draw, CW_exit, CW_ret, thenF_n, thenF_nK, thenF_r, thenF_x, blockF_n, blockF_nK, blockF_r, blockF_x, condF_t, condF_f, Rn_nil, Rn_ng, Rn_g, oneStep_g, os_move, os_assign, os_pick, os_bin, os_un, os_fieldAddr, os_field, os_indexAddr, os_index, os_slice, os_extract, os_nilCheck, os_makeFunc, os_build, os_len, os_cap, os_convert, os_min, os_max, on_load, on_buildSlice, on_alloc, on_box, on_makeSlice, on_lookup, mn_convert, mn_bin, optP_n, on_append, on_copy, on_store, on_call, ev, updo, upd, optP_p, resP_ok, resU_ok, ↓reduceIte, Nat.reduceEqDiff, List.map_cons, List.map_nil, List.map_toArray, argU, Nat.reduceAdd, gval_slot, gslot, List.getElem?_toArray, List.getElem?_cons_zero, List.getElem?_cons_succ, Option.bind_some, Option.some.injEq, reduceCtorEq, Bool.false_eq_true, Bool.true_eq_false, Option.map_some, Option.map_none, Int.toNat_zero, Option.isNone_none, Option.isNone_some, add_zero', binV, binI, unV, fieldV, extV, idxV, indexV, sliceV, lenV, capV, convV, min2V, max2V, TY, Option.isSome_some, Bool.true_and, Bool.and_true, Nat.mul_one, Int.toNat_natCast, le0n, Flat.val, Int.reduceToNat, Int.reduceLE, Int.reduceLT, Int.cast_ofNat_Int, decide_true, add_lit, Nat.zero_add, Nat.zero_mul, Nat.one_mul, Bool.not_true, Bool.not_false, h15, e0]
    refine condF_split (fun hc => ?_) (fun hc => ?_)
    · have hlt : i < N := by simpa using hc
      have hRg7 : R (hpOf w7) ug g := Rep.mono (hle_ext hx7) hRg6
      have hRk7 : R (hpOf w7) uk k := Rep.mono (hle_ext hx7) hRk
      have ing := hRg7.inS (k := i) (by omega)
      have ink := hRk7.inS (k := i) (by omega)
      have hgi := List.getElem?_eq_getElem (show i < g.length by omega)
      have hki := List.getElem?_eq_getElem (show i < k.length by omega)
      have tg := oneF_take (l := g) (f := (F : Int)) (y := [0]) (k := i) (by omega)
      have tk := oneF_take (l := k) (f := (F : Int)) (y := [0, 0]) (k := i) (by omega)
      have hgl' := hgl _ (List.getElem_mem (show i < g.length by omega))
      have hkl' := hkl _ (List.getElem_mem (show i < k.length by omega))
      obtain ⟨ux, hux, cx⟩ := hRg7.row hgi
      obtain ⟨uy, huy, cy⟩ := hRk7.row hki
      generalize g[i] = gi at hux hgl' tg
      generalize k[i] = ki at huy hkl' tk
      have ldx := ld_at (P := Try.prog) (t := 37) cx (hle_refl _) tyG37
      have q6 : binV Try.prog .add 3 (.int .i64 i) (.int .i64 1) = some (.int .i64 ((i + 1 : Nat) : Int)) := by
        simp only [binV, binI, if_true]; rw [i64s i (by omega)]
      have l1 := oneF_len (g.take i) (F : Int) [0]
      have l2 := oneF_len (k.take i) (F : Int) [0, 0]
      rw [List.length_take] at l1 l2
      have hN7 : ∀ b, blk u13 b ∨ blk u14 b → b < w7.heap.size := fun b hb => hb.elim (fun h => ho1.lt h) (fun h => ho2.lt h)
      simp only [CW_seq, CW_skip, CW_cond, CW_block, CW_loop, CW_reg, CW_draw, CW_exit, CW_ret, thenF_n, thenF_nK, thenF_r, thenF_x, blockF_n, blockF_nK, blockF_r, blockF_x, condF_t, condF_f, Rn_nil, Rn_ng, Rn_g, oneStep_g, os_move, os_assign, os_pick, os_bin, os_un, os_fieldAddr, os_field, os_indexAddr, os_index, os_slice, os_extract, os_nilCheck, os_makeFunc, os_build, os_len, os_cap, os_convert, os_min, os_max, on_load, on_buildSlice, on_alloc, on_box, on_makeSlice, on_lookup, mn_convert, mn_bin, optP_n, on_append, on_copy, on_store, on_call, ev, updo, upd, optP_p, resP_ok, resU_ok, ↓reduceIte, Nat.reduceEqDiff, List.map_cons, List.map_nil, List.map_toArray, argU, Nat.reduceAdd, gval_slot, gslot, List.getElem?_toArray, List.getElem?_cons_zero, List.getElem?_cons_succ, Option.bind_some, Option.some.injEq, reduceCtorEq, Bool.false_eq_true, Bool.true_eq_false, Option.map_some, Option.map_none, Int.toNat_zero, Option.isNone_none, Option.isNone_some, add_zero', binV, binI, unV, fieldV, extV, idxV, indexV, sliceV, lenV, capV, convV, min2V, max2V, TY, Option.isSome_some, Bool.true_and, Bool.and_true, Nat.mul_one, Int.toNat_natCast, le0n, Flat.val, Int.reduceToNat, Int.reduceLE, Int.reduceLT, Int.cast_ofNat_Int, decide_true, add_lit, Nat.zero_add, Nat.zero_mul, Nat.one_mul, Bool.not_true, Bool.not_false, h15, e2, e5, ing, ldx]
      refine callP (by kernel_rfl : hasBody Try.prog 23 = true) (Has_any ux gi F w7 hux (by omega)) ?_
      rintro r w7' ⟨hr, hw⟩
      subst hw; subst hr
      obtain ⟨z1, w8, m1, oz1, xz1, fz1⟩ := lit (P := Try.prog) (w := w7') (h := hpOf w7') (α := Int) (xs := [.int .i64 0]) (ys := [0]) (parts := #[(0, .int .i64 0)]) (n := 1) sokI rfl (encs_ints.2 rfl) (by simp [Value.cells]) rfl rfl (by simp) (by simp) (hle_refl _)
      obtain ⟨t, ht⟩ : ∃ t : Bool, t = true := ⟨true, rfl⟩
      cases hb1 : gi.contains (F : Int)
      case' false =>
        have xk : Ext w7' w7' := Mod.refl _
        have ox : Own (hpOf w7') w7' 3 (.slice none 0 0) ([] : List Int) := Own.nil _ _ _
        have dx : ∀ b, blk (.slice none 0 0) b → w7'.heap.size ≤ b := fun b hb => absurd hb blk_nil
        have sx : isS (.slice none 0 0) = true := rfl
        rw [hb1, if_neg (by simp)] at tg
        have ldy := ld_at (P := Try.prog) (t := 37) cy (hle_refl _) tyG37
        simp only [CW_seq, CW_skip, CW_cond, CW_block, CW_loop, CW_reg, CW_draw, CW_exit, CW_ret, thenF_n, thenF_nK, thenF_r, thenF_x, blockF_n, blockF_nK, blockF_r, blockF_x, condF_t, condF_f, Rn_nil, Rn_ng, Rn_g, oneStep_g, os_move, os_assign, os_pick, os_bin, os_un, os_fieldAddr, os_field, os_indexAddr, os_index, os_slice, os_extract, os_nilCheck, os_makeFunc, os_build, os_len, os_cap, os_convert, os_min, os_max, on_load, on_buildSlice, on_alloc, on_box, on_makeSlice, on_lookup, mn_convert, mn_bin, optP_n, on_append, on_copy, on_store, on_call, ev, updo, upd, optP_p, resP_ok, resU_ok, ↓reduceIte, Nat.reduceEqDiff, List.map_cons, List.map_nil, List.map_toArray, argU, Nat.reduceAdd, gval_slot, gslot, List.getElem?_toArray, List.getElem?_cons_zero, List.getElem?_cons_succ, Option.bind_some, Option.some.injEq, reduceCtorEq, Bool.false_eq_true, Bool.true_eq_false, Option.map_some, Option.map_none, Int.toNat_zero, Option.isNone_none, Option.isNone_some, add_zero', binV, binI, unV, fieldV, extV, idxV, indexV, sliceV, lenV, capV, convV, min2V, max2V, TY, Option.isSome_some, Bool.true_and, Bool.and_true, Nat.mul_one, Int.toNat_natCast, le0n, Flat.val, Int.reduceToNat, Int.reduceLE, Int.reduceLT, Int.cast_ofNat_Int, decide_true, add_lit, Nat.zero_add, Nat.zero_mul, Nat.one_mul, Bool.not_true, Bool.not_false, e3, e5, h15, ink, ldy]
      case' true =>
        have xk : Ext w7' w8 := xz1
        have ox : Own (hpOf w7') w8 3 z1 ([0] : List Int) := oz1
        have dx : ∀ b, blk z1 b → w7'.heap.size ≤ b := fz1
        have sx : isS z1 = true := oz1.isS
        rw [hb1, if_pos rfl] at tg
        have ldy := ld_at (P := Try.prog) (t := 37) cy (hle_ext xz1) tyG37
        simp only [CW_seq, CW_skip, CW_cond, CW_block, CW_loop, CW_reg, CW_draw, CW_exit, CW_ret, thenF_n, thenF_nK, thenF_r, thenF_x, blockF_n, blockF_nK, blockF_r, blockF_x, condF_t, condF_f, Rn_nil, Rn_ng, Rn_g, oneStep_g, os_move, os_assign, os_pick, os_bin, os_un, os_fieldAddr, os_field, os_indexAddr, os_index, os_slice, os_extract, os_nilCheck, os_makeFunc, os_build, os_len, os_cap, os_convert, os_min, os_max, on_load, on_buildSlice, on_alloc, on_box, on_makeSlice, on_lookup, mn_convert, mn_bin, optP_n, on_append, on_copy, on_store, on_call, ev, updo, upd, optP_p, resP_ok, resU_ok, ↓reduceIte, Nat.reduceEqDiff, List.map_cons, List.map_nil, List.map_toArray, argU, Nat.reduceAdd, gval_slot, gslot, List.getElem?_toArray, List.getElem?_cons_zero, List.getElem?_cons_succ, Option.bind_some, Option.some.injEq, reduceCtorEq, Bool.false_eq_true, Bool.true_eq_false, Option.map_some, Option.map_none, Int.toNat_zero, Option.isNone_none, Option.isNone_some, add_zero', binV, binI, unV, fieldV, extV, idxV, indexV, sliceV, lenV, capV, convV, min2V, max2V, TY, Option.isSome_some, Bool.true_and, Bool.and_true, Nat.mul_one, Int.toNat_natCast, le0n, Flat.val, Int.reduceToNat, Int.reduceLE, Int.reduceLT, Int.cast_ofNat_Int, decide_true, add_lit, Nat.zero_add, Nat.zero_mul, Nat.one_mul, Bool.not_true, Bool.not_false, e3, e5, h15, ink, ldy, m1]
      all_goals
        refine callP (by kernel_rfl : hasBody Try.prog 23 = true) (Has_any uy ki F _ (Rep.mono (hle_ext xk) huy) (by omega)) ?_
        rintro r w9 ⟨hr, hw⟩
        subst hw; subst hr
        obtain ⟨z2, w10, m2, oz2, xz2, fz2⟩ := lit (P := Try.prog) (w := w9) (h := hpOf w9) (α := Int) (xs := [.int .i64 0, .int .i64 0]) (ys := [0, 0]) (parts := #[(0, .int .i64 0), (1, .int .i64 0)]) (n := 2) sokI rfl (encs_ints.2 rfl) (by simp [Value.cells]) rfl rfl (by simp) (by simp) (hle_refl _)
        cases hb2 : ki.contains (F : Int)
        case' false =>
          have xy : Ext w9 w9 := Mod.refl _
          have oy : Own (hpOf w9) w9 3 (.slice none 0 0) ([] : List Int) := Own.nil _ _ _
          have dy : ∀ b, blk (.slice none 0 0) b → w9.heap.size ≤ b := fun b hb => absurd hb blk_nil
          have sy : isS (.slice none 0 0) = true := rfl
          rw [hb2, if_neg (by simp)] at tk
        case' true =>
          have xy : Ext w9 w10 := xz2
          have oy : Own (hpOf w9) w10 3 z2 ([0, 0] : List Int) := oz2
          have dy : ∀ b, blk z2 b → w9.heap.size ≤ b := fz2
          have sy : isS z2 = true := oz2.isS
          rw [hb2, if_pos rfl] at tk
        all_goals
          have x7 := xk.trans xy
          have o1' := ho1.noMod x7 (fun b h => h.elim) (fun b _ h => h) (N' := fun b => blk u13 b ∨ blk u14 b) (fun b h => .inl h) (fun b h => .inl h)
          have o2' := ho2.noMod x7 (fun b h => h.elim) (fun b _ h => h) (N' := fun b => blk u13 b ∨ blk u14 b) (fun b h => .inl h) (fun b h => .inr h)
          have rx := ((ox.ext xy).down (hpNo_le _ (fun b => blk u13 b ∨ blk u14 b))).roNo (hpNo_mod x7 (fun b h => h.elim) (N' := fun b => blk u13 b ∨ blk u14 b) fun b h => .inl h) (fun b hb hh => by have := dx b hb; have := hN7 b hh; omega)
          obtain ⟨p1, v1, w11, p2, q1, q2, hdj1, m11, mv11⟩ := push_no o1' o2' hdj sx rx (by omega)
          have hc1 : (fun b => blk v1 b ∨ blk u14 b) = (fun b => blk u14 b ∨ blk v1 b) := funext fun b => propext Or.comm
          rw [hc1] at q1 q2
          have ry := ((oy.mod m11 (fun b hb hh => by have := dy b hb; have := xk.size; have := hN7 b (.inl hh); omega)).down (hpNo_le _ (fun b => blk u13 b ∨ blk u14 b))).roNo (N := fun b => blk u14 b ∨ blk v1 b)
            (hpNo_mod ((xy.weaken (fun _ _ h => h.elim)).trans m11) (fun b h => .inl h) fun b h => by
              rcases h with h | h
              · exact .inl (.inr h)
              · rcases mv11 b h with h | h
                · exact .inl (.inl h)
                · have := xy.size; exact .inr (by omega))
            (fun b hb hh => by
              have h1 := dy b hb
              have h2 := xk.size
              rcases hh with hh | hh
              · have := hN7 b (.inr hh); omega
              · rcases mv11 b hh with h | h
                · have := hN7 b (.inl h); omega
                · have := oy.lt hb; omega)
          obtain ⟨p3, v2, w12, p4, q3, q4, hdj2, m12, mv12⟩ := push_no q2 q1 hdj1.symm sy ry (by omega)
          have hc2 : (fun b => blk v2 b ∨ blk v1 b) = (fun b => blk v1 b ∨ blk v2 b) := funext fun b => propext Or.comm
          rw [hc2] at q3 q4
          have hx12 : Ext w6' w12 := Mod.ext_of (Mod.ext_of (hx7.trans x7) m11 fun b hb => hfr b (.inl hb)) m12 fun b hb => hfr b (.inr hb)
          have hfr2 : ∀ b, blk v1 b ∨ blk v2 b → w6'.heap.size ≤ b := fun b hb => by
            have h1 := (hx7.trans x7).size
            have h2 := m11.size
            rcases hb with hb | hb
            · rcases mv11 b hb with h | h
              · exact hfr b (.inl h)
              · omega
            · rcases mv12 b hb with h | h
              · exact hfr b (.inr h)
              · omega
        case' false => simp only [CW_seq, CW_skip, CW_cond, CW_block, CW_loop, CW_reg, CW_draw, CW_exit, CW_ret, thenF_n, thenF_nK, thenF_r, thenF_x, blockF_n, blockF_nK, blockF_r, blockF_x, condF_t, condF_f, Rn_nil, Rn_ng, Rn_g, oneStep_g, os_move, os_assign, os_pick, os_bin, os_un, os_fieldAddr, os_field, os_indexAddr, os_index, os_slice, os_extract, os_nilCheck, os_makeFunc, os_build, os_len, os_cap, os_convert, os_min, os_max, on_load, on_buildSlice, on_alloc, on_box, on_makeSlice, on_lookup, mn_convert, mn_bin, optP_n, on_append, on_copy, on_store, on_call, ev, updo, upd, optP_p, resP_ok, resU_ok, ↓reduceIte, Nat.reduceEqDiff, List.map_cons, List.map_nil, List.map_toArray, argU, Nat.reduceAdd, gval_slot, gslot, List.getElem?_toArray, List.getElem?_cons_zero, List.getElem?_cons_succ, Option.bind_some, Option.some.injEq, reduceCtorEq, Bool.false_eq_true, Bool.true_eq_false, Option.map_some, Option.map_none, Int.toNat_zero, Option.isNone_none, Option.isNone_some, add_zero', unV, fieldV, extV, idxV, indexV, sliceV, lenV, capV, convV, min2V, max2V, TY, Option.isSome_some, Bool.true_and, Bool.and_true, Nat.mul_one, Int.toNat_natCast, le0n, Flat.val, Int.reduceToNat, Int.reduceLE, Int.reduceLT, Int.cast_ofNat_Int, decide_true, add_lit, Nat.zero_add, Nat.zero_mul, Nat.one_mul, Bool.not_true, Bool.not_false, m2, hu13, hu14, p1, p2, p3, p4, h15, q6]
        case' true => simp only [CW_seq, CW_skip, CW_cond, CW_block, CW_loop, CW_reg, CW_draw, CW_exit, CW_ret, thenF_n, thenF_nK, thenF_r, thenF_x, blockF_n, blockF_nK, blockF_r, blockF_x, condF_t, condF_f, Rn_nil, Rn_ng, Rn_g, oneStep_g, os_move, os_assign, os_pick, os_bin, os_un, os_fieldAddr, os_field, os_indexAddr, os_index, os_slice, os_extract, os_nilCheck, os_makeFunc, os_build, os_len, os_cap, os_convert, os_min, os_max, on_load, on_buildSlice, on_alloc, on_box, on_makeSlice, on_lookup, mn_convert, mn_bin, optP_n, on_append, on_copy, on_store, on_call, ev, updo, upd, optP_p, resP_ok, resU_ok, ↓reduceIte, Nat.reduceEqDiff, List.map_cons, List.map_nil, List.map_toArray, argU, Nat.reduceAdd, gval_slot, gslot, List.getElem?_toArray, List.getElem?_cons_zero, List.getElem?_cons_succ, Option.bind_some, Option.some.injEq, reduceCtorEq, Bool.false_eq_true, Bool.true_eq_false, Option.map_some, Option.map_none, Int.toNat_zero, Option.isNone_none, Option.isNone_some, add_zero', unV, fieldV, extV, idxV, indexV, sliceV, lenV, capV, convV, min2V, max2V, TY, Option.isSome_some, Bool.true_and, Bool.and_true, Nat.mul_one, Int.toNat_natCast, le0n, Flat.val, Int.reduceToNat, Int.reduceLE, Int.reduceLT, Int.cast_ofNat_Int, decide_true, add_lit, Nat.zero_add, Nat.zero_mul, Nat.one_mul, Bool.not_true, Bool.not_false, m2, hu13, hu14, p1, p2, p3, p4, h15, q6]
        all_goals
          exact ⟨i + 1, by omega, by trivial, by omega, by rw [tg]; exact q4, by rw [tk]; exact q3, hdj2.symm, hx12, hfr2⟩
    · have hge : i = N := by simp at hc; omega
      subst hge
      rw [List.take_of_length_le (by omega)] at ho1 ho2
      have hone := ho1.rw_ (hpNo_le _ _)
      have hoff := ho2.rw_ (hpNo_le _ _)
      have hRs7 : R (hpOf w7) us s := Rep.mono (hle_ext hx7) hRs
      have hRg7 : R (hpOf w7) ug g := Rep.mono (hle_ext hx7) hRg6
      have hRk7 : R (hpOf w7) uk k := Rep.mono (hle_ext hx7) hRk
      have hok2 : OfOk (i : Int) s (oneF g F [0]) (oneF k F [0, 0]) 1 :=
        ⟨hok.n0, hok.n5, by omega, by omega, by rw [oneF_len]; exact hok.gn, by rw [oneF_len]; exact hok.kn, hok.st, oneF_facts g F (by simp), oneF_facts k F (by simp)⟩
      have hr1 : ∀ x ∈ oneF g (F : Int) [0], x.length ≤ 1000000000 := fun x hx => by
        obtain ⟨z, _, rfl⟩ := List.mem_map.1 hx
        split <;> simp
      have hr2 : ∀ x ∈ oneF k (F : Int) [0, 0], x.length ≤ 1000000000 := fun x hx => by
        obtain ⟨z, _, rfl⟩ := List.mem_map.1 hx
        split <;> simp
      simp only [CW_seq, CW_skip, CW_cond, CW_block, CW_loop, CW_reg, CW_draw, CW_exit, CW_ret, thenF_n, thenF_nK, thenF_r, thenF_x, blockF_n, blockF_nK, blockF_r, blockF_x, condF_t, condF_f, Rn_nil, Rn_ng, Rn_g, oneStep_g, os_move, os_assign, os_pick, os_bin, os_un, os_fieldAddr, os_field, os_indexAddr, os_index, os_slice, os_extract, os_nilCheck, os_makeFunc, os_build, os_len, os_cap, os_convert, os_min, os_max, on_load, on_buildSlice, on_alloc, on_box, on_makeSlice, on_lookup, mn_convert, mn_bin, optP_n, on_append, on_copy, on_store, on_call, ev, updo, upd, optP_p, resP_ok, resU_ok, ↓reduceIte, Nat.reduceEqDiff, List.map_cons, List.map_nil, List.map_toArray, argU, Nat.reduceAdd, gval_slot, gslot, List.getElem?_toArray, List.getElem?_cons_zero, List.getElem?_cons_succ, Option.bind_some, Option.some.injEq, reduceCtorEq, Bool.false_eq_true, Bool.true_eq_false, Option.map_some, Option.map_none, Int.toNat_zero, Option.isNone_none, Option.isNone_some, add_zero', binV, binI, unV, fieldV, extV, idxV, indexV, sliceV, lenV, capV, convV, min2V, max2V, TY, Option.isSome_some, Bool.true_and, Bool.and_true, Nat.mul_one, Int.toNat_natCast, le0n, Flat.val, Int.reduceToNat, Int.reduceLE, Int.reduceLT, Int.cast_ofNat_Int, decide_true, add_lit, Nat.zero_add, Nat.zero_mul, Nat.one_mul, Bool.not_true, Bool.not_false, e0, e1, e2, e3, e4]
      refine callP (by kernel_rfl : hasBody Try.prog 16 = true) (of_any (i : Int) (M : Int) us ug uk s g k w7 hRs7 hRg7 hRk7 (by omega) (fun x hx => Nat.le_trans (hgl x hx) (by omega)) (fun x hx => Nat.le_trans (hkl x hx) (by omega))) ?_
      rintro u w8 ⟨⟨vr, ok, hu, ha1, ha2⟩, hx8⟩
      have hokt : ok = true := by
        cases ok
        · exact absurd hok (ha2 rfl).1
        · rfl
      obtain ⟨_, vi, sol, T, hvr, hR, hsol⟩ := ha1 hokt
      subst hu; subst hvr
      have Sv := hR.isS
      have nv := hR.vlen
      obtain ⟨p1, p2⟩ := solV w8 (T : Int) Sv
      have hIn := fun w' hx => @sol_In w8 w' vi (T : Int) hx
      have xA := Ext.alloc w8 (.cells #[vi, .int .i64 (T : Int)] 27)
      generalize w8.alloc (.cells #[vi, .int .i64 (T : Int)] 27) = w9 at *
      have hx79 := hx8.trans xA
      simp only [CW_seq, CW_skip, CW_cond, CW_block, CW_loop, CW_reg, CW_draw, CW_exit, CW_ret, thenF_n, thenF_nK, thenF_r, thenF_x, blockF_n, blockF_nK, blockF_r, blockF_x, condF_t, condF_f, Rn_nil, Rn_ng, Rn_g, oneStep_g, os_move, os_assign, os_pick, os_bin, os_un, os_fieldAddr, os_field, os_indexAddr, os_index, os_slice, os_extract, os_nilCheck, os_makeFunc, os_build, os_len, os_cap, os_convert, os_min, os_max, on_load, on_buildSlice, on_alloc, on_box, on_makeSlice, on_lookup, mn_convert, mn_bin, optP_n, on_append, on_copy, on_store, on_call, ev, updo, upd, optP_p, resP_ok, resU_ok, ↓reduceIte, Nat.reduceEqDiff, List.map_cons, List.map_nil, List.map_toArray, argU, Nat.reduceAdd, gval_slot, gslot, List.getElem?_toArray, List.getElem?_cons_zero, List.getElem?_cons_succ, Option.bind_some, Option.some.injEq, reduceCtorEq, Bool.false_eq_true, Bool.true_eq_false, Option.map_some, Option.map_none, Int.toNat_zero, Option.isNone_none, Option.isNone_some, add_zero', binV, binI, unV, fieldV, extV, idxV, indexV, sliceV, lenV, capV, convV, min2V, max2V, TY, Option.isSome_some, Bool.true_and, Bool.and_true, Nat.mul_one, Int.toNat_natCast, le0n, Flat.val, Int.reduceToNat, Int.reduceLE, Int.reduceLT, Int.cast_ofNat_Int, decide_true, add_lit, Nat.zero_add, Nat.zero_mul, Nat.one_mul, Bool.not_true, Bool.not_false, p1, p2, e0, e1, hu13, hu14]
      refine callP (by kernel_rfl : hasBody Try.prog 16 = true) (of_any (i : Int) 1 us u13 u14 s (oneF g F [0]) (oneF k F [0, 0]) w9 (Rep.mono (hle_ext hx79) hRs7) (Rep.mono (hle_ext hx79) hone) (Rep.mono (hle_ext hx79) hoff) (by omega) hr1 hr2) ?_
      rintro u w10 ⟨⟨vr, ok2, hu, hb1, hb2⟩, hx10⟩
      have hokt2 : ok2 = true := by
        cases ok2
        · exact absurd hok2 (hb2 rfl).1
        · rfl
      obtain ⟨_, vi2, sol2, T2, hvr, hR2, hsol2⟩ := hb1 hokt2
      subst hu; subst hvr
      have Sv2 := hR2.isS
      have nv2 := hR2.vlen
      obtain ⟨p3, p4⟩ := solV w10 (T2 : Int) Sv2
      have hIn2 := fun w' hx => @sol_In w10 w' vi2 (T2 : Int) hx
      have xB := Ext.alloc w10 (.cells #[vi2, .int .i64 (T2 : Int)] 27)
      generalize w10.alloc (.cells #[vi2, .int .i64 (T2 : Int)] 27) = w11 at *
      have hx911 := hx10.trans xB
      have l1 := hIn w11 hx911
      have l2 := hIn2 w11 (Mod.refl _)
      have hgg := newF_graph i s
      have hNt : ((i : Nat) : Int).toNat = i := by omega
      have hMt : ((M : Nat) : Int).toNat = M := by omega
      rw [hNt, hMt] at hsol
      rw [hNt, show (1 : Int).toNat = 1 from rfl] at hsol2
      generalize newF i s = G at *
      obtain ⟨nx, pv⟩ := G
      simp only at hsol hsol2
      have hnl : nx.length = i := hgg.nx.len
      have hsl1 : sol.length = i := hsol.len.trans hnl
      have hsl2 : sol2.length = i := hsol2.len.trans hnl
      have hmain : ∀ b : Int, okN nx.length b = true → (((rowF sol2 b).length : Int) == 1) = (rowF sol b).contains (F : Int) := by
        intro b hb
        have h1 := hsol.mem (by have := hok.gf; rw [hMt] at this; exact this) hb F
        have h2 := hsol2.len1 hb
        rw [comes_one (by simp) (by simp)] at h2
        rw [Bool.eq_iff_iff, List.contains_iff_mem, h1, ← h2]
        simp only [beq_iff_eq]
        omega
      rw [hsl1] at nv
      rw [hsl2] at nv2
      obtain ⟨n1, nv1, z1⟩ : ∃ e : Nat, vlen vi = e ∧ ((e : Int) != (i : Int)) = false := ⟨_, nv, by simp⟩
      obtain ⟨n2, nv22, z2⟩ : ∃ e : Nat, vlen vi2 = e ∧ ((e : Int) != (i : Int)) = false := ⟨_, nv2, by simp⟩
      have hn1 : n1 = i := nv1.symm.trans nv
      have hR11 : R (hpOf w11) vi sol := Rep.mono (hle_ext (xA.trans hx911)) hR
      have hR211 : R (hpOf w11) vi2 sol2 := Rep.mono (hle_ext xB) hR2
      simp only [CW_seq, CW_skip, CW_cond, CW_block, CW_loop, CW_reg, CW_draw, CW_exit, CW_ret, thenF_n, thenF_nK, thenF_r, thenF_x, blockF_n, blockF_nK, blockF_r, blockF_x, condF_t, condF_f, Rn_nil, Rn_ng, Rn_g, oneStep_g, os_move, os_assign, os_pick, os_bin, os_un, os_fieldAddr, os_field, os_indexAddr, os_index, os_slice, os_extract, os_nilCheck, os_makeFunc, os_build, os_len, os_cap, os_convert, os_min, os_max, on_load, on_buildSlice, on_alloc, on_box, on_makeSlice, on_lookup, mn_convert, mn_bin, optP_n, on_append, on_copy, on_store, on_call, ev, updo, upd, optP_p, resP_ok, resU_ok, ↓reduceIte, Nat.reduceEqDiff, List.map_cons, List.map_nil, List.map_toArray, argU, Nat.reduceAdd, gval_slot, gslot, List.getElem?_toArray, List.getElem?_cons_zero, List.getElem?_cons_succ, Option.bind_some, Option.some.injEq, reduceCtorEq, Bool.false_eq_true, Bool.true_eq_false, Option.map_some, Option.map_none, Int.toNat_zero, Option.isNone_none, Option.isNone_some, add_zero', binV, binI, unV, fieldV, extV, idxV, indexV, sliceV, lenV, capV, convV, min2V, max2V, TY, Option.isSome_some, Bool.true_and, Bool.and_true, Nat.mul_one, Int.toNat_natCast, le0n, Flat.val, Int.reduceToNat, Int.reduceLE, Int.reduceLT, Int.cast_ofNat_Int, decide_true, add_lit, Nat.zero_add, Nat.zero_mul, Nat.one_mul, Bool.not_true, Bool.not_false, p3, p4, hokt, hokt2, Bool.not_true, l1, l2, Sv, Sv2, nv1, nv22, z1, z2, e0]
      refine loop_rule [0, 5, 18, 20, 113] (σ := Nat) (fun j f w' => f 114 = .int .i64 j ∧ j ≤ i ∧ Ext w11 w') (fun j => i - j) 0 (by decide +kernel) ?_ ?_
      · simp only [upd, ↓reduceIte, Nat.reduceEqDiff]
        exact ⟨by trivial, Nat.zero_le _, Mod.refl _⟩
      · rintro j f w12 hk ⟨h114, hji, hx12⟩
        simp only [List.forall_mem_cons, upd, ↓reduceIte, Nat.reduceEqDiff] at hk
        simp only [e0, e5] at hk
        obtain ⟨i0, i5, i18, i20, i113, _⟩ := hk
        simp only [CW_seq, CW_skip, CW_cond, CW_block, CW_loop, CW_reg, CW_draw, CW_exit, CW_ret, thenF_n, thenF_nK, thenF_r, thenF_x, blockF_n, blockF_nK, blockF_r, blockF_x, condF_t, condF_f, Rn_nil, Rn_ng, Rn_g, oneStep_g, os_move, os_assign, os_pick, os_bin, os_un, os_fieldAddr, os_field, os_indexAddr, os_index, os_slice, os_extract, os_nilCheck, os_makeFunc, os_build, os_len, os_cap, os_convert, os_min, os_max, on_load, on_buildSlice, on_alloc, on_box, on_makeSlice, on_lookup, mn_convert, mn_bin, optP_n, on_append, on_copy, on_store, on_call, ev, updo, upd, optP_p, resP_ok, resU_ok, ↓reduceIte, Nat.reduceEqDiff, List.map_cons, List.map_nil, List.map_toArray, argU, Nat.reduceAdd, gval_slot, gslot, List.getElem?_toArray, List.getElem?_cons_zero, List.getElem?_cons_succ, Option.bind_some, Option.some.injEq, reduceCtorEq, Bool.false_eq_true, Bool.true_eq_false, Option.map_some, Option.map_none, Int.toNat_zero, Option.isNone_none, Option.isNone_some, add_zero', binV, binI, unV, fieldV, extV, idxV, indexV, sliceV, lenV, capV, convV, min2V, max2V, TY, Option.isSome_some, Bool.true_and, Bool.and_true, Nat.mul_one, Int.toNat_natCast, le0n, Flat.val, Int.reduceToNat, Int.reduceLE, Int.reduceLT, Int.cast_ofNat_Int, decide_true, add_lit, Nat.zero_add, Nat.zero_mul, Nat.one_mul, Bool.not_true, Bool.not_false, h114, i113]
        refine condF_split (fun hc => ?_) (fun hc => ?_)
        · have hjt : j < i := by simp at hc; omega
          have hkb : okN nx.length (j : Int) = true := okN_iff.2 ⟨by omega, by omega⟩
          have hd := Ext.drew w12
          have hx13 := hx12.trans hd
          have hR12 : R (hpOf w12.drew) vi sol := Rep.mono (hle_ext hx13) hR11
          have hR212 : R (hpOf w12.drew) vi2 sol2 := Rep.mono (hle_ext hx13) hR211
          have g1 := (rowF_at (nx := sol) (a := (j : Int)) (by rw [hsl1]; exact okN_iff.2 ⟨by omega, by omega⟩)).1
          have g2 := (rowF_at (nx := sol2) (a := (j : Int)) (by rw [hsl2]; exact okN_iff.2 ⟨by omega, by omega⟩)).1
          rw [show ((j : Nat) : Int).toNat = j by omega] at g1 g2
          have in1 := hR12.inS (k := j) (by omega)
          have in2 := hR212.inS (k := j) (by omega)
          obtain ⟨x1, hx1r, c1⟩ := hR12.row g1
          obtain ⟨x2, hx2r, c2⟩ := hR212.row g2
          have hm := hmain j hkb
          have hlen1 : (rowF sol (j : Int)).length ≤ M := by
            obtain ⟨p, h1, _⟩ := hsol.row j hkb
            rw [h1, List.length_map]
            exact Nat.le_trans (List.length_filter_le _ _) (by simp)
          generalize rowF sol (j : Int) = y1 at *
          generalize rowF sol2 (j : Int) = y2 at *
          have Sx2 := hx2r.isS
          have nx2 := hx2r.vlen
          have q6 : binV Try.prog .add 3 (.int .i64 j) (.int .i64 1) = some (.int .i64 ((j + 1 : Nat) : Int)) := by
            simp only [binV, binI, if_true]; rw [i64s j (by omega)]
          have q7 : binV Try.prog .eql 3 (.int .i64 ((y2.length : Nat) : Int)) (.int .i64 1) = some (.bool (y1.contains (F : Int))) := by
            rw [← hm]; rfl
          generalize hbb : y1.contains (F : Int) = bb at *
          have q8 : binV Try.prog .neq 4 (.bool bb) (.bool bb) = some (.bool false) := by cases bb <;> rfl
          obtain ⟨fa, hfa⟩ : ∃ b : Bool, b = false := ⟨false, rfl⟩
          rw [← hfa] at q8
          simp only [CW_seq, CW_skip, CW_cond, CW_block, CW_loop, CW_reg, CW_draw, CW_exit, CW_ret, thenF_n, thenF_nK, thenF_r, thenF_x, blockF_n, blockF_nK, blockF_r, blockF_x, condF_t, condF_f, Rn_nil, Rn_ng, Rn_g, oneStep_g, os_move, os_assign, os_pick, os_bin, os_un, os_fieldAddr, os_field, os_indexAddr, os_index, os_slice, os_extract, os_nilCheck, os_makeFunc, os_build, os_len, os_cap, os_convert, os_min, os_max, on_load, on_buildSlice, on_alloc, on_box, on_makeSlice, on_lookup, mn_convert, mn_bin, optP_n, on_append, on_copy, on_store, on_call, ev, updo, upd, optP_p, resP_ok, resU_ok, ↓reduceIte, Nat.reduceEqDiff, List.map_cons, List.map_nil, List.map_toArray, argU, Nat.reduceAdd, gval_slot, gslot, List.getElem?_toArray, List.getElem?_cons_zero, List.getElem?_cons_succ, Option.bind_some, Option.some.injEq, reduceCtorEq, Bool.false_eq_true, Bool.true_eq_false, Option.map_some, Option.map_none, Int.toNat_zero, Option.isNone_none, Option.isNone_some, add_zero', unV, fieldV, extV, idxV, indexV, sliceV, lenV, capV, convV, min2V, max2V, TY, Option.isSome_some, Bool.true_and, Bool.and_true, Nat.mul_one, Int.toNat_natCast, le0n, Flat.val, Int.reduceToNat, Int.reduceLE, Int.reduceLT, Int.cast_ofNat_Int, decide_true, add_lit, Nat.zero_add, Nat.zero_mul, Nat.one_mul, Bool.not_true, Bool.not_false, h114]
          refine drawR (fun w3 => Ext w12.drew w3) 14 (ordL [0, 1, 2, 3, 4, 5, 7, 8, 9, 10, 11, 12, 13, 6]) (by decide +kernel) (Mod.refl _) ?_
          simp only [RnF_nil, RnF_op, ordL, of_load, of_lookup, mf_convert, mf_bin, of_buildSlice, of_alloc, of_box, of_makeSlice, of_append, of_copy, of_store, of_call, List.drop_succ_cons, List.drop_zero, CW_seq, CW_skip, CW_cond, CW_block, CW_loop, CW_reg, CW_draw, CW_exit, CW_ret, thenF_n, thenF_nK, thenF_r, thenF_x, blockF_n, blockF_nK, blockF_r, blockF_x, condF_t, condF_f, Rn_nil, Rn_ng, Rn_g, oneStep_g, os_move, os_assign, os_pick, os_bin, os_un, os_fieldAddr, os_field, os_indexAddr, os_index, os_slice, os_extract, os_nilCheck, os_makeFunc, os_build, os_len, os_cap, os_convert, os_min, os_max, on_load, on_buildSlice, on_alloc, on_box, on_makeSlice, on_lookup, mn_convert, mn_bin, optP_n, on_append, on_copy, on_store, on_call, ev, updo, upd, optP_p, resP_ok, resU_ok, ↓reduceIte, Nat.reduceEqDiff, List.map_cons, List.map_nil, List.map_toArray, argU, Nat.reduceAdd, gval_slot, gslot, List.getElem?_toArray, List.getElem?_cons_zero, List.getElem?_cons_succ, Option.bind_some, Option.some.injEq, reduceCtorEq, Bool.false_eq_true, Bool.true_eq_false, Option.map_some, Option.map_none, Int.toNat_zero, Option.isNone_none, Option.isNone_some, add_zero', unV, fieldV, extV, idxV, indexV, sliceV, lenV, capV, convV, min2V, max2V, TY, Option.isSome_some, Bool.true_and, Bool.and_true, Nat.mul_one, Int.toNat_natCast, le0n, Flat.val, Int.reduceToNat, Int.reduceLE, Int.reduceLT, Int.cast_ofNat_Int, decide_true, add_lit, Nat.zero_add, Nat.zero_mul, Nat.one_mul, Bool.not_true, Bool.not_false, i18]
          refine ⟨vi, fun w3 e => hIn w3 (hx911.trans (hx13.trans e)), ?_⟩
          simp only [RnF_nil, RnF_op, ordL, of_load, of_lookup, mf_convert, mf_bin, of_buildSlice, of_alloc, of_box, of_makeSlice, of_append, of_copy, of_store, of_call, List.drop_succ_cons, List.drop_zero, CW_seq, CW_skip, CW_cond, CW_block, CW_loop, CW_reg, CW_draw, CW_exit, CW_ret, thenF_n, thenF_nK, thenF_r, thenF_x, blockF_n, blockF_nK, blockF_r, blockF_x, condF_t, condF_f, Rn_nil, Rn_ng, Rn_g, oneStep_g, os_move, os_assign, os_pick, os_bin, os_un, os_fieldAddr, os_field, os_indexAddr, os_index, os_slice, os_extract, os_nilCheck, os_makeFunc, os_build, os_len, os_cap, os_convert, os_min, os_max, on_load, on_buildSlice, on_alloc, on_box, on_makeSlice, on_lookup, mn_convert, mn_bin, optP_n, on_append, on_copy, on_store, on_call, ev, updo, upd, optP_p, resP_ok, resU_ok, ↓reduceIte, Nat.reduceEqDiff, List.map_cons, List.map_nil, List.map_toArray, argU, Nat.reduceAdd, gval_slot, gslot, List.getElem?_toArray, List.getElem?_cons_zero, List.getElem?_cons_succ, Option.bind_some, Option.some.injEq, reduceCtorEq, Bool.false_eq_true, Bool.true_eq_false, Option.map_some, Option.map_none, Int.toNat_zero, Option.isNone_none, Option.isNone_some, add_zero', unV, fieldV, extV, idxV, indexV, sliceV, lenV, capV, convV, min2V, max2V, TY, Option.isSome_some, Bool.true_and, Bool.and_true, Nat.mul_one, Int.toNat_natCast, le0n, Flat.val, Int.reduceToNat, Int.reduceLE, Int.reduceLT, Int.cast_ofNat_Int, decide_true, add_lit, Nat.zero_add, Nat.zero_mul, Nat.one_mul, Bool.not_true, Bool.not_false, in1]
          refine ⟨x1, fun w3 e => ld_at c1 (hle_ext e) tyG37, ?_⟩
          simp only [RnF_nil, RnF_op, ordL, of_load, of_lookup, mf_convert, mf_bin, of_buildSlice, of_alloc, of_box, of_makeSlice, of_append, of_copy, of_store, of_call, List.drop_succ_cons, List.drop_zero, CW_seq, CW_skip, CW_cond, CW_block, CW_loop, CW_reg, CW_draw, CW_exit, CW_ret, thenF_n, thenF_nK, thenF_r, thenF_x, blockF_n, blockF_nK, blockF_r, blockF_x, condF_t, condF_f, Rn_nil, Rn_ng, Rn_g, oneStep_g, os_move, os_assign, os_pick, os_bin, os_un, os_fieldAddr, os_field, os_indexAddr, os_index, os_slice, os_extract, os_nilCheck, os_makeFunc, os_build, os_len, os_cap, os_convert, os_min, os_max, on_load, on_buildSlice, on_alloc, on_box, on_makeSlice, on_lookup, mn_convert, mn_bin, optP_n, on_append, on_copy, on_store, on_call, ev, updo, upd, optP_p, resP_ok, resU_ok, ↓reduceIte, Nat.reduceEqDiff, List.map_cons, List.map_nil, List.map_toArray, argU, Nat.reduceAdd, gval_slot, gslot, List.getElem?_toArray, List.getElem?_cons_zero, List.getElem?_cons_succ, Option.bind_some, Option.some.injEq, reduceCtorEq, Bool.false_eq_true, Bool.true_eq_false, Option.map_some, Option.map_none, Int.toNat_zero, Option.isNone_none, Option.isNone_some, add_zero', unV, fieldV, extV, idxV, indexV, sliceV, lenV, capV, convV, min2V, max2V, TY, Option.isSome_some, Bool.true_and, Bool.and_true, Nat.mul_one, Int.toNat_natCast, le0n, Flat.val, Int.reduceToNat, Int.reduceLE, Int.reduceLT, Int.cast_ofNat_Int, decide_true, add_lit, Nat.zero_add, Nat.zero_mul, Nat.one_mul, Bool.not_true, Bool.not_false, i5, i20]
          refine ⟨vi2, fun w3 e => hIn2 w3 (hx13.trans e), ?_⟩
          simp only [RnF_nil, RnF_op, ordL, of_load, of_lookup, mf_convert, mf_bin, of_buildSlice, of_alloc, of_box, of_makeSlice, of_append, of_copy, of_store, of_call, List.drop_succ_cons, List.drop_zero, CW_seq, CW_skip, CW_cond, CW_block, CW_loop, CW_reg, CW_draw, CW_exit, CW_ret, thenF_n, thenF_nK, thenF_r, thenF_x, blockF_n, blockF_nK, blockF_r, blockF_x, condF_t, condF_f, Rn_nil, Rn_ng, Rn_g, oneStep_g, os_move, os_assign, os_pick, os_bin, os_un, os_fieldAddr, os_field, os_indexAddr, os_index, os_slice, os_extract, os_nilCheck, os_makeFunc, os_build, os_len, os_cap, os_convert, os_min, os_max, on_load, on_buildSlice, on_alloc, on_box, on_makeSlice, on_lookup, mn_convert, mn_bin, optP_n, on_append, on_copy, on_store, on_call, ev, updo, upd, optP_p, resP_ok, resU_ok, ↓reduceIte, Nat.reduceEqDiff, List.map_cons, List.map_nil, List.map_toArray, argU, Nat.reduceAdd, gval_slot, gslot, List.getElem?_toArray, List.getElem?_cons_zero, List.getElem?_cons_succ, Option.bind_some, Option.some.injEq, reduceCtorEq, Bool.false_eq_true, Bool.true_eq_false, Option.map_some, Option.map_none, Int.toNat_zero, Option.isNone_none, Option.isNone_some, add_zero', unV, fieldV, extV, idxV, indexV, sliceV, lenV, capV, convV, min2V, max2V, TY, Option.isSome_some, Bool.true_and, Bool.and_true, Nat.mul_one, Int.toNat_natCast, le0n, Flat.val, Int.reduceToNat, Int.reduceLE, Int.reduceLT, Int.cast_ofNat_Int, decide_true, add_lit, Nat.zero_add, Nat.zero_mul, Nat.one_mul, Bool.not_true, Bool.not_false, in2]
          refine ⟨x2, fun w3 e => ld_at c2 (hle_ext e) tyG37, ?_⟩
          simp only [RnF_nil, RnF_op, ordL, of_load, of_lookup, mf_convert, mf_bin, of_buildSlice, of_alloc, of_box, of_makeSlice, of_append, of_copy, of_store, of_call, List.drop_succ_cons, List.drop_zero, CW_seq, CW_skip, CW_cond, CW_block, CW_loop, CW_reg, CW_draw, CW_exit, CW_ret, thenF_n, thenF_nK, thenF_r, thenF_x, blockF_n, blockF_nK, blockF_r, blockF_x, condF_t, condF_f, Rn_nil, Rn_ng, Rn_g, oneStep_g, os_move, os_assign, os_pick, os_bin, os_un, os_fieldAddr, os_field, os_indexAddr, os_index, os_slice, os_extract, os_nilCheck, os_makeFunc, os_build, os_len, os_cap, os_convert, os_min, os_max, on_load, on_buildSlice, on_alloc, on_box, on_makeSlice, on_lookup, mn_convert, mn_bin, optP_n, on_append, on_copy, on_store, on_call, ev, updo, upd, optP_p, resP_ok, resU_ok, ↓reduceIte, Nat.reduceEqDiff, List.map_cons, List.map_nil, List.map_toArray, argU, Nat.reduceAdd, gval_slot, gslot, List.getElem?_toArray, List.getElem?_cons_zero, List.getElem?_cons_succ, Option.bind_some, Option.some.injEq, reduceCtorEq, Bool.false_eq_true, Bool.true_eq_false, Option.map_some, Option.map_none, Int.toNat_zero, Option.isNone_none, Option.isNone_some, add_zero', unV, fieldV, extV, idxV, indexV, sliceV, lenV, capV, convV, min2V, max2V, TY, Option.isSome_some, Bool.true_and, Bool.and_true, Nat.mul_one, Int.toNat_natCast, le0n, Flat.val, Int.reduceToNat, Int.reduceLE, Int.reduceLT, Int.cast_ofNat_Int, decide_true, add_lit, Nat.zero_add, Nat.zero_mul, Nat.one_mul, Bool.not_true, Bool.not_false, Sx2, nx2, q7, i5, keepS]
          refine callP (by kernel_rfl : hasBody Try.prog 23 = true) (Has_any x1 y1 F w12.drew hx1r (by omega)) ?_
          rintro r w13 ⟨hr, hw⟩
          rw [hbb] at hr
          subst hr
          rw [hw]
          simp only [RnF_nil, RnF_op, ordL, of_load, of_lookup, mf_convert, mf_bin, of_buildSlice, of_alloc, of_box, of_makeSlice, of_append, of_copy, of_store, of_call, List.drop_succ_cons, List.drop_zero, CW_seq, CW_skip, CW_cond, CW_block, CW_loop, CW_reg, CW_draw, CW_exit, CW_ret, thenF_n, thenF_nK, thenF_r, thenF_x, blockF_n, blockF_nK, blockF_r, blockF_x, condF_t, condF_f, Rn_nil, Rn_ng, Rn_g, oneStep_g, os_move, os_assign, os_pick, os_bin, os_un, os_fieldAddr, os_field, os_indexAddr, os_index, os_slice, os_extract, os_nilCheck, os_makeFunc, os_build, os_len, os_cap, os_convert, os_min, os_max, on_load, on_buildSlice, on_alloc, on_box, on_makeSlice, on_lookup, mn_convert, mn_bin, optP_n, on_append, on_copy, on_store, on_call, ev, updo, upd, optP_p, resP_ok, resU_ok, ↓reduceIte, Nat.reduceEqDiff, List.map_cons, List.map_nil, List.map_toArray, argU, Nat.reduceAdd, gval_slot, gslot, List.getElem?_toArray, List.getElem?_cons_zero, List.getElem?_cons_succ, Option.bind_some, Option.some.injEq, reduceCtorEq, Bool.false_eq_true, Bool.true_eq_false, Option.map_some, Option.map_none, Int.toNat_zero, Option.isNone_none, Option.isNone_some, add_zero', unV, fieldV, extV, idxV, indexV, sliceV, lenV, capV, convV, min2V, max2V, TY, Option.isSome_some, Bool.true_and, Bool.and_true, Nat.mul_one, Int.toNat_natCast, le0n, Flat.val, Int.reduceToNat, Int.reduceLE, Int.reduceLT, Int.cast_ofNat_Int, decide_true, add_lit, Nat.zero_add, Nat.zero_mul, Nat.one_mul, Bool.not_true, Bool.not_false, keepS, q8, hfa, h114, q6]
          exact ⟨Mod.refl _, j + 1, by omega, by trivial, by omega, hx13⟩
        · simp only [CW_seq, CW_skip, CW_cond, CW_block, CW_loop, CW_reg, CW_draw, CW_exit, CW_ret, thenF_n, thenF_nK, thenF_r, thenF_x, blockF_n, blockF_nK, blockF_r, blockF_x, condF_t, condF_f, Rn_nil, Rn_ng, Rn_g, oneStep_g, os_move, os_assign, os_pick, os_bin, os_un, os_fieldAddr, os_field, os_indexAddr, os_index, os_slice, os_extract, os_nilCheck, os_makeFunc, os_build, os_len, os_cap, os_convert, os_min, os_max, on_load, on_buildSlice, on_alloc, on_box, on_makeSlice, on_lookup, mn_convert, mn_bin, optP_n, on_append, on_copy, on_store, on_call, ev, updo, upd, optP_p, resP_ok, resU_ok, ↓reduceIte, Nat.reduceEqDiff, List.map_cons, List.map_nil, List.map_toArray, argU, Nat.reduceAdd, gval_slot, gslot, List.getElem?_toArray, List.getElem?_cons_zero, List.getElem?_cons_succ, Option.bind_some, Option.some.injEq, reduceCtorEq, Bool.false_eq_true, Bool.true_eq_false, Option.map_some, Option.map_none, Int.toNat_zero, Option.isNone_none, Option.isNone_some, add_zero', binV, binI, unV, fieldV, extV, idxV, indexV, sliceV, lenV, capV, convV, min2V, max2V, TY, Option.isSome_some, Bool.true_and, Bool.and_true, Nat.mul_one, Int.toNat_natCast, le0n, Flat.val, Int.reduceToNat, Int.reduceLE, Int.reduceLT, Int.cast_ofNat_Int, decide_true, add_lit, Nat.zero_add, Nat.zero_mul, Nat.one_mul, Bool.not_true, Bool.not_false]
          refine retq1 Try.results5 ?_
          simp only [upd, ↓reduceIte, Nat.reduceEqDiff]
          exact ⟨by trivial, (((hx06.trans hx7).trans hx79).trans hx911).trans hx12⟩
end Go.Proofs.Ytldmnnloakpjlaa
