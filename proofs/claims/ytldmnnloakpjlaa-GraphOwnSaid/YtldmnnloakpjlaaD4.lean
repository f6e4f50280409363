/- whittlerlaw14.GraphReach: the walk. -/
import Derived.Test.YtldmnnloakpjlaaB16
import Derived.Test.YtldmnnloakpjlaaC9
set_option linter.unusedSimpArgs false
set_option linter.unusedVariables false
set_option maxRecDepth 100000
namespace Go.Proofs.Ytldmnnloakpjlaa
open Go

theorem cut_facts {α : Type} [Rep α] {h : Hp} {v : Value} {xs : List α} (hr : R h v xs) (c : Nat) :
    ∃ (k : Nat) (u : Value), (if (c : Int) < (xs.length : Int) then (c : Int) else (xs.length : Int)) = (k : Int) ∧ decide ((k : Int) ≤ (vcap v : Int)) = true ∧ reS v 0 k (Rep.sz α) = u ∧ R h u (xs.take c) := by
  have hcap := hr.vcap
  have h2 := hr.pre (k := min xs.length c) (by omega)
  have htk : xs.take (min xs.length c) = xs.take c := by
    rcases Nat.le_total xs.length c with h | h
    · rw [Nat.min_eq_left h, List.take_length, List.take_of_length_le h]
    · rw [Nat.min_eq_right h]
  rw [htk] at h2
  exact ⟨min xs.length c, _, by split <;> omega, by simp; omega, rfl, h2⟩

theorem GraphReach_walk (n : Int) (v : Value) (es : List (Int × Int)) (va : Value) (la : List Int) (vb : Value) (lb : List Int) (w : World) (hv : R (hpOf w) v es) (hva : R (hpOf w) va la) (hvb : R (hpOf w) vb lb) : Calls Try.prog 6 #[.int .i64 n, v, va, vb] w fun e w' => ∃ u, e = .returned u ∧ (u = .bool true ∧ Ext w w') := by
  refine calls_of_CW (args := [.int .i64 n, v, va, vb]) hm Try.func6 rfl (by kernel_rfl) (by show 4 ≤ _; decide +kernel) ?_
  simp only [CW_seq, CW_skip, CW_cond, CW_block, CW_loop, CW_reg, CW_draw, CW_exit, CW_ret, thenF_n, thenF_nK, thenF_r, thenF_x, blockF_n, blockF_nK, blockF_r, blockF_x, condF_t, condF_f, Rn_nil, Rn_ng, Rn_g, oneStep_g, os_move, os_assign, os_pick, os_bin, os_un, os_fieldAddr, os_field, os_indexAddr, os_index, os_slice, os_extract, os_nilCheck, os_makeFunc, os_build, os_len, os_cap, os_convert, os_min, os_max, on_load, on_buildSlice, on_alloc, on_box, on_makeSlice, on_lookup, mn_convert, mn_bin, optP_n, on_append, on_copy, on_store, on_call, ev, updo, upd, optP_s, resP_ok, resU_ok, ↓reduceIte, Nat.reduceEqDiff, List.map_cons, List.map_nil, List.map_toArray, argU, Nat.reduceAdd, gval_slot, gslot, List.getElem?_toArray, List.getElem?_cons_zero, List.getElem?_cons_succ, Option.bind_some, Option.some.injEq, reduceCtorEq, Bool.false_eq_true, Bool.true_eq_false, Option.map_some, Option.map_none, Int.toNat_zero, Option.isNone_none, Option.isNone_some, add_zero', binV, binI, unV, fieldV, extV, idxV, indexV, sliceV, lenV, capV, convV, min2V, max2V, TY, Option.isSome_some, Bool.true_and, Bool.and_true, Nat.mul_one, Int.toNat_natCast, le0n, Flat.val, Int.reduceToNat, Int.reduceLE, Int.reduceLT, Int.cast_ofNat_Int, decide_true, add_lit, Nat.zero_add, Nat.zero_mul, Nat.one_mul, Bool.not_true, Bool.not_false]
  refine callP (by kernel_rfl : hasBody Try.prog 24 = true) (graphed_any w) ?_
  rintro u w1 ⟨rfl, hx1⟩
  simp only [CW_seq, CW_skip, CW_cond, CW_block, CW_loop, CW_reg, CW_draw, CW_exit, CW_ret, thenF_n, thenF_nK, thenF_r, thenF_x, blockF_n, blockF_nK, blockF_r, blockF_x, condF_t, condF_f, Rn_nil, Rn_ng, Rn_g, oneStep_g, os_move, os_assign, os_pick, os_bin, os_un, os_fieldAddr, os_field, os_indexAddr, os_index, os_slice, os_extract, os_nilCheck, os_makeFunc, os_build, os_len, os_cap, os_convert, os_min, os_max, on_load, on_buildSlice, on_alloc, on_box, on_makeSlice, on_lookup, mn_convert, mn_bin, optP_n, on_append, on_copy, on_store, on_call, ev, updo, upd, optP_s, resP_ok, resU_ok, ↓reduceIte, Nat.reduceEqDiff, List.map_cons, List.map_nil, List.map_toArray, argU, Nat.reduceAdd, gval_slot, gslot, List.getElem?_toArray, List.getElem?_cons_zero, List.getElem?_cons_succ, Option.bind_some, Option.some.injEq, reduceCtorEq, Bool.false_eq_true, Bool.true_eq_false, Option.map_some, Option.map_none, Int.toNat_zero, Option.isNone_none, Option.isNone_some, add_zero', binV, binI, unV, fieldV, extV, idxV, indexV, sliceV, lenV, capV, convV, min2V, max2V, TY, Option.isSome_some, Bool.true_and, Bool.and_true, Nat.mul_one, Int.toNat_natCast, le0n, Flat.val, Int.reduceToNat, Int.reduceLE, Int.reduceLT, Int.cast_ofNat_Int, decide_true, add_lit, Nat.zero_add, Nat.zero_mul, Nat.one_mul, Bool.not_true, Bool.not_false]
  refine callP (by kernel_rfl : hasBody Try.prog 25 = true) (drawn_any n v es w1 (Rep.mono (hle_ext hx1) hv)) ?_
  rintro u w2 ⟨⟨ue, ug, rfl, hue, hug⟩, hx2⟩
  obtain ⟨N, hN, hN14⟩ := modf_nat n 14 (by omega)
  have hN' : modf n 14 = (N : Int) := hN
  rw [hN'] at *
  have hl40 : (es.take 40).length ≤ 40 := by rw [List.length_take]; omega
  generalize es.take 40 = fs at *
  have hSa := hva.isS
  have hna := hva.vlen
  have hSb := hvb.isS
  have hnb := hvb.vlen
  obtain ⟨ka, ua, a1, a2, a3, hua⟩ : ∃ (k : Nat) (u : Value), (if (9 : Int) < (la.length : Int) then (9 : Int) else (la.length : Int)) = (k : Int) ∧ decide ((k : Int) ≤ (vcap va : Int)) = true ∧ reS va 0 k 1 = u ∧ R (hpOf w) u (la.take 9) := cut_facts hva 9
  obtain ⟨kb, ub, b1, b2, b3, hub⟩ : ∃ (k : Nat) (u : Value), (if (9 : Int) < (lb.length : Int) then (9 : Int) else (lb.length : Int)) = (k : Int) ∧ decide ((k : Int) ≤ (vcap vb : Int)) = true ∧ reS vb 0 k 1 = u ∧ R (hpOf w) u (lb.take 9) := cut_facts hvb 9
  simp only [CW_seq, CW_skip, CW_cond, CW_block, CW_loop, CW_reg, CW_draw, CW_exit, CW_ret, thenF_n, thenF_nK, thenF_r, thenF_x, blockF_n, blockF_nK, blockF_r, blockF_x, condF_t, condF_f, Rn_nil, Rn_ng, Rn_g, oneStep_g, os_move, os_assign, os_pick, os_bin, os_un, os_fieldAddr, os_field, os_indexAddr, os_index, os_slice, os_extract, os_nilCheck, os_makeFunc, os_build, os_len, os_cap, os_convert, os_min, os_max, on_load, on_buildSlice, on_alloc, on_box, on_makeSlice, on_lookup, mn_convert, mn_bin, optP_n, on_append, on_copy, on_store, on_call, ev, updo, upd, optP_s, resP_ok, resU_ok, ↓reduceIte, Nat.reduceEqDiff, List.map_cons, List.map_nil, List.map_toArray, argU, Nat.reduceAdd, gval_slot, gslot, List.getElem?_toArray, List.getElem?_cons_zero, List.getElem?_cons_succ, Option.bind_some, Option.some.injEq, reduceCtorEq, Bool.false_eq_true, Bool.true_eq_false, Option.map_some, Option.map_none, Int.toNat_zero, Option.isNone_none, Option.isNone_some, add_zero', binV, binI, unV, fieldV, extV, idxV, indexV, sliceV, lenV, capV, convV, min2V, max2V, TY, Option.isSome_some, Bool.true_and, Bool.and_true, Nat.mul_one, Int.toNat_natCast, le0n, Flat.val, Int.reduceToNat, Int.reduceLE, Int.reduceLT, Int.cast_ofNat_Int, decide_true, add_lit, Nat.zero_add, Nat.zero_mul, Nat.one_mul, Bool.not_true, Bool.not_false]
  refine drawR (fun w3 => w3 = w2.drew) 12 (ordL [0, 1, 2, 3, 4, 5, 6, 7, 8, 9, 10, 11]) (by decide +kernel) rfl ?_
  simp only [RnF_nil, RnF_op, ordL, of_load, of_lookup, mf_convert, mf_bin, of_buildSlice, of_alloc, of_box, of_makeSlice, of_append, of_copy, of_store, of_call, List.drop_succ_cons, List.drop_zero, CW_seq, CW_skip, CW_cond, CW_block, CW_loop, CW_reg, CW_draw, CW_exit, CW_ret, thenF_n, thenF_nK, thenF_r, thenF_x, blockF_n, blockF_nK, blockF_r, blockF_x, condF_t, condF_f, Rn_nil, Rn_ng, Rn_g, oneStep_g, os_move, os_assign, os_pick, os_bin, os_un, os_fieldAddr, os_field, os_indexAddr, os_index, os_slice, os_extract, os_nilCheck, os_makeFunc, os_build, os_len, os_cap, os_convert, os_min, os_max, on_load, on_buildSlice, on_alloc, on_box, on_makeSlice, on_lookup, mn_convert, mn_bin, optP_n, on_append, on_copy, on_store, on_call, ev, updo, upd, optP_s, resP_ok, resU_ok, ↓reduceIte, Nat.reduceEqDiff, List.map_cons, List.map_nil, List.map_toArray, argU, Nat.reduceAdd, gval_slot, gslot, List.getElem?_toArray, List.getElem?_cons_zero, List.getElem?_cons_succ, Option.bind_some, Option.some.injEq, reduceCtorEq, Bool.false_eq_true, Bool.true_eq_false, Option.map_some, Option.map_none, Int.toNat_zero, Option.isNone_none, Option.isNone_some, add_zero', binV, binI, unV, fieldV, extV, idxV, indexV, sliceV, lenV, capV, convV, min2V, max2V, TY, Option.isSome_some, Bool.true_and, Bool.and_true, Nat.mul_one, Int.toNat_natCast, le0n, Flat.val, Int.reduceToNat, Int.reduceLE, Int.reduceLT, Int.cast_ofNat_Int, decide_true, add_lit, Nat.zero_add, Nat.zero_mul, Nat.one_mul, Bool.not_true, Bool.not_false, hSa, hna, hSb, hnb, a1, a2, a3, b1, b2, b3]
  have hxd := Ext.drew w2
  have hla9 : (la.take 9).length ≤ 9 := by rw [List.length_take]; omega
  have hlb9 : (lb.take 9).length ≤ 9 := by rw [List.length_take]; omega
  generalize la.take 9 = xa at *
  generalize lb.take 9 = xb at *
  generalize w2.drew = wd at *
  have hue2 : R (hpOf wd) ue fs := Rep.mono (hle_ext (hx2.trans hxd)) hue
  have hua2 : R (hpOf wd) ua xa := Rep.mono (hle_ext ((hx1.trans hx2).trans hxd)) hua
  have hub2 : R (hpOf wd) ub xb := Rep.mono (hle_ext ((hx1.trans hx2).trans hxd)) hub
  refine callP (by kernel_rfl : hasBody Try.prog 26 = true) (new_any N ue fs wd (by omega) hue2 (by omega)) ?_
  rintro pg w3 ⟨⟨M, hgo⟩, hx3⟩
  have hgg := newF_graph N fs
  have hgr := hgo.read (hle_ext hx3)
  generalize newF N fs = G at *
  obtain ⟨nx, pv⟩ := G
  simp only at hgr
  obtain rfl : nx.length = N := hgg.nx.len
  have hua3 : R (hpOf w3) ua xa := Rep.mono (hle_ext hx3) hua2
  have hub3 : R (hpOf w3) ub xb := Rep.mono (hle_ext hx3) hub2
  simp only [CW_seq, CW_skip, CW_cond, CW_block, CW_loop, CW_reg, CW_draw, CW_exit, CW_ret, thenF_n, thenF_nK, thenF_r, thenF_x, blockF_n, blockF_nK, blockF_r, blockF_x, condF_t, condF_f, Rn_nil, Rn_ng, Rn_g, oneStep_g, os_move, os_assign, os_pick, os_bin, os_un, os_fieldAddr, os_field, os_indexAddr, os_index, os_slice, os_extract, os_nilCheck, os_makeFunc, os_build, os_len, os_cap, os_convert, os_min, os_max, on_load, on_buildSlice, on_alloc, on_box, on_makeSlice, on_lookup, mn_convert, mn_bin, optP_n, on_append, on_copy, on_store, on_call, ev, updo, upd, optP_s, resP_ok, resU_ok, ↓reduceIte, Nat.reduceEqDiff, List.map_cons, List.map_nil, List.map_toArray, argU, Nat.reduceAdd, gval_slot, gslot, List.getElem?_toArray, List.getElem?_cons_zero, List.getElem?_cons_succ, Option.bind_some, Option.some.injEq, reduceCtorEq, Bool.false_eq_true, Bool.true_eq_false, Option.map_some, Option.map_none, Int.toNat_zero, Option.isNone_none, Option.isNone_some, add_zero', binV, binI, unV, fieldV, extV, idxV, indexV, sliceV, lenV, capV, convV, min2V, max2V, TY, Option.isSome_some, Bool.true_and, Bool.and_true, Nat.mul_one, Int.toNat_natCast, le0n, Flat.val, Int.reduceToNat, Int.reduceLE, Int.reduceLT, Int.cast_ofNat_Int, decide_true, add_lit, Nat.zero_add, Nat.zero_mul, Nat.one_mul, Bool.not_true, Bool.not_false]
  refine callP (by kernel_rfl : hasBody Try.prog 27 = true) (Reach_any pg nx pv ua xa w3 hgr hgg.nx (by omega) hua3 (by omega)) ?_
  rintro ux w4 ⟨⟨x, hox, hsx⟩, hx4⟩
  have hgr4 := hgr.mono (hle_ext hx4)
  have hua4 : R (hpOf w4) ua xa := Rep.mono (hle_ext hx4) hua3
  have hub4 : R (hpOf w4) ub xb := Rep.mono (hle_ext hx4) hub3
  simp only [CW_seq, CW_skip, CW_cond, CW_block, CW_loop, CW_reg, CW_draw, CW_exit, CW_ret, thenF_n, thenF_nK, thenF_r, thenF_x, blockF_n, blockF_nK, blockF_r, blockF_x, condF_t, condF_f, Rn_nil, Rn_ng, Rn_g, oneStep_g, os_move, os_assign, os_pick, os_bin, os_un, os_fieldAddr, os_field, os_indexAddr, os_index, os_slice, os_extract, os_nilCheck, os_makeFunc, os_build, os_len, os_cap, os_convert, os_min, os_max, on_load, on_buildSlice, on_alloc, on_box, on_makeSlice, on_lookup, mn_convert, mn_bin, optP_n, on_append, on_copy, on_store, on_call, ev, updo, upd, optP_s, resP_ok, resU_ok, ↓reduceIte, Nat.reduceEqDiff, List.map_cons, List.map_nil, List.map_toArray, argU, Nat.reduceAdd, gval_slot, gslot, List.getElem?_toArray, List.getElem?_cons_zero, List.getElem?_cons_succ, Option.bind_some, Option.some.injEq, reduceCtorEq, Bool.false_eq_true, Bool.true_eq_false, Option.map_some, Option.map_none, Int.toNat_zero, Option.isNone_none, Option.isNone_some, add_zero', binV, binI, unV, fieldV, extV, idxV, indexV, sliceV, lenV, capV, convV, min2V, max2V, TY, Option.isSome_some, Bool.true_and, Bool.and_true, Nat.mul_one, Int.toNat_natCast, le0n, Flat.val, Int.reduceToNat, Int.reduceLE, Int.reduceLT, Int.cast_ofNat_Int, decide_true, add_lit, Nat.zero_add, Nat.zero_mul, Nat.one_mul, Bool.not_true, Bool.not_false]
  refine callP (by kernel_rfl : hasBody Try.prog 27 = true) (Reach_any pg nx pv ub xb w4 hgr4 hgg.nx (by omega) hub4 (by omega)) ?_
  rintro uy w5 ⟨⟨y, hoy, hsy⟩, hx5⟩
  have hlx := hsx.len hgg.nx
  have hly := hsy.len hgg.nx
  have hgr5 := hgr4.mono (hle_ext hx5)
  have hua5 : R (hpOf w5) ua xa := Rep.mono (hle_ext hx5) hua4
  have hub5 : R (hpOf w5) ub xb := Rep.mono (hle_ext hx5) hub4
  have hrx5 : R (hpOf w5) ux x := Rep.mono (hle_ext hx5) (hox.rw_ (hle_ext hx4))
  have hry5 : R (hpOf w5) uy y := hoy.rw_ (hle_ext hx5)
  obtain ⟨u0, w6, l1, o1, l2, l3⟩ := lit0 (P := Try.prog) (w := w5) (h := hpOf w5) (α := Int) sokI (hle_refl _)
  obtain ⟨u1, w7, s1, s2, s3, s4⟩ := own_spread (P := Try.prog) (e := 37) sokI rfl o1 hua5 (by simp; omega) (by simp; omega) (hle_ext l2)
  have hx57 := o1.ext2 l2 s3
  obtain ⟨u2, w8, r1, r2, r3, r4⟩ := own_spread (P := Try.prog) (e := 37) sokI rfl s2 hub5 (by simp; omega) (by simp; omega) (hle_ext hx57)
  have hx58 := s2.ext2 hx57 r3
  simp only [List.nil_append] at r2
  simp only [CW_seq, CW_skip, CW_cond, CW_block, CW_loop, CW_reg, CW_draw, CW_exit, CW_ret, thenF_n, thenF_nK, thenF_r, thenF_x, blockF_n, blockF_nK, blockF_r, blockF_x, condF_t, condF_f, Rn_nil, Rn_ng, Rn_g, oneStep_g, os_move, os_assign, os_pick, os_bin, os_un, os_fieldAddr, os_field, os_indexAddr, os_index, os_slice, os_extract, os_nilCheck, os_makeFunc, os_build, os_len, os_cap, os_convert, os_min, os_max, on_load, on_buildSlice, on_alloc, on_box, on_makeSlice, on_lookup, mn_convert, mn_bin, optP_n, on_append, on_copy, on_store, on_call, ev, updo, upd, optP_s, resP_ok, resU_ok, ↓reduceIte, Nat.reduceEqDiff, List.map_cons, List.map_nil, List.map_toArray, argU, Nat.reduceAdd, gval_slot, gslot, List.getElem?_toArray, List.getElem?_cons_zero, List.getElem?_cons_succ, Option.bind_some, Option.some.injEq, reduceCtorEq, Bool.false_eq_true, Bool.true_eq_false, Option.map_some, Option.map_none, Int.toNat_zero, Option.isNone_none, Option.isNone_some, add_zero', binV, binI, unV, fieldV, extV, idxV, indexV, sliceV, lenV, capV, convV, min2V, max2V, TY, Option.isSome_some, Bool.true_and, Bool.and_true, Nat.mul_one, Int.toNat_natCast, le0n, Flat.val, Int.reduceToNat, Int.reduceLE, Int.reduceLT, Int.cast_ofNat_Int, decide_true, add_lit, Nat.zero_add, Nat.zero_mul, Nat.one_mul, Bool.not_true, Bool.not_false, l1, s1, r1]
  have hgr8 := hgr5.mono (hle_ext hx58)
  refine callP (by kernel_rfl : hasBody Try.prog 27 = true) (Reach_any pg nx pv u2 (xa ++ xb) w8 hgr8 hgg.nx (by omega) (r2.rw_ (hle_ext hx58)) (by simp; omega)) ?_
  rintro uz w9 ⟨⟨z, hoz, hsz⟩, hx9⟩
  have hlz := hsz.len hgg.nx
  have hzz := rch_both hgg.nx hsx hsy hsz
  have hx59 := hx58.trans hx9
  have hgr9 := hgr8.mono (hle_ext hx9)
  have hrx9 : R (hpOf w9) ux x := Rep.mono (hle_ext hx59) hrx5
  have hry9 : R (hpOf w9) uy y := Rep.mono (hle_ext hx59) hry5
  have hrz9 : R (hpOf w9) uz z := hoz.rw_ (hle_ext hx9)
  simp only [CW_seq, CW_skip, CW_cond, CW_block, CW_loop, CW_reg, CW_draw, CW_exit, CW_ret, thenF_n, thenF_nK, thenF_r, thenF_x, blockF_n, blockF_nK, blockF_r, blockF_x, condF_t, condF_f, Rn_nil, Rn_ng, Rn_g, oneStep_g, os_move, os_assign, os_pick, os_bin, os_un, os_fieldAddr, os_field, os_indexAddr, os_index, os_slice, os_extract, os_nilCheck, os_makeFunc, os_build, os_len, os_cap, os_convert, os_min, os_max, on_load, on_buildSlice, on_alloc, on_box, on_makeSlice, on_lookup, mn_convert, mn_bin, optP_n, on_append, on_copy, on_store, on_call, ev, updo, upd, optP_s, resP_ok, resU_ok, ↓reduceIte, Nat.reduceEqDiff, List.map_cons, List.map_nil, List.map_toArray, argU, Nat.reduceAdd, gval_slot, gslot, List.getElem?_toArray, List.getElem?_cons_zero, List.getElem?_cons_succ, Option.bind_some, Option.some.injEq, reduceCtorEq, Bool.false_eq_true, Bool.true_eq_false, Option.map_some, Option.map_none, Int.toNat_zero, Option.isNone_none, Option.isNone_some, add_zero', binV, binI, unV, fieldV, extV, idxV, indexV, sliceV, lenV, capV, convV, min2V, max2V, TY, Option.isSome_some, Bool.true_and, Bool.and_true, Nat.mul_one, Int.toNat_natCast, le0n, Flat.val, Int.reduceToNat, Int.reduceLE, Int.reduceLT, Int.cast_ofNat_Int, decide_true, add_lit, Nat.zero_add, Nat.zero_mul, Nat.one_mul, Bool.not_true, Bool.not_false]
  refine callP (by kernel_rfl : hasBody Try.prog 27 = true) (Reach_any pg nx pv ux x w9 hgr9 hgg.nx (by omega) hrx9 (by omega)) ?_
  rintro ur w10 ⟨⟨r, hor, hsr⟩, hx10⟩
  have hrr := rch_rch hgg.nx hsx hsr
  obtain ⟨t, ht⟩ : ∃ t : Bool, t = true := ⟨true, rfl⟩
  simp only [CW_seq, CW_skip, CW_cond, CW_block, CW_loop, CW_reg, CW_draw, CW_exit, CW_ret, thenF_n, thenF_nK, thenF_r, thenF_x, blockF_n, blockF_nK, blockF_r, blockF_x, condF_t, condF_f, Rn_nil, Rn_ng, Rn_g, oneStep_g, os_move, os_assign, os_pick, os_bin, os_un, os_fieldAddr, os_field, os_indexAddr, os_index, os_slice, os_extract, os_nilCheck, os_makeFunc, os_build, os_len, os_cap, os_convert, os_min, os_max, on_load, on_buildSlice, on_alloc, on_box, on_makeSlice, on_lookup, mn_convert, mn_bin, optP_n, on_append, on_copy, on_store, on_call, ev, updo, upd, optP_s, resP_ok, resU_ok, ↓reduceIte, Nat.reduceEqDiff, List.map_cons, List.map_nil, List.map_toArray, argU, Nat.reduceAdd, gval_slot, gslot, List.getElem?_toArray, List.getElem?_cons_zero, List.getElem?_cons_succ, Option.bind_some, Option.some.injEq, reduceCtorEq, Bool.false_eq_true, Bool.true_eq_false, Option.map_some, Option.map_none, Int.toNat_zero, Option.isNone_none, Option.isNone_some, add_zero', binV, binI, unV, fieldV, extV, idxV, indexV, sliceV, lenV, capV, convV, min2V, max2V, TY, Option.isSome_some, Bool.true_and, Bool.and_true, Nat.mul_one, Int.toNat_natCast, le0n, Flat.val, Int.reduceToNat, Int.reduceLE, Int.reduceLT, Int.cast_ofNat_Int, decide_true, add_lit, Nat.zero_add, Nat.zero_mul, Nat.one_mul, Bool.not_true, Bool.not_false]
  refine callP (by kernel_rfl : hasBody Try.prog 28 = true) (eqInts_any ur ux r x w10 (hor.rw_ (hle_ext hx10)) (Rep.mono (hle_ext hx10) hrx9) (by rw [hrr]; omega)) ?_
  rintro k1 w11 ⟨hk1, hx11⟩
  rw [decide_eq_true hrr, ← ht] at hk1
  subst hk1
  have hx911 := hx10.trans hx11
  have hrx11 : R (hpOf w11) ux x := Rep.mono (hle_ext hx911) hrx9
  have hry11 : R (hpOf w11) uy y := Rep.mono (hle_ext hx911) hry9
  obtain ⟨v0, w12, l1', o1', l2', l3'⟩ := lit0 (P := Try.prog) (w := w11) (h := hpOf w11) (α := Int) sokI (hle_refl _)
  obtain ⟨v1, w13, s1', s2', s3', s4'⟩ := own_spread (P := Try.prog) (e := 37) sokI rfl o1' hrx11 (by simp; omega) (by simp; omega) (hle_ext l2')
  have hx1113 := o1'.ext2 l2' s3'
  obtain ⟨v2, w14, r1', r2', r3', r4'⟩ := own_spread (P := Try.prog) (e := 37) sokI rfl s2' hry11 (by simp; omega) (by simp; omega) (hle_ext hx1113)
  have hx1114 := s2'.ext2 hx1113 r3'
  simp only [List.nil_append] at r2'
  simp only [CW_seq, CW_skip, CW_cond, CW_block, CW_loop, CW_reg, CW_draw, CW_exit, CW_ret, thenF_n, thenF_nK, thenF_r, thenF_x, blockF_n, blockF_nK, blockF_r, blockF_x, condF_t, condF_f, Rn_nil, Rn_ng, Rn_g, oneStep_g, os_move, os_assign, os_pick, os_bin, os_un, os_fieldAddr, os_field, os_indexAddr, os_index, os_slice, os_extract, os_nilCheck, os_makeFunc, os_build, os_len, os_cap, os_convert, os_min, os_max, on_load, on_buildSlice, on_alloc, on_box, on_makeSlice, on_lookup, mn_convert, mn_bin, optP_n, on_append, on_copy, on_store, on_call, ev, updo, upd, optP_s, resP_ok, resU_ok, ↓reduceIte, Nat.reduceEqDiff, List.map_cons, List.map_nil, List.map_toArray, argU, Nat.reduceAdd, gval_slot, gslot, List.getElem?_toArray, List.getElem?_cons_zero, List.getElem?_cons_succ, Option.bind_some, Option.some.injEq, reduceCtorEq, Bool.false_eq_true, Bool.true_eq_false, Option.map_some, Option.map_none, Int.toNat_zero, Option.isNone_none, Option.isNone_some, add_zero', binV, binI, unV, fieldV, extV, idxV, indexV, sliceV, lenV, capV, convV, min2V, max2V, TY, Option.isSome_some, Bool.true_and, Bool.and_true, Nat.mul_one, Int.toNat_natCast, le0n, Flat.val, Int.reduceToNat, Int.reduceLE, Int.reduceLT, Int.cast_ofNat_Int, decide_true, add_lit, Nat.zero_add, Nat.zero_mul, Nat.one_mul, Bool.not_true, Bool.not_false, ht, l1', s1', r1']
  refine callP (by kernel_rfl : hasBody Try.prog 29 = true) (rising_any v2 (x ++ y) w14 (r2'.rw_ (hle_ext hx1114)) (by simp; omega)) ?_
  rintro us w15 ⟨hos, hx15⟩
  rw [← hzz] at hos
  simp only [CW_seq, CW_skip, CW_cond, CW_block, CW_loop, CW_reg, CW_draw, CW_exit, CW_ret, thenF_n, thenF_nK, thenF_r, thenF_x, blockF_n, blockF_nK, blockF_r, blockF_x, condF_t, condF_f, Rn_nil, Rn_ng, Rn_g, oneStep_g, os_move, os_assign, os_pick, os_bin, os_un, os_fieldAddr, os_field, os_indexAddr, os_index, os_slice, os_extract, os_nilCheck, os_makeFunc, os_build, os_len, os_cap, os_convert, os_min, os_max, on_load, on_buildSlice, on_alloc, on_box, on_makeSlice, on_lookup, mn_convert, mn_bin, optP_n, on_append, on_copy, on_store, on_call, ev, updo, upd, optP_s, resP_ok, resU_ok, ↓reduceIte, Nat.reduceEqDiff, List.map_cons, List.map_nil, List.map_toArray, argU, Nat.reduceAdd, gval_slot, gslot, List.getElem?_toArray, List.getElem?_cons_zero, List.getElem?_cons_succ, Option.bind_some, Option.some.injEq, reduceCtorEq, Bool.false_eq_true, Bool.true_eq_false, Option.map_some, Option.map_none, Int.toNat_zero, Option.isNone_none, Option.isNone_some, add_zero', binV, binI, unV, fieldV, extV, idxV, indexV, sliceV, lenV, capV, convV, min2V, max2V, TY, Option.isSome_some, Bool.true_and, Bool.and_true, Nat.mul_one, Int.toNat_natCast, le0n, Flat.val, Int.reduceToNat, Int.reduceLE, Int.reduceLT, Int.cast_ofNat_Int, decide_true, add_lit, Nat.zero_add, Nat.zero_mul, Nat.one_mul, Bool.not_true, Bool.not_false, ht]
  refine callP (by kernel_rfl : hasBody Try.prog 28 = true) (eqInts_any uz us z z w15 (Rep.mono (hle_ext ((hx911.trans hx1114).trans hx15)) hrz9) (hos.rw_ (hle_ext hx15)) (by omega)) ?_
  rintro k2 w16 ⟨hk2, hx16⟩
  rw [decide_eq_true rfl, ← ht] at hk2
  subst hk2
  simp only [CW_seq, CW_skip, CW_cond, CW_block, CW_loop, CW_reg, CW_draw, CW_exit, CW_ret, thenF_n, thenF_nK, thenF_r, thenF_x, blockF_n, blockF_nK, blockF_r, blockF_x, condF_t, condF_f, Rn_nil, Rn_ng, Rn_g, oneStep_g, os_move, os_assign, os_pick, os_bin, os_un, os_fieldAddr, os_field, os_indexAddr, os_index, os_slice, os_extract, os_nilCheck, os_makeFunc, os_build, os_len, os_cap, os_convert, os_min, os_max, on_load, on_buildSlice, on_alloc, on_box, on_makeSlice, on_lookup, mn_convert, mn_bin, optP_n, on_append, on_copy, on_store, on_call, ev, updo, upd, optP_s, resP_ok, resU_ok, ↓reduceIte, Nat.reduceEqDiff, List.map_cons, List.map_nil, List.map_toArray, argU, Nat.reduceAdd, gval_slot, gslot, List.getElem?_toArray, List.getElem?_cons_zero, List.getElem?_cons_succ, Option.bind_some, Option.some.injEq, reduceCtorEq, Bool.false_eq_true, Bool.true_eq_false, Option.map_some, Option.map_none, Int.toNat_zero, Option.isNone_none, Option.isNone_some, add_zero', binV, binI, unV, fieldV, extV, idxV, indexV, sliceV, lenV, capV, convV, min2V, max2V, TY, Option.isSome_some, Bool.true_and, Bool.and_true, Nat.mul_one, Int.toNat_natCast, le0n, Flat.val, Int.reduceToNat, Int.reduceLE, Int.reduceLT, Int.cast_ofNat_Int, decide_true, add_lit, Nat.zero_add, Nat.zero_mul, Nat.one_mul, Bool.not_true, Bool.not_false, ht]
  refine retq1 Try.results6 ?_
  simp only [upd, ↓reduceIte, Nat.reduceEqDiff]
  exact ⟨by trivial, (((((((((hx1.trans hx2).trans hxd).trans hx3).trans hx4).trans hx5).trans hx59).trans hx911).trans hx1114).trans hx15).trans hx16⟩
end Go.Proofs.Ytldmnnloakpjlaa
