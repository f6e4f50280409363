/- Contract: the graph's Parts. -/
import Derived.Test.YtldmnnloakpjlaaB13
import Derived.Test.YtldmnnloakpjlaaC5
set_option linter.unusedSimpArgs false
set_option linter.unusedVariables false
set_option maxRecDepth 100000
set_option linter.unnecessarySimpa false
namespace Go.Proofs.Ytldmnnloakpjlaa
open Go

theorem Parts_nil (w : World) : Calls Try.prog 30 #[.pointer none] w fun e w' => ∃ u, e = .returned u ∧ (u = .slice none 0 0 ∧ w' = w) := by
  refine calls_of_CW (args := [.pointer none]) hm Try.func30 rfl (by kernel_rfl) (by show 1 ≤ _; decide +kernel) ?_
  simp only [CW_seq, CW_skip, CW_cond, CW_block, CW_loop, CW_reg, CW_draw, CW_exit, CW_ret, thenF_n, thenF_nK, thenF_r, thenF_x, blockF_n, blockF_nK, blockF_r, blockF_x, condF_t, condF_f, Rn_nil, Rn_ng, Rn_g, oneStep_g, os_move, os_assign, os_pick, os_bin, os_un, os_fieldAddr, os_field, os_indexAddr, os_index, os_slice, os_extract, os_nilCheck, os_makeFunc, os_build, os_len, os_cap, os_convert, os_min, os_max, on_load, on_buildSlice, on_alloc, on_box, on_makeSlice, on_lookup, mn_convert, mn_bin, optP_n, on_append, on_copy, on_store, on_call, ev, updo, upd, optP_s, resP_ok, resU_ok, ↓reduceIte, Nat.reduceEqDiff, List.map_cons, List.map_nil, List.map_toArray, argU, Nat.reduceAdd, gval_slot, gslot, List.getElem?_toArray, List.getElem?_cons_zero, List.getElem?_cons_succ, Option.bind_some, Option.some.injEq, reduceCtorEq, Bool.false_eq_true, Bool.true_eq_false, Option.map_some, Option.map_none, Int.toNat_zero, Option.isNone_none, Option.isNone_some, add_zero', binV, binI, unV, fieldV, extV, idxV, indexV, sliceV, lenV, capV, convV, min2V, max2V, TY, Option.isSome_some, Bool.true_and, Bool.and_true, Nat.mul_one, Int.toNat_natCast, le0n, Flat.val, Int.reduceToNat, Int.reduceLE, Int.reduceLT, Int.cast_ofNat_Int, decide_true, add_lit, Nat.zero_add, Nat.zero_mul, Nat.one_mul, Bool.not_true, Bool.not_false]
  refine retq1 Try.results30 ?_
  simp only [upd, ↓reduceIte, Nat.reduceEqDiff]
  exact ⟨by trivial, by trivial⟩
theorem Parts_any (pg : Value) (nx pv : List (List Int)) (w : World) (hgr : GR (hpOf w) pg nx pv) (hgg : Graph nx.length (nx, pv)) (hn5 : nx.length ≤ 5000) :
    Calls Try.prog 30 #[pg] w fun e w' => ∃ u, e = .returned u ∧ ((∃ p, Own (hpOf w) w' 3 u p ∧ p.length = nx.length ∧ ∀ b, okN nx.length b = true → IsPart nx b (ai p b)) ∧ Ext w w') := by
  have hgr' := hgr
  have hg : GoodRows nx.length nx := hgg.nx
  have hgp : GoodRows nx.length pv := hgg.pv
  have hgp' : GoodRows pv.length pv := by rw [hgp.len]; exact hgp
  have hplen : pv.length = nx.length := hgp.len
  obtain ⟨gb, vn, vp, rfl, h1, h2, h3, h4⟩ := hgr
  refine calls_of_CW (args := [.pointer (some ⟨gb, 0, none⟩)]) hm Try.func30 rfl (by kernel_rfl) (by show 1 ≤ _; decide +kernel) ?_
  have hld := ld_at (P := Try.prog) (t := 23) h1 (hle_refl _) tyG23
  have hSn := h3.isS
  have hnn := h3.vlen
  obtain ⟨u0, w0, hmk, ho0, hx0, hf0, _⟩ := mk (P := Try.prog) (w := w) (h := hpOf w) sokI tyZ3 (α := Int) (y := 0) rfl (n := nx.length) (by omega) (by omega) (hle_refl _)
  have hld0 := ld_at (P := Try.prog) (t := 23) h1 (hle_ext hx0) tyG23
  obtain ⟨u1, w1, hmk1, ho1, hx1, hf1, _⟩ := mk (P := Try.prog) (w := w0) (h := hpOf w) sokB tyZ4 (α := Bool) (y := false) rfl (n := nx.length) (by omega) (by omega) (hle_ext hx0)
  have hx01 := hx0.trans hx1
  have hd01 : Dj u0 u1 := Dj.fresh ho0 hf1
  simp only [CW_seq, CW_skip, CW_cond, CW_block, CW_loop, CW_reg, CW_draw, CW_exit, CW_ret, thenF_n, thenF_nK, thenF_r, thenF_x, blockF_n, blockF_nK, blockF_r, blockF_x, condF_t, condF_f, Rn_nil, Rn_ng, Rn_g, oneStep_g, os_move, os_assign, os_pick, os_bin, os_un, os_fieldAddr, os_field, os_indexAddr, os_index, os_slice, os_extract, os_nilCheck, os_makeFunc, os_build, os_len, os_cap, os_convert, os_min, os_max, on_load, on_buildSlice, on_alloc, on_box, on_makeSlice, on_lookup, mn_convert, mn_bin, optP_n, on_append, on_copy, on_store, on_call, ev, updo, upd, optP_s, resP_ok, resU_ok, ↓reduceIte, Nat.reduceEqDiff, List.map_cons, List.map_nil, List.map_toArray, argU, Nat.reduceAdd, gval_slot, gslot, List.getElem?_toArray, List.getElem?_cons_zero, List.getElem?_cons_succ, Option.bind_some, Option.some.injEq, reduceCtorEq, Bool.false_eq_true, Bool.true_eq_false, Option.map_some, Option.map_none, Int.toNat_zero, Option.isNone_none, Option.isNone_some, add_zero', binV, binI, unV, fieldV, extV, idxV, indexV, sliceV, lenV, capV, convV, min2V, max2V, TY, Option.isSome_some, Bool.true_and, Bool.and_true, Nat.mul_one, Int.toNat_natCast, le0n, Flat.val, Int.reduceToNat, Int.reduceLE, Int.reduceLT, Int.cast_ofNat_Int, decide_true, add_lit, Nat.zero_add, Nat.zero_mul, Nat.one_mul, Bool.not_true, Bool.not_false, hld, hSn, hnn, hmk, hld0, hmk1]
  refine callP (by kernel_rfl : hasBody Try.prog 49 = true) (ends2_any _ nx pv w1 (hgr'.mono (hle_ext hx01)) hg hn5) ?_
  rintro u2 w2 ⟨⟨order, hoo, hord⟩, hx2⟩
  have hx02 := hx01.trans hx2
  have hoo2 := hoo.back hx01
  have hS2 := hoo.isS
  have hl2 := hoo.vlen
  have hol := hord.len
  rw [hol] at hl2
  have hnb : ∀ b, blk u2 b → w1.heap.size ≤ b := fun b hb => by
    have := hoo.free hb
    simpa [hpOf] using this
  have hd02 : Dj u0 u2 := Dj.fresh (ho0.ext hx1) hnb
  have hd12 : Dj u1 u2 := Dj.fresh ho1 hnb
  have hwl : IntKind.i64.wrap ((nx.length : Int) - 1) = (nx.length : Int) - 1 := i64w _ (by omega)
  simp only [CW_seq, CW_skip, CW_cond, CW_block, CW_loop, CW_reg, CW_draw, CW_exit, CW_ret, thenF_n, thenF_nK, thenF_r, thenF_x, blockF_n, blockF_nK, blockF_r, blockF_x, condF_t, condF_f, Rn_nil, Rn_ng, Rn_g, oneStep_g, os_move, os_assign, os_pick, os_bin, os_un, os_fieldAddr, os_field, os_indexAddr, os_index, os_slice, os_extract, os_nilCheck, os_makeFunc, os_build, os_len, os_cap, os_convert, os_min, os_max, on_load, on_buildSlice, on_alloc, on_box, on_makeSlice, on_lookup, mn_convert, mn_bin, optP_n, on_append, on_copy, on_store, on_call, ev, updo, upd, optP_s, resP_ok, resU_ok, ↓reduceIte, Nat.reduceEqDiff, List.map_cons, List.map_nil, List.map_toArray, argU, Nat.reduceAdd, gval_slot, gslot, List.getElem?_toArray, List.getElem?_cons_zero, List.getElem?_cons_succ, Option.bind_some, Option.some.injEq, reduceCtorEq, Bool.false_eq_true, Bool.true_eq_false, Option.map_some, Option.map_none, Int.toNat_zero, Option.isNone_none, Option.isNone_some, add_zero', binV, binI, unV, fieldV, extV, idxV, indexV, sliceV, lenV, capV, convV, min2V, max2V, TY, Option.isSome_some, Bool.true_and, Bool.and_true, Nat.mul_one, Int.toNat_natCast, le0n, Flat.val, Int.reduceToNat, Int.reduceLE, Int.reduceLT, Int.cast_ofNat_Int, decide_true, add_lit, Nat.zero_add, Nat.zero_mul, Nat.one_mul, Bool.not_true, Bool.not_false, hS2, hl2, hwl]
  refine loop_rule [0, 3, 4, 5] (σ := List Bool × List Int × Nat) (fun s f w' => f 6 = .int .i64 ((s.2.2 : Int) - 1) ∧ s.2.2 ≤ nx.length ∧ Own (hpOf w) w' 4 u1 s.1 ∧ Own (hpOf w) w' 3 u0 s.2.1 ∧ Own (hpOf w) w' 3 u2 order ∧ Ext w w' ∧ PI nx nx.length order s.1 s.2.1 s.2.2)
    (fun s => s.2.2) (List.replicate nx.length false, List.replicate nx.length 0, nx.length) (by decide +kernel) ?_ ?_
  · simp only [upd, ↓reduceIte, Nat.reduceEqDiff]
    exact ⟨by trivial, Nat.le_refl _, ho1.ext hx2, (ho0.ext hx1).ext hx2, hoo2, hx02, PI.start hord⟩
  · rintro ⟨sn, pt, k⟩ f w3 hk ⟨h6, hkl, hos, hop, hoo, hx, hi⟩
    simp only at h6 hkl hos hop hi
    simp only [List.forall_mem_cons, upd, ↓reduceIte, Nat.reduceEqDiff] at hk
    obtain ⟨e0, e3, e4, e5, _⟩ := hk
    simp only [CW_seq, CW_skip, CW_cond, CW_block, CW_loop, CW_reg, CW_draw, CW_exit, CW_ret, thenF_n, thenF_nK, thenF_r, thenF_x, blockF_n, blockF_nK, blockF_r, blockF_x, condF_t, condF_f, Rn_nil, Rn_ng, Rn_g, oneStep_g, os_move, os_assign, os_pick, os_bin, os_un, os_fieldAddr, os_field, os_indexAddr, os_index, os_slice, os_extract, os_nilCheck, os_makeFunc, os_build, os_len, os_cap, os_convert, os_min, os_max, on_load, on_buildSlice, on_alloc, on_box, on_makeSlice, on_lookup, mn_convert, mn_bin, optP_n, on_append, on_copy, on_store, on_call, ev, updo, upd, optP_s, resP_ok, resU_ok, ↓reduceIte, Nat.reduceEqDiff, List.map_cons, List.map_nil, List.map_toArray, argU, Nat.reduceAdd, gval_slot, gslot, List.getElem?_toArray, List.getElem?_cons_zero, List.getElem?_cons_succ, Option.bind_some, Option.some.injEq, reduceCtorEq, Bool.false_eq_true, Bool.true_eq_false, Option.map_some, Option.map_none, Int.toNat_zero, Option.isNone_none, Option.isNone_some, add_zero', binV, binI, unV, fieldV, extV, idxV, indexV, sliceV, lenV, capV, convV, min2V, max2V, TY, Option.isSome_some, Bool.true_and, Bool.and_true, Nat.mul_one, Int.toNat_natCast, le0n, Flat.val, Int.reduceToNat, Int.reduceLE, Int.reduceLT, Int.cast_ofNat_Int, decide_true, add_lit, Nat.zero_add, Nat.zero_mul, Nat.one_mul, Bool.not_true, Bool.not_false, h6]
    refine condF_split (fun hc => ?_) (fun hc => ?_)
    · obtain ⟨k, rfl⟩ : ∃ j, k = j + 1 := ⟨k - 1, by simp at hc; omega⟩
      have hk1 : ((k + 1 : Nat) : Int) - 1 = (k : Int) := by omega
      rw [hk1] at h6
      have hklt : k < order.length := by omega
      have hino := hoo.inS hklt
      have hldr := own_ld_flat (P := Try.prog) (t := 3) hoo (List.getElem?_eq_getElem hklt) tyG3
      have hro : order[k]? = some order[k] := List.getElem?_eq_getElem hklt
      generalize order[k] = r at hldr hro
      have hrk : okN nx.length r = true := (hord.mem r).1 (List.mem_of_getElem? hro)
      have hrk2 : okN sn.length r = true := by rw [hi.slen]; exact hrk
      obtain ⟨hrlt, hrg⟩ := bitAt_ok hrk2
      have dr : decide (0 ≤ r) = true := by simpa using (okN_iff.1 hrk).1
      have hins := hos.inS hrlt
      have hlds := own_ld_flat (P := Try.prog) (t := 4) hos (k := r.toNat) (x := bitAt sn r) (by rw [hrg]; simp [List.getD, hrlt]) tyG4
      have hSs := hos.isS
      have hSo := hoo.isS
      have hwk : IntKind.i64.wrap ((k : Int) - 1) = (k : Int) - 1 := i64w _ (by omega)
      rcases Bool.eq_false_or_eq_true (bitAt sn r) with hbs | hbs
      · simp only [CW_seq, CW_skip, CW_cond, CW_block, CW_loop, CW_reg, CW_draw, CW_exit, CW_ret, thenF_n, thenF_nK, thenF_r, thenF_x, blockF_n, blockF_nK, blockF_r, blockF_x, condF_t, condF_f, Rn_nil, Rn_ng, Rn_g, oneStep_g, os_move, os_assign, os_pick, os_bin, os_un, os_fieldAddr, os_field, os_indexAddr, os_index, os_slice, os_extract, os_nilCheck, os_makeFunc, os_build, os_len, os_cap, os_convert, os_min, os_max, on_load, on_buildSlice, on_alloc, on_box, on_makeSlice, on_lookup, mn_convert, mn_bin, optP_n, on_append, on_copy, on_store, on_call, ev, updo, upd, optP_s, resP_ok, resU_ok, ↓reduceIte, Nat.reduceEqDiff, List.map_cons, List.map_nil, List.map_toArray, argU, Nat.reduceAdd, gval_slot, gslot, List.getElem?_toArray, List.getElem?_cons_zero, List.getElem?_cons_succ, Option.bind_some, Option.some.injEq, reduceCtorEq, Bool.false_eq_true, Bool.true_eq_false, Option.map_some, Option.map_none, Int.toNat_zero, Option.isNone_none, Option.isNone_some, add_zero', binV, binI, unV, fieldV, extV, idxV, indexV, sliceV, lenV, capV, convV, min2V, max2V, TY, Option.isSome_some, Bool.true_and, Bool.and_true, Nat.mul_one, Int.toNat_natCast, le0n, Flat.val, Int.reduceToNat, Int.reduceLE, Int.reduceLT, Int.cast_ofNat_Int, decide_true, add_lit, Nat.zero_add, Nat.zero_mul, Nat.one_mul, Bool.not_true, Bool.not_false, h6, e4, e5, hSs, hSo, hino, hldr, hins, dr, hlds, hbs, hwk]
        exact ⟨(sn, pt, k), by simp only []; omega, by trivial, by simp only []; omega, hos, hop, hoo, hx, hi.old hro hbs⟩
      · obtain ⟨w4, s1, s2, s3, s4⟩ := own_store (P := Try.prog) (t := 4) hos rfl (k := r.toNat) hrlt (x := .bool true) (y := true) rfl rfl (zeroT_info tyZ4).choose_spec.1 (by rw [← szT_info (zeroT_info tyZ4).choose_spec.1]; exact tyS4)
        have hx4 := hos.ext2 hx s3
        have hop4 := hop.apart s3 hd01
        have hoo4 := hoo.apart s3 hd12.symm
        have hldr4 := own_ld_flat (P := Try.prog) (t := 3) hoo4 hro tyG3
        simp only [CW_seq, CW_skip, CW_cond, CW_block, CW_loop, CW_reg, CW_draw, CW_exit, CW_ret, thenF_n, thenF_nK, thenF_r, thenF_x, blockF_n, blockF_nK, blockF_r, blockF_x, condF_t, condF_f, Rn_nil, Rn_ng, Rn_g, oneStep_g, os_move, os_assign, os_pick, os_bin, os_un, os_fieldAddr, os_field, os_indexAddr, os_index, os_slice, os_extract, os_nilCheck, os_makeFunc, os_build, os_len, os_cap, os_convert, os_min, os_max, on_load, on_buildSlice, on_alloc, on_box, on_makeSlice, on_lookup, mn_convert, mn_bin, optP_n, on_append, on_copy, on_store, on_call, ev, updo, upd, optP_s, resP_ok, resU_ok, ↓reduceIte, Nat.reduceEqDiff, List.map_cons, List.map_nil, List.map_toArray, argU, Nat.reduceAdd, gval_slot, gslot, List.getElem?_toArray, List.getElem?_cons_zero, List.getElem?_cons_succ, Option.bind_some, Option.some.injEq, reduceCtorEq, Bool.false_eq_true, Bool.true_eq_false, Option.map_some, Option.map_none, Int.toNat_zero, Option.isNone_none, Option.isNone_some, add_zero', binV, binI, unV, fieldV, extV, idxV, indexV, sliceV, lenV, capV, convV, min2V, max2V, TY, Option.isSome_some, Bool.true_and, Bool.and_true, Nat.mul_one, Int.toNat_natCast, le0n, Flat.val, Int.reduceToNat, Int.reduceLE, Int.reduceLT, Int.cast_ofNat_Int, decide_true, add_lit, Nat.zero_add, Nat.zero_mul, Nat.one_mul, Bool.not_true, Bool.not_false, h6, e4, e5, hSs, hSo, hino, hldr, hins, dr, hlds, hbs, s1]
        refine drawR (fun w2 => Ext w4.drew w2) 10 (ordL [0, 1, 2, 3, 4, 5, 6, 7, 8, 9]) (by decide +kernel) (Mod.refl _) ?_
        have hxd := hx4.trans (Ext.drew w4)
        have hoo5 := hoo4.ext (Ext.drew w4)
        simp only [RnF_nil, RnF_op, ordL, of_load, of_lookup, mf_convert, mf_bin, of_buildSlice, of_alloc, of_box, of_makeSlice, of_append, of_copy, of_store, of_call, List.drop_succ_cons, List.drop_zero, CW_seq, CW_skip, CW_cond, CW_block, CW_loop, CW_reg, CW_draw, CW_exit, CW_ret, thenF_n, thenF_nK, thenF_r, thenF_x, blockF_n, blockF_nK, blockF_r, blockF_x, condF_t, condF_f, Rn_nil, Rn_ng, Rn_g, oneStep_g, os_move, os_assign, os_pick, os_bin, os_un, os_fieldAddr, os_field, os_indexAddr, os_index, os_slice, os_extract, os_nilCheck, os_makeFunc, os_build, os_len, os_cap, os_convert, os_min, os_max, on_load, on_buildSlice, on_alloc, on_box, on_makeSlice, on_lookup, mn_convert, mn_bin, optP_n, on_append, on_copy, on_store, on_call, ev, updo, upd, optP_s, resP_ok, resU_ok, ↓reduceIte, Nat.reduceEqDiff, List.map_cons, List.map_nil, List.map_toArray, argU, Nat.reduceAdd, gval_slot, gslot, List.getElem?_toArray, List.getElem?_cons_zero, List.getElem?_cons_succ, Option.bind_some, Option.some.injEq, reduceCtorEq, Bool.false_eq_true, Bool.true_eq_false, Option.map_some, Option.map_none, Int.toNat_zero, Option.isNone_none, Option.isNone_some, add_zero', binV, binI, unV, fieldV, extV, idxV, indexV, sliceV, lenV, capV, convV, min2V, max2V, TY, Option.isSome_some, Bool.true_and, Bool.and_true, Nat.mul_one, Int.toNat_natCast, le0n, Flat.val, Int.reduceToNat, Int.reduceLE, Int.reduceLT, Int.cast_ofNat_Int, decide_true, add_lit, Nat.zero_add, Nat.zero_mul, Nat.one_mul, Bool.not_true, Bool.not_false, e0]
        refine ⟨vp, fun w2 e => ld_at h2 (hle_ext (hxd.trans e)) tyG23, ?_⟩
        simp only [RnF_nil, RnF_op, ordL, of_load, of_lookup, mf_convert, mf_bin, of_buildSlice, of_alloc, of_box, of_makeSlice, of_append, of_copy, of_store, of_call, List.drop_succ_cons, List.drop_zero, CW_seq, CW_skip, CW_cond, CW_block, CW_loop, CW_reg, CW_draw, CW_exit, CW_ret, thenF_n, thenF_nK, thenF_r, thenF_x, blockF_n, blockF_nK, blockF_r, blockF_x, condF_t, condF_f, Rn_nil, Rn_ng, Rn_g, oneStep_g, os_move, os_assign, os_pick, os_bin, os_un, os_fieldAddr, os_field, os_indexAddr, os_index, os_slice, os_extract, os_nilCheck, os_makeFunc, os_build, os_len, os_cap, os_convert, os_min, os_max, on_load, on_buildSlice, on_alloc, on_box, on_makeSlice, on_lookup, mn_convert, mn_bin, optP_n, on_append, on_copy, on_store, on_call, ev, updo, upd, optP_s, resP_ok, resU_ok, ↓reduceIte, Nat.reduceEqDiff, List.map_cons, List.map_nil, List.map_toArray, argU, Nat.reduceAdd, gval_slot, gslot, List.getElem?_toArray, List.getElem?_cons_zero, List.getElem?_cons_succ, Option.bind_some, Option.some.injEq, reduceCtorEq, Bool.false_eq_true, Bool.true_eq_false, Option.map_some, Option.map_none, Int.toNat_zero, Option.isNone_none, Option.isNone_some, add_zero', binV, binI, unV, fieldV, extV, idxV, indexV, sliceV, lenV, capV, convV, min2V, max2V, TY, Option.isSome_some, Bool.true_and, Bool.and_true, Nat.mul_one, Int.toNat_natCast, le0n, Flat.val, Int.reduceToNat, Int.reduceLE, Int.reduceLT, Int.cast_ofNat_Int, decide_true, add_lit, Nat.zero_add, Nat.zero_mul, Nat.one_mul, Bool.not_true, Bool.not_false, e4, e5, h6, hSo, hino]
        refine ⟨.int .i64 r, fun w2 e => own_ld_flat (hoo5.ext e) hro tyG3, ?_⟩
        obtain ⟨vt, w5, hlit, hot, hxt, hft⟩ := lit (P := Try.prog) (w := w4.drew) (h := hpOf w) (α := Int) (xs := [.int .i64 r]) (ys := [r]) (parts := #[(0, .int .i64 r)]) (n := 1) sokI rfl (encs_ints.2 rfl) (by simp [Value.cells]) rfl rfl (by simp) (by simp) (hle_ext hxd)
        have hos5 := s2.ext ((Ext.drew w4).trans hxt)
        have hdst : Dj u1 vt := Dj.fresh (s2.ext (Ext.drew w4)) hft
        have hsetr : ∀ c, bitAt (sn.set r.toNat true) c = if c = r then true else bitAt sn c := fun c => bitAt_set hrk2
        simp only [RnF_nil, RnF_op, ordL, of_load, of_lookup, mf_convert, mf_bin, of_buildSlice, of_alloc, of_box, of_makeSlice, of_append, of_copy, of_store, of_call, List.drop_succ_cons, List.drop_zero, CW_seq, CW_skip, CW_cond, CW_block, CW_loop, CW_reg, CW_draw, CW_exit, CW_ret, thenF_n, thenF_nK, thenF_r, thenF_x, blockF_n, blockF_nK, blockF_r, blockF_x, condF_t, condF_f, Rn_nil, Rn_ng, Rn_g, oneStep_g, os_move, os_assign, os_pick, os_bin, os_un, os_fieldAddr, os_field, os_indexAddr, os_index, os_slice, os_extract, os_nilCheck, os_makeFunc, os_build, os_len, os_cap, os_convert, os_min, os_max, on_load, on_buildSlice, on_alloc, on_box, on_makeSlice, on_lookup, mn_convert, mn_bin, optP_n, on_append, on_copy, on_store, on_call, ev, updo, upd, optP_s, resP_ok, resU_ok, ↓reduceIte, Nat.reduceEqDiff, List.map_cons, List.map_nil, List.map_toArray, argU, Nat.reduceAdd, gval_slot, gslot, List.getElem?_toArray, List.getElem?_cons_zero, List.getElem?_cons_succ, Option.bind_some, Option.some.injEq, reduceCtorEq, Bool.false_eq_true, Bool.true_eq_false, Option.map_some, Option.map_none, Int.toNat_zero, Option.isNone_none, Option.isNone_some, add_zero', binV, binI, unV, fieldV, extV, idxV, indexV, sliceV, lenV, capV, convV, min2V, max2V, TY, Option.isSome_some, Bool.true_and, Bool.and_true, Nat.mul_one, Int.toNat_natCast, le0n, Flat.val, Int.reduceToNat, Int.reduceLE, Int.reduceLT, Int.cast_ofNat_Int, decide_true, add_lit, Nat.zero_add, Nat.zero_mul, Nat.one_mul, Bool.not_true, Bool.not_false, e4, e5, h6, hSo, hino, hlit, keepS]
        refine ⟨hxt, ?_⟩
        refine callP (by kernel_rfl : hasBody Try.prog 46 = true) (walk_any (hpOf w) vp u1 vt pv (sn.set r.toNat true) [r] w5 (hle_ext (hxd.trans hxt)) h4 hgp' hos5 hot hdst (by simp [hi.slen, hplen]) (fun a ha => by simp at ha; subst ha; rw [hsetr, if_pos rfl]) (by omega) (by simp)) ?_
        rintro u3 w6 ⟨td, sn', hot6, hos6, hds6, hm6, hmv6, hok⟩
        have hxt4 := hxd.trans hxt
        have hvtn : ∀ b, blk vt b → w.heap.size ≤ b := fun b hb => by
          have := hot.free hb
          exact Nat.le_of_not_lt fun hlt => by simp [hpOf, hlt] at this
        have hx6 : Ext w w6 := Mod.ext_of hxt4 hm6 fun b hb => by
          rcases hb with hb | hb
          · have := hos5.free hb
            exact Nat.le_of_not_lt fun hlt => by simp [hpOf, hlt] at this
          · exact hvtn b hb
        have hop5 := hop4.ext ((Ext.drew w4).trans hxt)
        have hoo5' := hoo4.ext ((Ext.drew w4).trans hxt)
        have hd0t : Dj u0 vt := Dj.fresh (hop4.ext (Ext.drew w4)) hft
        have hd2t : Dj u2 vt := Dj.fresh (hoo4.ext (Ext.drew w4)) hft
        have hop6 := hop5.mod hm6 fun b hb hb2 => hb2.elim (hd01 b hb) (hd0t b hb)
        have hoo6 := hoo5'.mod hm6 fun b hb hb2 => hb2.elim (fun h => hd12 b h hb) (hd2t b hb)
        have hd0u3 : Dj u0 u3 := hd0t.move hop5 hmv6
        have hwalk := hi.walk hord hg hgg.both hro hbs
        have htd : ∀ b, b ∈ td ↔ Both nx r b := fun b => by rw [hok.via, hwalk]
        have hrtd : r ∈ td := (htd r).2 (.refl r)
        have htl := hok.size
        simp only [List.length_singleton, List.length_set] at htl
        have hsl := hi.slen
        obtain ⟨x, l, rfl⟩ : ∃ x l, td = x :: l := by
          cases td with
          | nil => cases hrtd
          | cons x l => exact ⟨x, l, rfl⟩
        simp only [List.length_cons] at htl
        simp only [CW_seq, CW_skip, CW_cond, CW_block, CW_loop, CW_reg, CW_draw, CW_exit, CW_ret, thenF_n, thenF_nK, thenF_r, thenF_x, blockF_n, blockF_nK, blockF_r, blockF_x, condF_t, condF_f, Rn_nil, Rn_ng, Rn_g, oneStep_g, os_move, os_assign, os_pick, os_bin, os_un, os_fieldAddr, os_field, os_indexAddr, os_index, os_slice, os_extract, os_nilCheck, os_makeFunc, os_build, os_len, os_cap, os_convert, os_min, os_max, on_load, on_buildSlice, on_alloc, on_box, on_makeSlice, on_lookup, mn_convert, mn_bin, optP_n, on_append, on_copy, on_store, on_call, ev, updo, upd, optP_s, resP_ok, resU_ok, ↓reduceIte, Nat.reduceEqDiff, List.map_cons, List.map_nil, List.map_toArray, argU, Nat.reduceAdd, gval_slot, gslot, List.getElem?_toArray, List.getElem?_cons_zero, List.getElem?_cons_succ, Option.bind_some, Option.some.injEq, reduceCtorEq, Bool.false_eq_true, Bool.true_eq_false, Option.map_some, Option.map_none, Int.toNat_zero, Option.isNone_none, Option.isNone_some, add_zero', binV, binI, unV, fieldV, extV, idxV, indexV, sliceV, lenV, capV, convV, min2V, max2V, TY, Option.isSome_some, Bool.true_and, Bool.and_true, Nat.mul_one, Int.toNat_natCast, le0n, Flat.val, Int.reduceToNat, Int.reduceLE, Int.reduceLT, Int.cast_ofNat_Int, decide_true, add_lit, Nat.zero_add, Nat.zero_mul, Nat.one_mul, Bool.not_true, Bool.not_false]
        refine callP (by kernel_rfl : hasBody Try.prog 50 = true) (min_any u3 x l w6 (hot6.rw_ (hle_ext hx6)) (by omega)) ?_
        rintro u4 w7 ⟨rfl, rfl⟩
        obtain ⟨mn1, mn2, mn3⟩ := foldl_min l x
        generalize l.foldl min x = m at mn1 mn2 mn3
        have hS3 := hot6.isS
        have hl3 := hot6.vlen
        simp only [CW_seq, CW_skip, CW_cond, CW_block, CW_loop, CW_reg, CW_draw, CW_exit, CW_ret, thenF_n, thenF_nK, thenF_r, thenF_x, blockF_n, blockF_nK, blockF_r, blockF_x, condF_t, condF_f, Rn_nil, Rn_ng, Rn_g, oneStep_g, os_move, os_assign, os_pick, os_bin, os_un, os_fieldAddr, os_field, os_indexAddr, os_index, os_slice, os_extract, os_nilCheck, os_makeFunc, os_build, os_len, os_cap, os_convert, os_min, os_max, on_load, on_buildSlice, on_alloc, on_box, on_makeSlice, on_lookup, mn_convert, mn_bin, optP_n, on_append, on_copy, on_store, on_call, ev, updo, upd, optP_s, resP_ok, resU_ok, ↓reduceIte, Nat.reduceEqDiff, List.map_cons, List.map_nil, List.map_toArray, argU, Nat.reduceAdd, gval_slot, gslot, List.getElem?_toArray, List.getElem?_cons_zero, List.getElem?_cons_succ, Option.bind_some, Option.some.injEq, reduceCtorEq, Bool.false_eq_true, Bool.true_eq_false, Option.map_some, Option.map_none, Int.toNat_zero, Option.isNone_none, Option.isNone_some, add_zero', binV, binI, unV, fieldV, extV, idxV, indexV, sliceV, lenV, capV, convV, min2V, max2V, TY, Option.isSome_some, Bool.true_and, Bool.and_true, Nat.mul_one, Int.toNat_natCast, le0n, Flat.val, Int.reduceToNat, Int.reduceLE, Int.reduceLT, Int.cast_ofNat_Int, decide_true, add_lit, Nat.zero_add, Nat.zero_mul, Nat.one_mul, Bool.not_true, Bool.not_false, hS3, hl3]
        refine loop_rule [0, 3, 4, 5, 6, 8, 60, 61] (σ := List Int × Nat) (fun s f w' => f 62 = .int .i64 s.2 ∧ s.2 ≤ (x :: l).length ∧ Own (hpOf w) w' 3 u0 s.1 ∧ Own (hpOf w) w' 4 u1 sn' ∧ Own (hpOf w) w' 3 u2 order ∧ Own (hpOf w) w' 3 u3 (x :: l) ∧ Ext w w' ∧ s.1.length = nx.length ∧
            ∀ b, okN nx.length b = true → ai s.1 b = if b ∈ (x :: l).take s.2 then m else ai pt b)
          (fun s => (x :: l).length - s.2) (pt, 0) (by decide +kernel) ?_ ?_
        · simp only [upd, ↓reduceIte, Nat.reduceEqDiff]
          exact ⟨by trivial, Nat.zero_le _, hop6, hos6, hoo6, hot6, hx6, hi.plen, fun b _ => by simp⟩
        · rintro ⟨pt2, j⟩ f2 w8 hk2 ⟨h62, hjl, hop8, hos8, hoo8, hot8, hx8, hpl2, hpt2⟩
          simp only at h62 hjl hop8 hpl2 hpt2
          simp only [List.forall_mem_cons, upd, ↓reduceIte, Nat.reduceEqDiff] at hk2
          obtain ⟨g0, g3, g4, g5, g6, g8, g60, g61, _⟩ := hk2
          rw [e0] at g0
          rw [e3] at g3
          rw [e4] at g4
          rw [e5] at g5
          rw [h6] at g6
          simp only [CW_seq, CW_skip, CW_cond, CW_block, CW_loop, CW_reg, CW_draw, CW_exit, CW_ret, thenF_n, thenF_nK, thenF_r, thenF_x, blockF_n, blockF_nK, blockF_r, blockF_x, condF_t, condF_f, Rn_nil, Rn_ng, Rn_g, oneStep_g, os_move, os_assign, os_pick, os_bin, os_un, os_fieldAddr, os_field, os_indexAddr, os_index, os_slice, os_extract, os_nilCheck, os_makeFunc, os_build, os_len, os_cap, os_convert, os_min, os_max, on_load, on_buildSlice, on_alloc, on_box, on_makeSlice, on_lookup, mn_convert, mn_bin, optP_n, on_append, on_copy, on_store, on_call, ev, updo, upd, optP_s, resP_ok, resU_ok, ↓reduceIte, Nat.reduceEqDiff, List.map_cons, List.map_nil, List.map_toArray, argU, Nat.reduceAdd, gval_slot, gslot, List.getElem?_toArray, List.getElem?_cons_zero, List.getElem?_cons_succ, Option.bind_some, Option.some.injEq, reduceCtorEq, Bool.false_eq_true, Bool.true_eq_false, Option.map_some, Option.map_none, Int.toNat_zero, Option.isNone_none, Option.isNone_some, add_zero', binV, binI, unV, fieldV, extV, idxV, indexV, sliceV, lenV, capV, convV, min2V, max2V, TY, Option.isSome_some, Bool.true_and, Bool.and_true, Nat.mul_one, Int.toNat_natCast, le0n, Flat.val, Int.reduceToNat, Int.reduceLE, Int.reduceLT, Int.cast_ofNat_Int, decide_true, add_lit, Nat.zero_add, Nat.zero_mul, Nat.one_mul, Bool.not_true, Bool.not_false, h62, g61]
          refine condF_split (fun hc2 => ?_) (fun hc2 => ?_)
          · have hj : j < (x :: l).length := by simp only [decide_eq_true_eq] at hc2; omega
            have hinj := hot8.inS hj
            have hlda := own_ld_flat (P := Try.prog) (t := 3) hot8 (List.getElem?_eq_getElem hj) tyG3
            have htk := List.take_succ_eq_append_getElem hj
            have ham : (x :: l)[j] ∈ (x :: l) := List.getElem_mem hj
            generalize (x :: l)[j] = a at hlda htk ham
            have hak : okN nx.length a = true := way_ok hg ((htd a).1 ham).1 hrk
            have hak' := okN_iff.1 hak
            have da : decide (0 ≤ a) = true := by simpa using hak'.1
            have hSp := hop8.isS
            have hinp := hop8.inS (k := a.toNat) (by omega)
            obtain ⟨w9, t1, t2, t3, t4⟩ := own_store (P := Try.prog) (t := 3) hop8 rfl (k := a.toNat) (by omega) (x := .int .i64 m) (y := m) rfl rfl (zeroT_info tyZ3).choose_spec.1 (by rw [← szT_info (zeroT_info tyZ3).choose_spec.1]; exact tyS3)
            simp only [CW_seq, CW_skip, CW_cond, CW_block, CW_loop, CW_reg, CW_draw, CW_exit, CW_ret, thenF_n, thenF_nK, thenF_r, thenF_x, blockF_n, blockF_nK, blockF_r, blockF_x, condF_t, condF_f, Rn_nil, Rn_ng, Rn_g, oneStep_g, os_move, os_assign, os_pick, os_bin, os_un, os_fieldAddr, os_field, os_indexAddr, os_index, os_slice, os_extract, os_nilCheck, os_makeFunc, os_build, os_len, os_cap, os_convert, os_min, os_max, on_load, on_buildSlice, on_alloc, on_box, on_makeSlice, on_lookup, mn_convert, mn_bin, optP_n, on_append, on_copy, on_store, on_call, ev, updo, upd, optP_s, resP_ok, resU_ok, ↓reduceIte, Nat.reduceEqDiff, List.map_cons, List.map_nil, List.map_toArray, argU, Nat.reduceAdd, gval_slot, gslot, List.getElem?_toArray, List.getElem?_cons_zero, List.getElem?_cons_succ, Option.bind_some, Option.some.injEq, reduceCtorEq, Bool.false_eq_true, Bool.true_eq_false, Option.map_some, Option.map_none, Int.toNat_zero, Option.isNone_none, Option.isNone_some, add_zero', binV, binI, unV, fieldV, extV, idxV, indexV, sliceV, lenV, capV, convV, min2V, max2V, TY, Option.isSome_some, Bool.true_and, Bool.and_true, Nat.mul_one, Int.toNat_natCast, le0n, Flat.val, Int.reduceToNat, Int.reduceLE, Int.reduceLT, Int.cast_ofNat_Int, decide_true, add_lit, Nat.zero_add, Nat.zero_mul, Nat.one_mul, Bool.not_true, Bool.not_false, h62, g60, g61, g3, g8, hS3, hinj, hlda, hSp, hinp, da, t1]
            refine ⟨(pt2.set a.toNat m, j + 1), by simp only []; omega, by simp only []; rw [i64s j (by simp at hj; omega)], by simp only []; omega, t2, hos8.apart t3 hd01.symm, hoo8.apart t3 hd02.symm, hot8.apart t3 hd0u3.symm, hop8.ext2 hx8 t3, by simp [hpl2], fun b hb => ?_⟩
            simp only []
            rw [ai_set hpl2 hak hb, htk]
            by_cases hba : b = a
            · subst hba; simp
            · rw [if_neg hba, hpt2 b hb]
              simp [hba]
          · have hge : j = (x :: l).length := by
              simp only [decide_eq_false_iff_not] at hc2; omega
            subst hge
            rw [List.take_length] at hpt2
            simp only [CW_seq, CW_skip, CW_cond, CW_block, CW_loop, CW_reg, CW_draw, CW_exit, CW_ret, thenF_n, thenF_nK, thenF_r, thenF_x, blockF_n, blockF_nK, blockF_r, blockF_x, condF_t, condF_f, Rn_nil, Rn_ng, Rn_g, oneStep_g, os_move, os_assign, os_pick, os_bin, os_un, os_fieldAddr, os_field, os_indexAddr, os_index, os_slice, os_extract, os_nilCheck, os_makeFunc, os_build, os_len, os_cap, os_convert, os_min, os_max, on_load, on_buildSlice, on_alloc, on_box, on_makeSlice, on_lookup, mn_convert, mn_bin, optP_n, on_append, on_copy, on_store, on_call, ev, updo, upd, optP_s, resP_ok, resU_ok, ↓reduceIte, Nat.reduceEqDiff, List.map_cons, List.map_nil, List.map_toArray, argU, Nat.reduceAdd, gval_slot, gslot, List.getElem?_toArray, List.getElem?_cons_zero, List.getElem?_cons_succ, Option.bind_some, Option.some.injEq, reduceCtorEq, Bool.false_eq_true, Bool.true_eq_false, Option.map_some, Option.map_none, Int.toNat_zero, Option.isNone_none, Option.isNone_some, add_zero', binV, binI, unV, fieldV, extV, idxV, indexV, sliceV, lenV, capV, convV, min2V, max2V, TY, Option.isSome_some, Bool.true_and, Bool.and_true, Nat.mul_one, Int.toNat_natCast, le0n, Flat.val, Int.reduceToNat, Int.reduceLE, Int.reduceLT, Int.cast_ofNat_Int, decide_true, add_lit, Nat.zero_add, Nat.zero_mul, Nat.one_mul, Bool.not_true, Bool.not_false, g6, hwk]
            have hmem : ∀ b, bitAt sn' b = true ↔ bitAt sn b = true ∨ Both nx r b := fun b => by
              rw [hok.mark, hsetr, htd]
              by_cases hbr : b = r
              · subst hbr; simp [Both.refl]
              · simp [hbr]
            refine ⟨(sn', pt2, k), by simp only []; omega, by trivial, by simp only []; omega, hos8, hop8, hoo8, hx8, hi.new hro (by rw [hok.len]; simp [hi.slen]) hpl2 hmem (m := m) ⟨(htd m).1 ?_, fun c hc => ?_⟩ fun b hb => ?_⟩
            · rcases mn3 with h | h
              · rw [h]; simp
              · exact List.mem_cons_of_mem _ h
            · rcases List.mem_cons.1 ((htd c).2 hc) with h | h
              · rw [h]; exact mn1
              · exact mn2 c h
            · have hbk : okN nx.length b = true := by
                have := bitAt_true hb
                rw [hok.len] at this
                simpa [hi.slen] using this
              rw [hpt2 b hbk]
              by_cases hsb : bitAt sn b = true
              · rw [if_pos hsb, if_neg]
                intro hbt
                have hrb := (htd b).1 hbt
                obtain ⟨c, hc, hcb⟩ := (hi.mark b).1 hsb
                rw [(hi.mark r).2 ⟨c, hc, hcb.trans hrb.symm⟩] at hbs
                cases hbs
              · rw [if_neg hsb, if_pos]
                rcases (hmem b).1 hb with h | h
                · exact absurd h hsb
                · exact (htd b).2 h
    · have hge : k = 0 := by simp at hc; omega
      subst hge
      simp only [CW_seq, CW_skip, CW_cond, CW_block, CW_loop, CW_reg, CW_draw, CW_exit, CW_ret, thenF_n, thenF_nK, thenF_r, thenF_x, blockF_n, blockF_nK, blockF_r, blockF_x, condF_t, condF_f, Rn_nil, Rn_ng, Rn_g, oneStep_g, os_move, os_assign, os_pick, os_bin, os_un, os_fieldAddr, os_field, os_indexAddr, os_index, os_slice, os_extract, os_nilCheck, os_makeFunc, os_build, os_len, os_cap, os_convert, os_min, os_max, on_load, on_buildSlice, on_alloc, on_box, on_makeSlice, on_lookup, mn_convert, mn_bin, optP_n, on_append, on_copy, on_store, on_call, ev, updo, upd, optP_s, resP_ok, resU_ok, ↓reduceIte, Nat.reduceEqDiff, List.map_cons, List.map_nil, List.map_toArray, argU, Nat.reduceAdd, gval_slot, gslot, List.getElem?_toArray, List.getElem?_cons_zero, List.getElem?_cons_succ, Option.bind_some, Option.some.injEq, reduceCtorEq, Bool.false_eq_true, Bool.true_eq_false, Option.map_some, Option.map_none, Int.toNat_zero, Option.isNone_none, Option.isNone_some, add_zero', binV, binI, unV, fieldV, extV, idxV, indexV, sliceV, lenV, capV, convV, min2V, max2V, TY, Option.isSome_some, Bool.true_and, Bool.and_true, Nat.mul_one, Int.toNat_natCast, le0n, Flat.val, Int.reduceToNat, Int.reduceLE, Int.reduceLT, Int.cast_ofNat_Int, decide_true, add_lit, Nat.zero_add, Nat.zero_mul, Nat.one_mul, Bool.not_true, Bool.not_false]
      refine retq1 Try.results30 ?_
      simp only [upd, ↓reduceIte, Nat.reduceEqDiff]
      obtain ⟨q1, q2⟩ := hi.fin hord
      rw [e3]
      exact ⟨⟨pt, hop, q1, q2⟩, hx⟩
end Go.Proofs.Ytldmnnloakpjlaa
