/- whittlerlaw14.GraphOwn: the walk. -/
import Derived.Test.YtldmnnloakpjlaaD6
set_option linter.unusedSimpArgs false
set_option linter.unusedVariables false
set_option maxRecDepth 100000
namespace Go.Proofs.Ytldmnnloakpjlaa
open Go

theorem Own.ge {α : Type} [Rep α] {w w0 : World} {T : TypeId} {v : Value} {xs : List α} (ho : Own (hpOf w0) w T v xs) {b : Nat} (hb : blk v b) : w0.heap.size ≤ b := by
  have := ho.free hb
  exact Nat.le_of_not_lt fun hlt => by simp [hpOf, hlt] at this
theorem four_get {α : Type} {a b c d x : α} {i : Nat} (h : [a, b, c, d][i]? = some x) : (i = 0 ∧ x = a) ∨ (i = 1 ∧ x = b) ∨ (i = 2 ∧ x = c) ∨ (i = 3 ∧ x = d) := by
  match i, h with
  | 0, h => simp at h; exact .inl ⟨rfl, h.symm⟩
  | 1, h => simp at h; exact .inr (.inl ⟨rfl, h.symm⟩)
  | 2, h => simp at h; exact .inr (.inr (.inl ⟨rfl, h.symm⟩))
  | 3, h => simp at h; exact .inr (.inr (.inr ⟨rfl, h.symm⟩))
  | i + 4, h => simp at h
theorem rows4 {h : Hp} {w : World} {T T' : TypeId} {v a b c d : Value} {x y z t : List Int} (ho : Own h w T v [(⟨a⟩ : Raw), ⟨b⟩, ⟨c⟩, ⟨d⟩]) (ha : Own h w T' a x) (hb : Own h w T' b y) (hc : Own h w T' c z) (hd : Own h w T' d t)
    (ab : Dj a b) (ac : Dj a c) (ad : Dj a d) (bc : Dj b c) (bd : Dj b d) (cd : Dj c d) (av : Dj a v) (bv : Dj b v) (cv : Dj c v) (dv : Dj d v) : Rows h w T T' v [⟨a⟩, ⟨b⟩, ⟨c⟩, ⟨d⟩] [x, y, z, t] := by
  refine ⟨ho, rfl, ?_, ?_, ?_⟩
  · intro i u xs hi hx
    rcases four_get hi with ⟨rfl, rfl⟩ | ⟨rfl, rfl⟩ | ⟨rfl, rfl⟩ | ⟨rfl, rfl⟩ <;> (simp at hx; subst hx; assumption)
  · intro i j u u' hij hi hj
    rcases four_get hi with ⟨rfl, rfl⟩ | ⟨rfl, rfl⟩ | ⟨rfl, rfl⟩ | ⟨rfl, rfl⟩ <;> rcases four_get hj with ⟨rfl, rfl⟩ | ⟨rfl, rfl⟩ | ⟨rfl, rfl⟩ | ⟨rfl, rfl⟩ <;>
      first | exact absurd rfl hij | assumption | exact ab.symm | exact ac.symm | exact ad.symm | exact bc.symm | exact bd.symm | exact cd.symm
  · intro i u hi
    rcases four_get hi with ⟨rfl, rfl⟩ | ⟨rfl, rfl⟩ | ⟨rfl, rfl⟩ | ⟨rfl, rfl⟩ <;> assumption
/-- One row is written. -/
theorem Rows.write {α : Type} [Rep α] {h : Hp} {w w' : World} {T T' : TypeId} {v : Value} {us : List Raw} {xss : List (List α)} (hr : Rows h w T T' v us xss) {i : Nat} {u : Raw} (hi : us[i]? = some u) {xs : List α}
    (hm : Mod (blk u.v) w w') (ho : Own h w' T' u.v xs) : Rows h w' T T' v us (xss.set i xs) := by
  have hset : us.set i ⟨u.v⟩ = us := by
    obtain ⟨hl, e⟩ := List.getElem?_eq_some_iff.1 hi
    apply List.ext_getElem (by simp)
    intro j h1 h2
    rw [List.getElem_set]
    split
    · rename_i e2; subst e2; exact e.symm
    · rfl
  have := hr.set (u' := u.v) (xs := xs) hi hm ho (fun b hb => .inl hb) (Mod.refl _) (by
    rw [hset]; exact hr.outer.mod hm fun b hb hb2 => hr.off i u hi b hb2 hb)
  rw [hset] at this
  exact this
theorem enc_raw {h : Hp} {u : Value} (hS : isS u = true) : Rep.enc h [u] (⟨u⟩ : Raw) := ⟨rfl, isS_one hS⟩

theorem GraphOwn_walk (n : Int) (v : Value) (es : List (Int × Int)) (a : Int) (w : World) (hv : R (hpOf w) v es) : Calls Try.prog 12 #[.int .i64 n, v, .int .i64 a] w fun e w' => ∃ u, e = .returned u ∧ (u = .bool true ∧ Ext w w') := by
  refine calls_of_CW (args := [.int .i64 n, v, .int .i64 a]) hm Try.func12 rfl (by kernel_rfl) (by show 3 ≤ _; decide +kernel) ?_
  simp only [CW_seq, CW_skip, CW_cond, CW_block, CW_loop, CW_reg, CW_draw, CW_exit, CW_ret, thenF_n, thenF_nK, thenF_r, thenF_x, blockF_n, blockF_nK, blockF_r, blockF_x, condF_t, condF_f, Rn_nil, Rn_ng, Rn_g, oneStep_g, os_move, os_assign, os_pick, os_bin, os_un, os_fieldAddr, os_field, os_indexAddr, os_index, os_slice, os_extract, os_nilCheck, os_makeFunc, os_build, os_len, os_cap, os_convert, os_min, os_max, on_load, on_buildSlice, on_alloc, on_box, on_makeSlice, on_lookup, mn_convert, mn_bin, optP_n, on_append, on_copy, on_store, on_call, ev, updo, upd, optP_s, resP_ok, resU_ok, ↓reduceIte, Nat.reduceEqDiff, List.map_cons, List.map_nil, List.map_toArray, argU, Nat.reduceAdd, gval_slot, gslot, List.getElem?_toArray, List.getElem?_cons_zero, List.getElem?_cons_succ, Option.bind_some, Option.some.injEq, reduceCtorEq, Bool.false_eq_true, Bool.true_eq_false, Option.map_some, Option.map_none, Int.toNat_zero, Option.isNone_none, Option.isNone_some, add_zero', binV, binI, unV, fieldV, extV, idxV, indexV, sliceV, lenV, capV, convV, min2V, max2V, TY, Option.isSome_some, Bool.true_and, Bool.and_true, Nat.mul_one, Int.toNat_natCast, le0n, Flat.val, Int.reduceToNat, Int.reduceLE, Int.reduceLT, Int.cast_ofNat_Int, decide_true, add_lit, Nat.zero_add, Nat.zero_mul, Nat.one_mul, Bool.not_true, Bool.not_false]
  refine callP (by kernel_rfl : hasBody Try.prog 24 = true) (graphed_any w) ?_
  rintro u w1 ⟨rfl, hx1⟩
  simp only [CW_seq, CW_skip, CW_cond, CW_block, CW_loop, CW_reg, CW_draw, CW_exit, CW_ret, thenF_n, thenF_nK, thenF_r, thenF_x, blockF_n, blockF_nK, blockF_r, blockF_x, condF_t, condF_f, Rn_nil, Rn_ng, Rn_g, oneStep_g, os_move, os_assign, os_pick, os_bin, os_un, os_fieldAddr, os_field, os_indexAddr, os_index, os_slice, os_extract, os_nilCheck, os_makeFunc, os_build, os_len, os_cap, os_convert, os_min, os_max, on_load, on_buildSlice, on_alloc, on_box, on_makeSlice, on_lookup, mn_convert, mn_bin, optP_n, on_append, on_copy, on_store, on_call, ev, updo, upd, optP_s, resP_ok, resU_ok, ↓reduceIte, Nat.reduceEqDiff, List.map_cons, List.map_nil, List.map_toArray, argU, Nat.reduceAdd, gval_slot, gslot, List.getElem?_toArray, List.getElem?_cons_zero, List.getElem?_cons_succ, Option.bind_some, Option.some.injEq, reduceCtorEq, Bool.false_eq_true, Bool.true_eq_false, Option.map_some, Option.map_none, Int.toNat_zero, Option.isNone_none, Option.isNone_some, add_zero', binV, binI, unV, fieldV, extV, idxV, indexV, sliceV, lenV, capV, convV, min2V, max2V, TY, Option.isSome_some, Bool.true_and, Bool.and_true, Nat.mul_one, Int.toNat_natCast, le0n, Flat.val, Int.reduceToNat, Int.reduceLE, Int.reduceLT, Int.cast_ofNat_Int, decide_true, add_lit, Nat.zero_add, Nat.zero_mul, Nat.one_mul, Bool.not_true, Bool.not_false]
  refine callP (by kernel_rfl : hasBody Try.prog 25 = true) (drawn_any n v es w1 (Rep.mono (hle_ext hx1) hv)) ?_
  rintro u w2 ⟨⟨ue, ug, rfl, hue, hug⟩, hx2⟩
  obtain ⟨N, hN, hN14⟩ := modf_nat n 14 (by omega)
  have hN' : modf n 14 = (N : Int) := hN
  rw [hN'] at hug ⊢
  have hl40 : (es.take 40).length ≤ 40 := by rw [List.length_take]; omega
  generalize es.take 40 = fs at *
  have hue2 : R (hpOf w2) ue fs := Rep.mono (hle_ext hx2) hue
  have hug2 := hug.rw_ (hle_ext hx2)
  have hgl := goodF_len N fs
  simp only [CW_seq, CW_skip, CW_cond, CW_block, CW_loop, CW_reg, CW_draw, CW_exit, CW_ret, thenF_n, thenF_nK, thenF_r, thenF_x, blockF_n, blockF_nK, blockF_r, blockF_x, condF_t, condF_f, Rn_nil, Rn_ng, Rn_g, oneStep_g, os_move, os_assign, os_pick, os_bin, os_un, os_fieldAddr, os_field, os_indexAddr, os_index, os_slice, os_extract, os_nilCheck, os_makeFunc, os_build, os_len, os_cap, os_convert, os_min, os_max, on_load, on_buildSlice, on_alloc, on_box, on_makeSlice, on_lookup, mn_convert, mn_bin, optP_n, on_append, on_copy, on_store, on_call, ev, updo, upd, optP_s, resP_ok, resU_ok, ↓reduceIte, Nat.reduceEqDiff, List.map_cons, List.map_nil, List.map_toArray, argU, Nat.reduceAdd, gval_slot, gslot, List.getElem?_toArray, List.getElem?_cons_zero, List.getElem?_cons_succ, Option.bind_some, Option.some.injEq, reduceCtorEq, Bool.false_eq_true, Bool.true_eq_false, Option.map_some, Option.map_none, Int.toNat_zero, Option.isNone_none, Option.isNone_some, add_zero', binV, binI, unV, fieldV, extV, idxV, indexV, sliceV, lenV, capV, convV, min2V, max2V, TY, Option.isSome_some, Bool.true_and, Bool.and_true, Nat.mul_one, Int.toNat_natCast, le0n, Flat.val, Int.reduceToNat, Int.reduceLE, Int.reduceLT, Int.cast_ofNat_Int, decide_true, add_lit, Nat.zero_add, Nat.zero_mul, Nat.one_mul, Bool.not_true, Bool.not_false]
  refine callP (by kernel_rfl : hasBody Try.prog 26 = true) (new_any N ue fs w2 (by omega) hue2 (by omega)) ?_
  rintro pg w3 ⟨⟨M, hgo⟩, hx3⟩
  have hgg := newF_graph N fs
  have hgr := hgo.read (hle_ext hx3)
  have hgrow := good_row N fs
  have hgval := good_valid N fs
  have hnext := next_ends N fs a
  have hprev := prev_ends N fs a
  generalize newF N fs = G at *
  obtain ⟨nx, pv⟩ := G
  simp only at hgr hgrow hnext hprev
  obtain rfl : nx.length = N := hgg.nx.len
  have hb5 := rows1e9 hgg.nx (by omega)
  have hb7 := rows1e9 hgg.pv (by omega)
  have hpv : pv.length = nx.length := hgg.pv.len
  have hug3 : R (hpOf w3) ug (goodF nx.length fs) := Rep.mono (hle_ext hx3) hug2
  generalize goodF nx.length fs = gd at *
  simp only [CW_seq, CW_skip, CW_cond, CW_block, CW_loop, CW_reg, CW_draw, CW_exit, CW_ret, thenF_n, thenF_nK, thenF_r, thenF_x, blockF_n, blockF_nK, blockF_r, blockF_x, condF_t, condF_f, Rn_nil, Rn_ng, Rn_g, oneStep_g, os_move, os_assign, os_pick, os_bin, os_un, os_fieldAddr, os_field, os_indexAddr, os_index, os_slice, os_extract, os_nilCheck, os_makeFunc, os_build, os_len, os_cap, os_convert, os_min, os_max, on_load, on_buildSlice, on_alloc, on_box, on_makeSlice, on_lookup, mn_convert, mn_bin, optP_n, on_append, on_copy, on_store, on_call, ev, updo, upd, optP_s, resP_ok, resU_ok, ↓reduceIte, Nat.reduceEqDiff, List.map_cons, List.map_nil, List.map_toArray, argU, Nat.reduceAdd, gval_slot, gslot, List.getElem?_toArray, List.getElem?_cons_zero, List.getElem?_cons_succ, Option.bind_some, Option.some.injEq, reduceCtorEq, Bool.false_eq_true, Bool.true_eq_false, Option.map_some, Option.map_none, Int.toNat_zero, Option.isNone_none, Option.isNone_some, add_zero', binV, binI, unV, fieldV, extV, idxV, indexV, sliceV, lenV, capV, convV, min2V, max2V, TY, Option.isSome_some, Bool.true_and, Bool.and_true, Nat.mul_one, Int.toNat_natCast, le0n, Flat.val, Int.reduceToNat, Int.reduceLE, Int.reduceLT, Int.cast_ofNat_Int, decide_true, add_lit, Nat.zero_add, Nat.zero_mul, Nat.one_mul, Bool.not_true, Bool.not_false]
  refine callP (by kernel_rfl : hasBody Try.prog 33 = true) (Next_any pg _ _ a w3 hgr hpv hb5) ?_
  rintro u1 w4 ⟨ho1, hx4⟩
  have hgr4 := hgr.mono (hle_ext hx4)
  simp only [CW_seq, CW_skip, CW_cond, CW_block, CW_loop, CW_reg, CW_draw, CW_exit, CW_ret, thenF_n, thenF_nK, thenF_r, thenF_x, blockF_n, blockF_nK, blockF_r, blockF_x, condF_t, condF_f, Rn_nil, Rn_ng, Rn_g, oneStep_g, os_move, os_assign, os_pick, os_bin, os_un, os_fieldAddr, os_field, os_indexAddr, os_index, os_slice, os_extract, os_nilCheck, os_makeFunc, os_build, os_len, os_cap, os_convert, os_min, os_max, on_load, on_buildSlice, on_alloc, on_box, on_makeSlice, on_lookup, mn_convert, mn_bin, optP_n, on_append, on_copy, on_store, on_call, ev, updo, upd, optP_s, resP_ok, resU_ok, ↓reduceIte, Nat.reduceEqDiff, List.map_cons, List.map_nil, List.map_toArray, argU, Nat.reduceAdd, gval_slot, gslot, List.getElem?_toArray, List.getElem?_cons_zero, List.getElem?_cons_succ, Option.bind_some, Option.some.injEq, reduceCtorEq, Bool.false_eq_true, Bool.true_eq_false, Option.map_some, Option.map_none, Int.toNat_zero, Option.isNone_none, Option.isNone_some, add_zero', binV, binI, unV, fieldV, extV, idxV, indexV, sliceV, lenV, capV, convV, min2V, max2V, TY, Option.isSome_some, Bool.true_and, Bool.and_true, Nat.mul_one, Int.toNat_natCast, le0n, Flat.val, Int.reduceToNat, Int.reduceLE, Int.reduceLT, Int.cast_ofNat_Int, decide_true, add_lit, Nat.zero_add, Nat.zero_mul, Nat.one_mul, Bool.not_true, Bool.not_false]
  refine callP (by kernel_rfl : hasBody Try.prog 35 = true) (Prev_any pg _ _ a w4 hgr4 hpv hb7) ?_
  rintro u2 w5 ⟨ho2, hx5⟩
  have hgr5 := hgr4.mono (hle_ext hx5)
  obtain ⟨vt, w6, hlit, hot, hxt, hft⟩ := lit (P := Try.prog) (w := w5) (h := hpOf w5) (α := Int) (xs := [.int .i64 a]) (ys := [a]) (parts := #[(0, .int .i64 a)]) (n := 1) sokI rfl (encs_ints.2 rfl) (by simp [Value.cells]) rfl rfl (by simp) (by simp) (hle_refl _)
  have hgr6 := hgr5.mono (hle_ext hxt)
  simp only [CW_seq, CW_skip, CW_cond, CW_block, CW_loop, CW_reg, CW_draw, CW_exit, CW_ret, thenF_n, thenF_nK, thenF_r, thenF_x, blockF_n, blockF_nK, blockF_r, blockF_x, condF_t, condF_f, Rn_nil, Rn_ng, Rn_g, oneStep_g, os_move, os_assign, os_pick, os_bin, os_un, os_fieldAddr, os_field, os_indexAddr, os_index, os_slice, os_extract, os_nilCheck, os_makeFunc, os_build, os_len, os_cap, os_convert, os_min, os_max, on_load, on_buildSlice, on_alloc, on_box, on_makeSlice, on_lookup, mn_convert, mn_bin, optP_n, on_append, on_copy, on_store, on_call, ev, updo, upd, optP_s, resP_ok, resU_ok, ↓reduceIte, Nat.reduceEqDiff, List.map_cons, List.map_nil, List.map_toArray, argU, Nat.reduceAdd, gval_slot, gslot, List.getElem?_toArray, List.getElem?_cons_zero, List.getElem?_cons_succ, Option.bind_some, Option.some.injEq, reduceCtorEq, Bool.false_eq_true, Bool.true_eq_false, Option.map_some, Option.map_none, Int.toNat_zero, Option.isNone_none, Option.isNone_some, add_zero', binV, binI, unV, fieldV, extV, idxV, indexV, sliceV, lenV, capV, convV, min2V, max2V, TY, Option.isSome_some, Bool.true_and, Bool.and_true, Nat.mul_one, Int.toNat_natCast, le0n, Flat.val, Int.reduceToNat, Int.reduceLE, Int.reduceLT, Int.cast_ofNat_Int, decide_true, add_lit, Nat.zero_add, Nat.zero_mul, Nat.one_mul, Bool.not_true, Bool.not_false, hlit]
  refine callP (by kernel_rfl : hasBody Try.prog 27 = true) (Reach_any pg nx pv vt [a] w6 hgr6 hgg.nx (by omega) (hot.rw_ (hle_ext hxt)) (by simp)) ?_
  rintro u3 w7 ⟨⟨r, ho3, hset⟩, hx7⟩
  have hrl := hset.len hgg.nx
  have hgr7 := hgr6.mono (hle_ext hx7)
  simp only [CW_seq, CW_skip, CW_cond, CW_block, CW_loop, CW_reg, CW_draw, CW_exit, CW_ret, thenF_n, thenF_nK, thenF_r, thenF_x, blockF_n, blockF_nK, blockF_r, blockF_x, condF_t, condF_f, Rn_nil, Rn_ng, Rn_g, oneStep_g, os_move, os_assign, os_pick, os_bin, os_un, os_fieldAddr, os_field, os_indexAddr, os_index, os_slice, os_extract, os_nilCheck, os_makeFunc, os_build, os_len, os_cap, os_convert, os_min, os_max, on_load, on_buildSlice, on_alloc, on_box, on_makeSlice, on_lookup, mn_convert, mn_bin, optP_n, on_append, on_copy, on_store, on_call, ev, updo, upd, optP_s, resP_ok, resU_ok, ↓reduceIte, Nat.reduceEqDiff, List.map_cons, List.map_nil, List.map_toArray, argU, Nat.reduceAdd, gval_slot, gslot, List.getElem?_toArray, List.getElem?_cons_zero, List.getElem?_cons_succ, Option.bind_some, Option.some.injEq, reduceCtorEq, Bool.false_eq_true, Bool.true_eq_false, Option.map_some, Option.map_none, Int.toNat_zero, Option.isNone_none, Option.isNone_some, add_zero', binV, binI, unV, fieldV, extV, idxV, indexV, sliceV, lenV, capV, convV, min2V, max2V, TY, Option.isSome_some, Bool.true_and, Bool.and_true, Nat.mul_one, Int.toNat_natCast, le0n, Flat.val, Int.reduceToNat, Int.reduceLE, Int.reduceLT, Int.cast_ofNat_Int, decide_true, add_lit, Nat.zero_add, Nat.zero_mul, Nat.one_mul, Bool.not_true, Bool.not_false]
  refine callP (by kernel_rfl : hasBody Try.prog 30 = true) (Parts_any pg nx pv w7 hgr7 hgg (by omega)) ?_
  rintro u4 w8 ⟨⟨p, ho4, hpl, hpp⟩, hx8⟩
  have hx34 := hx4
  have hx35 := hx34.trans hx5
  have hx36 := hx35.trans hxt
  have hx37 := hx36.trans hx7
  have hx38 := hx37.trans hx8
  have S1 := ho1.isS
  have S2 := ho2.isS
  have S3 := ho3.isS
  have S4 := ho4.isS
  have henc : encs (hpOf w3) (([u1, u2, u3, u4] : List Value).flatMap (·.cells.toList)) [(⟨u1⟩ : Raw), ⟨u2⟩, ⟨u3⟩, ⟨u4⟩] := by
    simp only [List.flatMap_cons, List.flatMap_nil, isS_cells S1, isS_cells S2, isS_cells S3, isS_cells S4]
    exact ⟨[u1], _, rfl, enc_raw S1, [u2], _, rfl, enc_raw S2, [u3], _, rfl, enc_raw S3, [u4], [], rfl, enc_raw S4, rfl⟩
  obtain ⟨vo, w9, hlo, hoo, hxo, hfo⟩ := lit (P := Try.prog) (w := w8) (h := hpOf w3) (α := Raw) (xs := [u1, u2, u3, u4]) (ys := [⟨u1⟩, ⟨u2⟩, ⟨u3⟩, ⟨u4⟩]) (parts := #[(0, u1), (1, u2), (2, u3), (3, u4)]) (n := 4) sokL rfl
    henc
    (by simp [isS_cells S1, isS_cells S2, isS_cells S3, isS_cells S4]) rfl rfl (by simp) (by simp) (hle_ext hx38)
  have So := hoo.isS
  have no := hoo.vlen
  have hx39 := hx38.trans hxo
  have a1 := ho1.ext (((((hx5.trans hxt).trans hx7).trans hx8).trans hxo))
  have a2 := (ho2.back hx34).ext (((hxt.trans hx7).trans hx8).trans hxo)
  have a3 := (ho3.back hx36).ext (hx8.trans hxo)
  have a4 := (ho4.back hx37).ext hxo
  have D12 : Dj u1 u2 := fun b h1 h2 => by have := ho1.lt h1; have := ho2.ge h2; omega
  have D13 : Dj u1 u3 := fun b h1 h2 => by have := ho1.lt h1; have := ho3.ge h2; have := hx5.size; have := hxt.size; omega
  have D14 : Dj u1 u4 := fun b h1 h2 => by have := ho1.lt h1; have := ho4.ge h2; have := hx5.size; have := hxt.size; have := hx7.size; omega
  have D23 : Dj u2 u3 := fun b h1 h2 => by have := ho2.lt h1; have := ho3.ge h2; have := hxt.size; omega
  have D24 : Dj u2 u4 := fun b h1 h2 => by have := ho2.lt h1; have := ho4.ge h2; have := hxt.size; have := hx7.size; omega
  have D34 : Dj u3 u4 := fun b h1 h2 => by have := ho3.lt h1; have := ho4.ge h2; omega
  have D1v : Dj u1 vo := fun b h1 h2 => by have := ho1.lt h1; have := hfo b h2; have := hx5.size; have := hxt.size; have := hx7.size; have := hx8.size; omega
  have D2v : Dj u2 vo := fun b h1 h2 => by have := ho2.lt h1; have := hfo b h2; have := hxt.size; have := hx7.size; have := hx8.size; omega
  have D3v : Dj u3 vo := fun b h1 h2 => by have := ho3.lt h1; have := hfo b h2; have := hx8.size; omega
  have D4v : Dj u4 vo := fun b h1 h2 => by have := ho4.lt h1; have := hfo b h2; omega
  have hrows := rows4 hoo a1 a2 a3 a4 D12 D13 D14 D23 D24 D34 D1v D2v D3v D4v
  have hlens : ∀ (i : Nat) (xs : List Int), [rowF nx a, rowF pv a, r, p][i]? = some xs → xs.length ≤ 100000 := by
    intro i xs hi
    have h1 := hgg.nx.rowlen a
    have h2 := hgg.pv.rowlen a
    simp only at h1 h2
    rcases four_get hi with ⟨_, rfl⟩ | ⟨_, rfl⟩ | ⟨_, rfl⟩ | ⟨_, rfl⟩ <;> omega
  generalize hus : ([⟨u1⟩, ⟨u2⟩, ⟨u3⟩, ⟨u4⟩] : List Raw) = us at *
  have husl : us.length = 4 := by rw [← hus]; rfl
  generalize ([rowF nx a, rowF pv a, r, p] : List (List Int)) = xss0 at *
  rw [husl] at no
  simp only [CW_seq, CW_skip, CW_cond, CW_block, CW_loop, CW_reg, CW_draw, CW_exit, CW_ret, thenF_n, thenF_nK, thenF_r, thenF_x, blockF_n, blockF_nK, blockF_r, blockF_x, condF_t, condF_f, Rn_nil, Rn_ng, Rn_g, oneStep_g, os_move, os_assign, os_pick, os_bin, os_un, os_fieldAddr, os_field, os_indexAddr, os_index, os_slice, os_extract, os_nilCheck, os_makeFunc, os_build, os_len, os_cap, os_convert, os_min, os_max, on_load, on_buildSlice, on_alloc, on_box, on_makeSlice, on_lookup, mn_convert, mn_bin, optP_n, on_append, on_copy, on_store, on_call, ev, updo, upd, optP_s, resP_ok, resU_ok, ↓reduceIte, Nat.reduceEqDiff, List.map_cons, List.map_nil, List.map_toArray, argU, Nat.reduceAdd, gval_slot, gslot, List.getElem?_toArray, List.getElem?_cons_zero, List.getElem?_cons_succ, Option.bind_some, Option.some.injEq, reduceCtorEq, Bool.false_eq_true, Bool.true_eq_false, Option.map_some, Option.map_none, Int.toNat_zero, Option.isNone_none, Option.isNone_some, add_zero', binV, binI, unV, fieldV, extV, idxV, indexV, sliceV, lenV, capV, convV, min2V, max2V, TY, Option.isSome_some, Bool.true_and, Bool.and_true, Nat.mul_one, Int.toNat_natCast, le0n, Flat.val, Int.reduceToNat, Int.reduceLE, Int.reduceLT, Int.cast_ofNat_Int, decide_true, add_lit, Nat.zero_add, Nat.zero_mul, Nat.one_mul, Bool.not_true, Bool.not_false, hlo, So, no]
  refine loop_rule [0, 2, 7, 8, 36, 37] (σ := Nat) (fun i f w' => f 38 = .int .i64 i ∧ i ≤ 4 ∧ (∃ xss, Rows (hpOf w3) w' 37 3 vo us xss ∧ ∀ (i : Nat) (xs : List Int), xss[i]? = some xs → xs.length ≤ 100000) ∧ Ext w3 w') (fun i => 4 - i) 0 (by decide +kernel) ?_ ?_
  · simp only [upd, ↓reduceIte, Nat.reduceEqDiff]
    exact ⟨rfl, Nat.zero_le _, ⟨_, hrows, hlens⟩, hx39⟩
  · rintro i f w' hk ⟨h38, hil, ⟨xss, hrows, hlens⟩, hx⟩
    simp only [List.forall_mem_cons, upd, ↓reduceIte, Nat.reduceEqDiff] at hk
    obtain ⟨e0, e2, e7, e8, e36, e37, _⟩ := hk
    simp only [CW_seq, CW_skip, CW_cond, CW_block, CW_loop, CW_reg, CW_draw, CW_exit, CW_ret, thenF_n, thenF_nK, thenF_r, thenF_x, blockF_n, blockF_nK, blockF_r, blockF_x, condF_t, condF_f, Rn_nil, Rn_ng, Rn_g, oneStep_g, os_move, os_assign, os_pick, os_bin, os_un, os_fieldAddr, os_field, os_indexAddr, os_index, os_slice, os_extract, os_nilCheck, os_makeFunc, os_build, os_len, os_cap, os_convert, os_min, os_max, on_load, on_buildSlice, on_alloc, on_box, on_makeSlice, on_lookup, mn_convert, mn_bin, optP_n, on_append, on_copy, on_store, on_call, ev, updo, upd, optP_s, resP_ok, resU_ok, ↓reduceIte, Nat.reduceEqDiff, List.map_cons, List.map_nil, List.map_toArray, argU, Nat.reduceAdd, gval_slot, gslot, List.getElem?_toArray, List.getElem?_cons_zero, List.getElem?_cons_succ, Option.bind_some, Option.some.injEq, reduceCtorEq, Bool.false_eq_true, Bool.true_eq_false, Option.map_some, Option.map_none, Int.toNat_zero, Option.isNone_none, Option.isNone_some, add_zero', binV, binI, unV, fieldV, extV, idxV, indexV, sliceV, lenV, capV, convV, min2V, max2V, TY, Option.isSome_some, Bool.true_and, Bool.and_true, Nat.mul_one, Int.toNat_natCast, le0n, Flat.val, Int.reduceToNat, Int.reduceLE, Int.reduceLT, Int.cast_ofNat_Int, decide_true, add_lit, Nat.zero_add, Nat.zero_mul, Nat.one_mul, Bool.not_true, Bool.not_false, h38, e37]
    refine condF_split (fun hc => ?_) (fun hc => ?_)
    · have hlt : i < 4 := by simp at hc; omega
      have hui : us[i]? = some (us[i]'(by omega)) := List.getElem?_eq_getElem _
      generalize us[i]'(by omega) = ui at hui
      have hxl := hrows.len
      have hxi : xss[i]? = some (xss[i]'(by omega)) := List.getElem?_eq_getElem _
      generalize xss[i]'(by omega) = xi at hxi
      have hin := hrows.outer.inS (k := i) (by omega)
      have hld := rows_ld (P := Try.prog) (t := 37) hrows hui tyG37
      have hoi := hrows.row i ui xi hui hxi
      have Si := hoi.isS
      have ni := hoi.vlen
      have hxil := hlens i xi hxi
      simp only [CW_seq, CW_skip, CW_cond, CW_block, CW_loop, CW_reg, CW_draw, CW_exit, CW_ret, thenF_n, thenF_nK, thenF_r, thenF_x, blockF_n, blockF_nK, blockF_r, blockF_x, condF_t, condF_f, Rn_nil, Rn_ng, Rn_g, oneStep_g, os_move, os_assign, os_pick, os_bin, os_un, os_fieldAddr, os_field, os_indexAddr, os_index, os_slice, os_extract, os_nilCheck, os_makeFunc, os_build, os_len, os_cap, os_convert, os_min, os_max, on_load, on_buildSlice, on_alloc, on_box, on_makeSlice, on_lookup, mn_convert, mn_bin, optP_n, on_append, on_copy, on_store, on_call, ev, updo, upd, optP_s, resP_ok, resU_ok, ↓reduceIte, Nat.reduceEqDiff, List.map_cons, List.map_nil, List.map_toArray, argU, Nat.reduceAdd, gval_slot, gslot, List.getElem?_toArray, List.getElem?_cons_zero, List.getElem?_cons_succ, Option.bind_some, Option.some.injEq, reduceCtorEq, Bool.false_eq_true, Bool.true_eq_false, Option.map_some, Option.map_none, Int.toNat_zero, Option.isNone_none, Option.isNone_some, add_zero', binV, binI, unV, fieldV, extV, idxV, indexV, sliceV, lenV, capV, convV, min2V, max2V, TY, Option.isSome_some, Bool.true_and, Bool.and_true, Nat.mul_one, Int.toNat_natCast, le0n, Flat.val, Int.reduceToNat, Int.reduceLE, Int.reduceLT, Int.cast_ofNat_Int, decide_true, add_lit, Nat.zero_add, Nat.zero_mul, Nat.one_mul, Bool.not_true, Bool.not_false, h38, e36, hin, hld, Si, ni]
      refine loop_rule [0, 2, 7, 8, 10, 36, 37, 38, 43] (σ := Nat) (fun k f w' => f 44 = .int .i64 k ∧ k ≤ xi.length ∧ (∃ xss, Rows (hpOf w3) w' 37 3 vo us xss ∧ (∀ (i : Nat) (xs : List Int), xss[i]? = some xs → xs.length ≤ 100000) ∧ ∃ xs, xss[i]? = some xs ∧ xs.length = xi.length) ∧ Ext w3 w') (fun k => xi.length - k) 0 (by decide +kernel) ?_ ?_
      · simp only [upd, ↓reduceIte, Nat.reduceEqDiff]
        exact ⟨rfl, Nat.zero_le _, ⟨xss, hrows, hlens, xi, hxi, rfl⟩, hx⟩
      · rintro k f w2 hk ⟨h44, hkl, ⟨ys, hrows, hlens, yi, hyi, hyl⟩, hx2⟩
        simp only [List.forall_mem_cons, upd, ↓reduceIte, Nat.reduceEqDiff] at hk
        simp only [e0, e2, e7, e8, e36, e37, h38] at hk
        obtain ⟨i0, i2, i7, i8, i10, i36, i37, i38, i43, _⟩ := hk
        simp only [CW_seq, CW_skip, CW_cond, CW_block, CW_loop, CW_reg, CW_draw, CW_exit, CW_ret, thenF_n, thenF_nK, thenF_r, thenF_x, blockF_n, blockF_nK, blockF_r, blockF_x, condF_t, condF_f, Rn_nil, Rn_ng, Rn_g, oneStep_g, os_move, os_assign, os_pick, os_bin, os_un, os_fieldAddr, os_field, os_indexAddr, os_index, os_slice, os_extract, os_nilCheck, os_makeFunc, os_build, os_len, os_cap, os_convert, os_min, os_max, on_load, on_buildSlice, on_alloc, on_box, on_makeSlice, on_lookup, mn_convert, mn_bin, optP_n, on_append, on_copy, on_store, on_call, ev, updo, upd, optP_s, resP_ok, resU_ok, ↓reduceIte, Nat.reduceEqDiff, List.map_cons, List.map_nil, List.map_toArray, argU, Nat.reduceAdd, gval_slot, gslot, List.getElem?_toArray, List.getElem?_cons_zero, List.getElem?_cons_succ, Option.bind_some, Option.some.injEq, reduceCtorEq, Bool.false_eq_true, Bool.true_eq_false, Option.map_some, Option.map_none, Int.toNat_zero, Option.isNone_none, Option.isNone_some, add_zero', binV, binI, unV, fieldV, extV, idxV, indexV, sliceV, lenV, capV, convV, min2V, max2V, TY, Option.isSome_some, Bool.true_and, Bool.and_true, Nat.mul_one, Int.toNat_natCast, le0n, Flat.val, Int.reduceToNat, Int.reduceLE, Int.reduceLT, Int.cast_ofNat_Int, decide_true, add_lit, Nat.zero_add, Nat.zero_mul, Nat.one_mul, Bool.not_true, Bool.not_false, h44, i43]
        refine condF_split (fun hc => ?_) (fun hc => ?_)
        · have hkt : k < xi.length := by simpa using hc
          have hoi := hrows.row i ui yi hui hyi
          have ik := hoi.inS (k := k) (by omega)
          obtain ⟨w4', s1, s2, s3, s4⟩ := own_store (P := Try.prog) (t := 3) hoi rfl (k := k) (by omega) (x := .int .i64 5) (y := (5 : Int)) rfl rfl (zeroT_info tyZ3).choose_spec.1 (by rw [← szT_info (zeroT_info tyZ3).choose_spec.1]; exact tyS3)
          simp only [CW_seq, CW_skip, CW_cond, CW_block, CW_loop, CW_reg, CW_draw, CW_exit, CW_ret, thenF_n, thenF_nK, thenF_r, thenF_x, blockF_n, blockF_nK, blockF_r, blockF_x, condF_t, condF_f, Rn_nil, Rn_ng, Rn_g, oneStep_g, os_move, os_assign, os_pick, os_bin, os_un, os_fieldAddr, os_field, os_indexAddr, os_index, os_slice, os_extract, os_nilCheck, os_makeFunc, os_build, os_len, os_cap, os_convert, os_min, os_max, on_load, on_buildSlice, on_alloc, on_box, on_makeSlice, on_lookup, mn_convert, mn_bin, optP_n, on_append, on_copy, on_store, on_call, ev, updo, upd, optP_s, resP_ok, resU_ok, ↓reduceIte, Nat.reduceEqDiff, List.map_cons, List.map_nil, List.map_toArray, argU, Nat.reduceAdd, gval_slot, gslot, List.getElem?_toArray, List.getElem?_cons_zero, List.getElem?_cons_succ, Option.bind_some, Option.some.injEq, reduceCtorEq, Bool.false_eq_true, Bool.true_eq_false, Option.map_some, Option.map_none, Int.toNat_zero, Option.isNone_none, Option.isNone_some, add_zero', binV, binI, unV, fieldV, extV, idxV, indexV, sliceV, lenV, capV, convV, min2V, max2V, TY, Option.isSome_some, Bool.true_and, Bool.and_true, Nat.mul_one, Int.toNat_natCast, le0n, Flat.val, Int.reduceToNat, Int.reduceLE, Int.reduceLT, Int.cast_ofNat_Int, decide_true, add_lit, Nat.zero_add, Nat.zero_mul, Nat.one_mul, Bool.not_true, Bool.not_false, h44, i10, ik, s1]
          have hil2 : i < ys.length := (List.getElem?_eq_some_iff.1 hyi).1
          refine ⟨k + 1, by omega, by rw [i64s k (by omega)], by omega, ⟨_, hrows.write hui s3 s2, fun j xs hj => ?_, _, List.getElem?_set_self hil2, by simp [hyl]⟩, hoi.ext2 hx2 s3⟩
          rw [List.getElem?_set] at hj
          split at hj
          · obtain rfl := Option.some.inj hj
            have := hlens i yi hyi
            simpa using this
          · exact hlens j xs hj
        · have hge : k = xi.length := by simp at hc; omega
          simp only [CW_seq, CW_skip, CW_cond, CW_block, CW_loop, CW_reg, CW_draw, CW_exit, CW_ret, thenF_n, thenF_nK, thenF_r, thenF_x, blockF_n, blockF_nK, blockF_r, blockF_x, condF_t, condF_f, Rn_nil, Rn_ng, Rn_g, oneStep_g, os_move, os_assign, os_pick, os_bin, os_un, os_fieldAddr, os_field, os_indexAddr, os_index, os_slice, os_extract, os_nilCheck, os_makeFunc, os_build, os_len, os_cap, os_convert, os_min, os_max, on_load, on_buildSlice, on_alloc, on_box, on_makeSlice, on_lookup, mn_convert, mn_bin, optP_n, on_append, on_copy, on_store, on_call, ev, updo, upd, optP_s, resP_ok, resU_ok, ↓reduceIte, Nat.reduceEqDiff, List.map_cons, List.map_nil, List.map_toArray, argU, Nat.reduceAdd, gval_slot, gslot, List.getElem?_toArray, List.getElem?_cons_zero, List.getElem?_cons_succ, Option.bind_some, Option.some.injEq, reduceCtorEq, Bool.false_eq_true, Bool.true_eq_false, Option.map_some, Option.map_none, Int.toNat_zero, Option.isNone_none, Option.isNone_some, add_zero', binV, binI, unV, fieldV, extV, idxV, indexV, sliceV, lenV, capV, convV, min2V, max2V, TY, Option.isSome_some, Bool.true_and, Bool.and_true, Nat.mul_one, Int.toNat_natCast, le0n, Flat.val, Int.reduceToNat, Int.reduceLE, Int.reduceLT, Int.cast_ofNat_Int, decide_true, add_lit, Nat.zero_add, Nat.zero_mul, Nat.one_mul, Bool.not_true, Bool.not_false, i38]
          refine ⟨i + 1, by omega, by rw [i64s i (by omega)], by omega, ⟨ys, hrows, hlens⟩, hx2⟩
    · have hge : i = 4 := by simp at hc; omega
      have hgr0 := hgr.mono (hle_ext hx)
      have hug0 : R (hpOf w') ug gd := Rep.mono (hle_ext hx) hug3
      obtain ⟨t, ht⟩ : ∃ t : Bool, t = true := ⟨true, rfl⟩
      simp only [CW_seq, CW_skip, CW_cond, CW_block, CW_loop, CW_reg, CW_draw, CW_exit, CW_ret, thenF_n, thenF_nK, thenF_r, thenF_x, blockF_n, blockF_nK, blockF_r, blockF_x, condF_t, condF_f, Rn_nil, Rn_ng, Rn_g, oneStep_g, os_move, os_assign, os_pick, os_bin, os_un, os_fieldAddr, os_field, os_indexAddr, os_index, os_slice, os_extract, os_nilCheck, os_makeFunc, os_build, os_len, os_cap, os_convert, os_min, os_max, on_load, on_buildSlice, on_alloc, on_box, on_makeSlice, on_lookup, mn_convert, mn_bin, optP_n, on_append, on_copy, on_store, on_call, ev, updo, upd, optP_s, resP_ok, resU_ok, ↓reduceIte, Nat.reduceEqDiff, List.map_cons, List.map_nil, List.map_toArray, argU, Nat.reduceAdd, gval_slot, gslot, List.getElem?_toArray, List.getElem?_cons_zero, List.getElem?_cons_succ, Option.bind_some, Option.some.injEq, reduceCtorEq, Bool.false_eq_true, Bool.true_eq_false, Option.map_some, Option.map_none, Int.toNat_zero, Option.isNone_none, Option.isNone_some, add_zero', binV, binI, unV, fieldV, extV, idxV, indexV, sliceV, lenV, capV, convV, min2V, max2V, TY, Option.isSome_some, Bool.true_and, Bool.and_true, Nat.mul_one, Int.toNat_natCast, le0n, Flat.val, Int.reduceToNat, Int.reduceLE, Int.reduceLT, Int.cast_ofNat_Int, decide_true, add_lit, Nat.zero_add, Nat.zero_mul, Nat.one_mul, Bool.not_true, Bool.not_false, e0, e2, e7, e8]
      refine callP (by kernel_rfl : hasBody Try.prog 33 = true) (Next_any pg _ _ a w' hgr0 hpv hb5) ?_
      rintro y1 z1 ⟨b1, x1⟩
      simp only [CW_seq, CW_skip, CW_cond, CW_block, CW_loop, CW_reg, CW_draw, CW_exit, CW_ret, thenF_n, thenF_nK, thenF_r, thenF_x, blockF_n, blockF_nK, blockF_r, blockF_x, condF_t, condF_f, Rn_nil, Rn_ng, Rn_g, oneStep_g, os_move, os_assign, os_pick, os_bin, os_un, os_fieldAddr, os_field, os_indexAddr, os_index, os_slice, os_extract, os_nilCheck, os_makeFunc, os_build, os_len, os_cap, os_convert, os_min, os_max, on_load, on_buildSlice, on_alloc, on_box, on_makeSlice, on_lookup, mn_convert, mn_bin, optP_n, on_append, on_copy, on_store, on_call, ev, updo, upd, optP_s, resP_ok, resU_ok, ↓reduceIte, Nat.reduceEqDiff, List.map_cons, List.map_nil, List.map_toArray, argU, Nat.reduceAdd, gval_slot, gslot, List.getElem?_toArray, List.getElem?_cons_zero, List.getElem?_cons_succ, Option.bind_some, Option.some.injEq, reduceCtorEq, Bool.false_eq_true, Bool.true_eq_false, Option.map_some, Option.map_none, Int.toNat_zero, Option.isNone_none, Option.isNone_some, add_zero', binV, binI, unV, fieldV, extV, idxV, indexV, sliceV, lenV, capV, convV, min2V, max2V, TY, Option.isSome_some, Bool.true_and, Bool.and_true, Nat.mul_one, Int.toNat_natCast, le0n, Flat.val, Int.reduceToNat, Int.reduceLE, Int.reduceLT, Int.cast_ofNat_Int, decide_true, add_lit, Nat.zero_add, Nat.zero_mul, Nat.one_mul, Bool.not_true, Bool.not_false, e0, e2, e7, e8, ht]
      refine callP (by kernel_rfl : hasBody Try.prog 34 = true) (ends_any ug nx.length a gd false z1 (Rep.mono (hle_ext x1) hug0) (by omega) (by omega) hgval) ?_
      rintro y2 z2 ⟨b2, x2⟩
      rw [← hnext] at b2
      simp only [CW_seq, CW_skip, CW_cond, CW_block, CW_loop, CW_reg, CW_draw, CW_exit, CW_ret, thenF_n, thenF_nK, thenF_r, thenF_x, blockF_n, blockF_nK, blockF_r, blockF_x, condF_t, condF_f, Rn_nil, Rn_ng, Rn_g, oneStep_g, os_move, os_assign, os_pick, os_bin, os_un, os_fieldAddr, os_field, os_indexAddr, os_index, os_slice, os_extract, os_nilCheck, os_makeFunc, os_build, os_len, os_cap, os_convert, os_min, os_max, on_load, on_buildSlice, on_alloc, on_box, on_makeSlice, on_lookup, mn_convert, mn_bin, optP_n, on_append, on_copy, on_store, on_call, ev, updo, upd, optP_s, resP_ok, resU_ok, ↓reduceIte, Nat.reduceEqDiff, List.map_cons, List.map_nil, List.map_toArray, argU, Nat.reduceAdd, gval_slot, gslot, List.getElem?_toArray, List.getElem?_cons_zero, List.getElem?_cons_succ, Option.bind_some, Option.some.injEq, reduceCtorEq, Bool.false_eq_true, Bool.true_eq_false, Option.map_some, Option.map_none, Int.toNat_zero, Option.isNone_none, Option.isNone_some, add_zero', binV, binI, unV, fieldV, extV, idxV, indexV, sliceV, lenV, capV, convV, min2V, max2V, TY, Option.isSome_some, Bool.true_and, Bool.and_true, Nat.mul_one, Int.toNat_natCast, le0n, Flat.val, Int.reduceToNat, Int.reduceLE, Int.reduceLT, Int.cast_ofNat_Int, decide_true, add_lit, Nat.zero_add, Nat.zero_mul, Nat.one_mul, Bool.not_true, Bool.not_false, e0, e2, e7, e8, ht]
      refine callP (by kernel_rfl : hasBody Try.prog 28 = true) (eqInts_any y1 y2 _ _ z2 (Rep.mono (hle_ext x2) (b1.rw_ (hle_ext x1))) (b2.rw_ (hle_ext x2)) (Nat.le_trans (hgg.nx.rowlen a) (by omega))) ?_
      rintro r1 z3 ⟨hr1, x3⟩
      rw [decide_eq_true rfl, ← ht] at hr1
      subst hr1
      have x03 := (x1.trans x2).trans x3
      have hgr3 := hgr0.mono (hle_ext x03)
      have hug3' : R (hpOf z3) ug gd := Rep.mono (hle_ext x03) hug0
      simp only [CW_seq, CW_skip, CW_cond, CW_block, CW_loop, CW_reg, CW_draw, CW_exit, CW_ret, thenF_n, thenF_nK, thenF_r, thenF_x, blockF_n, blockF_nK, blockF_r, blockF_x, condF_t, condF_f, Rn_nil, Rn_ng, Rn_g, oneStep_g, os_move, os_assign, os_pick, os_bin, os_un, os_fieldAddr, os_field, os_indexAddr, os_index, os_slice, os_extract, os_nilCheck, os_makeFunc, os_build, os_len, os_cap, os_convert, os_min, os_max, on_load, on_buildSlice, on_alloc, on_box, on_makeSlice, on_lookup, mn_convert, mn_bin, optP_n, on_append, on_copy, on_store, on_call, ev, updo, upd, optP_s, resP_ok, resU_ok, ↓reduceIte, Nat.reduceEqDiff, List.map_cons, List.map_nil, List.map_toArray, argU, Nat.reduceAdd, gval_slot, gslot, List.getElem?_toArray, List.getElem?_cons_zero, List.getElem?_cons_succ, Option.bind_some, Option.some.injEq, reduceCtorEq, Bool.false_eq_true, Bool.true_eq_false, Option.map_some, Option.map_none, Int.toNat_zero, Option.isNone_none, Option.isNone_some, add_zero', binV, binI, unV, fieldV, extV, idxV, indexV, sliceV, lenV, capV, convV, min2V, max2V, TY, Option.isSome_some, Bool.true_and, Bool.and_true, Nat.mul_one, Int.toNat_natCast, le0n, Flat.val, Int.reduceToNat, Int.reduceLE, Int.reduceLT, Int.cast_ofNat_Int, decide_true, add_lit, Nat.zero_add, Nat.zero_mul, Nat.one_mul, Bool.not_true, Bool.not_false, e0, e2, e7, e8, ht]
      refine callP (by kernel_rfl : hasBody Try.prog 35 = true) (Prev_any pg _ _ a z3 hgr3 hpv hb7) ?_
      rintro y3 z4 ⟨b3, x4⟩
      simp only [CW_seq, CW_skip, CW_cond, CW_block, CW_loop, CW_reg, CW_draw, CW_exit, CW_ret, thenF_n, thenF_nK, thenF_r, thenF_x, blockF_n, blockF_nK, blockF_r, blockF_x, condF_t, condF_f, Rn_nil, Rn_ng, Rn_g, oneStep_g, os_move, os_assign, os_pick, os_bin, os_un, os_fieldAddr, os_field, os_indexAddr, os_index, os_slice, os_extract, os_nilCheck, os_makeFunc, os_build, os_len, os_cap, os_convert, os_min, os_max, on_load, on_buildSlice, on_alloc, on_box, on_makeSlice, on_lookup, mn_convert, mn_bin, optP_n, on_append, on_copy, on_store, on_call, ev, updo, upd, optP_s, resP_ok, resU_ok, ↓reduceIte, Nat.reduceEqDiff, List.map_cons, List.map_nil, List.map_toArray, argU, Nat.reduceAdd, gval_slot, gslot, List.getElem?_toArray, List.getElem?_cons_zero, List.getElem?_cons_succ, Option.bind_some, Option.some.injEq, reduceCtorEq, Bool.false_eq_true, Bool.true_eq_false, Option.map_some, Option.map_none, Int.toNat_zero, Option.isNone_none, Option.isNone_some, add_zero', binV, binI, unV, fieldV, extV, idxV, indexV, sliceV, lenV, capV, convV, min2V, max2V, TY, Option.isSome_some, Bool.true_and, Bool.and_true, Nat.mul_one, Int.toNat_natCast, le0n, Flat.val, Int.reduceToNat, Int.reduceLE, Int.reduceLT, Int.cast_ofNat_Int, decide_true, add_lit, Nat.zero_add, Nat.zero_mul, Nat.one_mul, Bool.not_true, Bool.not_false, e0, e2, e7, e8, ht]
      refine callP (by kernel_rfl : hasBody Try.prog 34 = true) (ends_any ug nx.length a gd true z4 (Rep.mono (hle_ext x4) hug3') (by omega) (by omega) hgval) ?_
      rintro y4 z5 ⟨b4, x5⟩
      rw [← hprev] at b4
      simp only [CW_seq, CW_skip, CW_cond, CW_block, CW_loop, CW_reg, CW_draw, CW_exit, CW_ret, thenF_n, thenF_nK, thenF_r, thenF_x, blockF_n, blockF_nK, blockF_r, blockF_x, condF_t, condF_f, Rn_nil, Rn_ng, Rn_g, oneStep_g, os_move, os_assign, os_pick, os_bin, os_un, os_fieldAddr, os_field, os_indexAddr, os_index, os_slice, os_extract, os_nilCheck, os_makeFunc, os_build, os_len, os_cap, os_convert, os_min, os_max, on_load, on_buildSlice, on_alloc, on_box, on_makeSlice, on_lookup, mn_convert, mn_bin, optP_n, on_append, on_copy, on_store, on_call, ev, updo, upd, optP_s, resP_ok, resU_ok, ↓reduceIte, Nat.reduceEqDiff, List.map_cons, List.map_nil, List.map_toArray, argU, Nat.reduceAdd, gval_slot, gslot, List.getElem?_toArray, List.getElem?_cons_zero, List.getElem?_cons_succ, Option.bind_some, Option.some.injEq, reduceCtorEq, Bool.false_eq_true, Bool.true_eq_false, Option.map_some, Option.map_none, Int.toNat_zero, Option.isNone_none, Option.isNone_some, add_zero', binV, binI, unV, fieldV, extV, idxV, indexV, sliceV, lenV, capV, convV, min2V, max2V, TY, Option.isSome_some, Bool.true_and, Bool.and_true, Nat.mul_one, Int.toNat_natCast, le0n, Flat.val, Int.reduceToNat, Int.reduceLE, Int.reduceLT, Int.cast_ofNat_Int, decide_true, add_lit, Nat.zero_add, Nat.zero_mul, Nat.one_mul, Bool.not_true, Bool.not_false, e0, e2, e7, e8, ht]
      refine callP (by kernel_rfl : hasBody Try.prog 28 = true) (eqInts_any y3 y4 _ _ z5 (Rep.mono (hle_ext x5) (b3.rw_ (hle_ext x4))) (b4.rw_ (hle_ext x5)) (Nat.le_trans (hgg.pv.rowlen a) (by omega))) ?_
      rintro r2 z6 ⟨hr2, x6⟩
      rw [decide_eq_true rfl, ← ht] at hr2
      subst hr2
      have x36 := (x4.trans x5).trans x6
      have hgr6' := hgr3.mono (hle_ext x36)
      have hug6 : R (hpOf z6) ug gd := Rep.mono (hle_ext x36) hug3'
      simp only [CW_seq, CW_skip, CW_cond, CW_block, CW_loop, CW_reg, CW_draw, CW_exit, CW_ret, thenF_n, thenF_nK, thenF_r, thenF_x, blockF_n, blockF_nK, blockF_r, blockF_x, condF_t, condF_f, Rn_nil, Rn_ng, Rn_g, oneStep_g, os_move, os_assign, os_pick, os_bin, os_un, os_fieldAddr, os_field, os_indexAddr, os_index, os_slice, os_extract, os_nilCheck, os_makeFunc, os_build, os_len, os_cap, os_convert, os_min, os_max, on_load, on_buildSlice, on_alloc, on_box, on_makeSlice, on_lookup, mn_convert, mn_bin, optP_n, on_append, on_copy, on_store, on_call, ev, updo, upd, optP_s, resP_ok, resU_ok, ↓reduceIte, Nat.reduceEqDiff, List.map_cons, List.map_nil, List.map_toArray, argU, Nat.reduceAdd, gval_slot, gslot, List.getElem?_toArray, List.getElem?_cons_zero, List.getElem?_cons_succ, Option.bind_some, Option.some.injEq, reduceCtorEq, Bool.false_eq_true, Bool.true_eq_false, Option.map_some, Option.map_none, Int.toNat_zero, Option.isNone_none, Option.isNone_some, add_zero', binV, binI, unV, fieldV, extV, idxV, indexV, sliceV, lenV, capV, convV, min2V, max2V, TY, Option.isSome_some, Bool.true_and, Bool.and_true, Nat.mul_one, Int.toNat_natCast, le0n, Flat.val, Int.reduceToNat, Int.reduceLE, Int.reduceLT, Int.cast_ofNat_Int, decide_true, add_lit, Nat.zero_add, Nat.zero_mul, Nat.one_mul, Bool.not_true, Bool.not_false, e0, e2, e7, e8, ht]
      refine callP (by kernel_rfl : hasBody Try.prog 30 = true) (Parts_any pg nx pv z6 hgr6' hgg (by omega)) ?_
      rintro y5 z7 ⟨⟨p', b5, hpl', hpp'⟩, x7⟩
      simp only [CW_seq, CW_skip, CW_cond, CW_block, CW_loop, CW_reg, CW_draw, CW_exit, CW_ret, thenF_n, thenF_nK, thenF_r, thenF_x, blockF_n, blockF_nK, blockF_r, blockF_x, condF_t, condF_f, Rn_nil, Rn_ng, Rn_g, oneStep_g, os_move, os_assign, os_pick, os_bin, os_un, os_fieldAddr, os_field, os_indexAddr, os_index, os_slice, os_extract, os_nilCheck, os_makeFunc, os_build, os_len, os_cap, os_convert, os_min, os_max, on_load, on_buildSlice, on_alloc, on_box, on_makeSlice, on_lookup, mn_convert, mn_bin, optP_n, on_append, on_copy, on_store, on_call, ev, updo, upd, optP_s, resP_ok, resU_ok, ↓reduceIte, Nat.reduceEqDiff, List.map_cons, List.map_nil, List.map_toArray, argU, Nat.reduceAdd, gval_slot, gslot, List.getElem?_toArray, List.getElem?_cons_zero, List.getElem?_cons_succ, Option.bind_some, Option.some.injEq, reduceCtorEq, Bool.false_eq_true, Bool.true_eq_false, Option.map_some, Option.map_none, Int.toNat_zero, Option.isNone_none, Option.isNone_some, add_zero', binV, binI, unV, fieldV, extV, idxV, indexV, sliceV, lenV, capV, convV, min2V, max2V, TY, Option.isSome_some, Bool.true_and, Bool.and_true, Nat.mul_one, Int.toNat_natCast, le0n, Flat.val, Int.reduceToNat, Int.reduceLE, Int.reduceLT, Int.cast_ofNat_Int, decide_true, add_lit, Nat.zero_add, Nat.zero_mul, Nat.one_mul, Bool.not_true, Bool.not_false, e0, e2, e7, e8, ht]
      refine callP (by kernel_rfl : hasBody Try.prog 38 = true) (refParts_any nx ug gd z7 (Rep.mono (hle_ext x7) hug6) hgg.nx (by omega) (by omega) hgrow hgval) ?_
      rintro y6 z8 ⟨⟨q, b6, hql, hqq⟩, x8⟩
      have hpq : p' = q := parts_ext (fun _ _ => Iff.rfl) hpl' hql hpp' hqq
      subst hpq
      simp only [CW_seq, CW_skip, CW_cond, CW_block, CW_loop, CW_reg, CW_draw, CW_exit, CW_ret, thenF_n, thenF_nK, thenF_r, thenF_x, blockF_n, blockF_nK, blockF_r, blockF_x, condF_t, condF_f, Rn_nil, Rn_ng, Rn_g, oneStep_g, os_move, os_assign, os_pick, os_bin, os_un, os_fieldAddr, os_field, os_indexAddr, os_index, os_slice, os_extract, os_nilCheck, os_makeFunc, os_build, os_len, os_cap, os_convert, os_min, os_max, on_load, on_buildSlice, on_alloc, on_box, on_makeSlice, on_lookup, mn_convert, mn_bin, optP_n, on_append, on_copy, on_store, on_call, ev, updo, upd, optP_s, resP_ok, resU_ok, ↓reduceIte, Nat.reduceEqDiff, List.map_cons, List.map_nil, List.map_toArray, argU, Nat.reduceAdd, gval_slot, gslot, List.getElem?_toArray, List.getElem?_cons_zero, List.getElem?_cons_succ, Option.bind_some, Option.some.injEq, reduceCtorEq, Bool.false_eq_true, Bool.true_eq_false, Option.map_some, Option.map_none, Int.toNat_zero, Option.isNone_none, Option.isNone_some, add_zero', binV, binI, unV, fieldV, extV, idxV, indexV, sliceV, lenV, capV, convV, min2V, max2V, TY, Option.isSome_some, Bool.true_and, Bool.and_true, Nat.mul_one, Int.toNat_natCast, le0n, Flat.val, Int.reduceToNat, Int.reduceLE, Int.reduceLT, Int.cast_ofNat_Int, decide_true, add_lit, Nat.zero_add, Nat.zero_mul, Nat.one_mul, Bool.not_true, Bool.not_false, e0, e2, e7, e8, ht]
      refine callP (by kernel_rfl : hasBody Try.prog 28 = true) (eqInts_any y5 y6 _ _ z8 (Rep.mono (hle_ext x8) (b5.rw_ (hle_ext x7))) (b6.rw_ (hle_ext x8)) (by omega)) ?_
      rintro r3 z9 ⟨hr3, x9⟩
      rw [decide_eq_true rfl, ← ht] at hr3
      subst hr3
      simp only [CW_seq, CW_skip, CW_cond, CW_block, CW_loop, CW_reg, CW_draw, CW_exit, CW_ret, thenF_n, thenF_nK, thenF_r, thenF_x, blockF_n, blockF_nK, blockF_r, blockF_x, condF_t, condF_f, Rn_nil, Rn_ng, Rn_g, oneStep_g, os_move, os_assign, os_pick, os_bin, os_un, os_fieldAddr, os_field, os_indexAddr, os_index, os_slice, os_extract, os_nilCheck, os_makeFunc, os_build, os_len, os_cap, os_convert, os_min, os_max, on_load, on_buildSlice, on_alloc, on_box, on_makeSlice, on_lookup, mn_convert, mn_bin, optP_n, on_append, on_copy, on_store, on_call, ev, updo, upd, optP_s, resP_ok, resU_ok, ↓reduceIte, Nat.reduceEqDiff, List.map_cons, List.map_nil, List.map_toArray, argU, Nat.reduceAdd, gval_slot, gslot, List.getElem?_toArray, List.getElem?_cons_zero, List.getElem?_cons_succ, Option.bind_some, Option.some.injEq, reduceCtorEq, Bool.false_eq_true, Bool.true_eq_false, Option.map_some, Option.map_none, Int.toNat_zero, Option.isNone_none, Option.isNone_some, add_zero', binV, binI, unV, fieldV, extV, idxV, indexV, sliceV, lenV, capV, convV, min2V, max2V, TY, Option.isSome_some, Bool.true_and, Bool.and_true, Nat.mul_one, Int.toNat_natCast, le0n, Flat.val, Int.reduceToNat, Int.reduceLE, Int.reduceLT, Int.cast_ofNat_Int, decide_true, add_lit, Nat.zero_add, Nat.zero_mul, Nat.one_mul, Bool.not_true, Bool.not_false, e0, e2, e7, e8, ht]
      refine retq1 Try.results12 ?_
      simp only [upd, ↓reduceIte, Nat.reduceEqDiff]
      exact ⟨by trivial, (((((((hx1.trans hx2).trans hx3).trans hx).trans x03).trans x36).trans x7).trans x8).trans x9⟩
end Go.Proofs.Ytldmnnloakpjlaa
