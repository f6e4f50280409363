/- Contract: graph.New. -/
import Derived.Test.YtldmnnloakpjlaaB9
set_option linter.unusedSimpArgs false
set_option linter.unusedVariables false
set_option maxRecDepth 100000
set_option linter.unnecessarySimpa false
namespace Go.Proofs.Ytldmnnloakpjlaa
open Go

theorem GoodRows.rising {n : Nat} {l : List (List Int)} (h : GoodRows n l) (hn : n ≤ 100000000) : Rising l :=
  ⟨h.le, fun x hx => Nat.le_trans (h.row_len hx) hn⟩
def nilRaw : Raw := ⟨.slice none 0 0⟩
theorem rows_nil {h : Hp} {w : World} {T T' : TypeId} {v : Value} {n : Nat} (ho : Own h w T v (List.replicate n nilRaw)) : Rows h w T T' v (List.replicate n nilRaw) (List.replicate n ([] : List Int)) := by
  have hn : ∀ (i : Nat) (u : Raw), (List.replicate n nilRaw)[i]? = some u → u = nilRaw := fun i u hu => List.eq_of_mem_replicate (List.mem_of_getElem? hu)
  refine ⟨ho, by simp, fun i u xs hu hx => ?_, fun i j u u' _ hu _ b hb => ?_, fun i u hu b hb => ?_⟩
  · rw [hn i u hu, List.eq_of_mem_replicate (List.mem_of_getElem? hx)]
    exact Own.nil _ _ _
  · rw [hn i u hu] at hb; exact absurd hb blk_nil
  · rw [hn i u hu] at hb; exact absurd hb blk_nil
theorem rblk_nil {v : Value} {n b : Nat} : rblk v (List.replicate n nilRaw) b → blk v b := by
  rintro (hb | ⟨u, hu, hb⟩)
  · exact hb
  · rw [List.eq_of_mem_replicate hu] at hb; exact absurd hb blk_nil
theorem GO.fresh {h : Hp} {w : World} {va vb : Value} {n : Nat} (hw : hle h (hpOf w)) (h1 : Own h w 37 va (List.replicate n nilRaw)) (h2 : Own h w 37 vb (List.replicate n nilRaw)) (hd : ∀ b, blk va b → ¬ blk vb b) :
    GO h (w.alloc (.cells #[va, vb] 70)) (.pointer (some ⟨w.heap.size, 0, none⟩)) (List.replicate n []) (List.replicate n []) (fun b => b = w.heap.size ∨ rblk va (List.replicate n nilRaw) b ∨ rblk vb (List.replicate n nilRaw) b) := by
  have he := Ext.alloc w (.cells #[va, vb] 70)
  refine ⟨w.heap.size, va, List.replicate n nilRaw, vb, List.replicate n nilRaw, rfl, ⟨hle_lt hw (Nat.le_refl _), heap_alloc_new w _, rows_nil (h1.ext he), rows_nil (h2.ext he), fun hb => ?_, fun hb => ?_, fun b hb hb2 => hd b (rblk_nil hb) (rblk_nil hb2)⟩, fun _ => Iff.rfl⟩
  · have := h1.lt (rblk_nil hb); omega
  · have := h2.lt (rblk_nil hb); omega
theorem build_go {va vb : Value} (h1 : isS va = true) (h2 : isS vb = true) : buildV Try.prog 70 [(0, va), (1, vb)] = some (.agg #[va, vb]) := by
  simp [buildV, tyM70, fillL, Instr.fill, isS_cells h1, isS_cells h2]

theorem growF_fold (edges : List (Int × Int)) (k : Nat) (g : List (List Int) × List (List Int)) (hk : k < edges.length) : (edges.take (k + 1)).foldl growF g = growF ((edges.take k).foldl growF g) edges[k] := foldl_take growF g edges k hk

theorem new_no (n : Int) (v : Value) (w : World) (hn : n < 0 ∨ 5000 < n) : Calls Try.prog 26 #[.int .i64 n, v] w fun e w' => ∃ u, e = .returned u ∧ (u = .pointer none ∧ w' = w) := by
  refine calls_of_CW (args := [.int .i64 n, v]) hm Try.func26 rfl (by kernel_rfl) (by show 2 ≤ _; decide +kernel) ?_
  by_cases h0 : n < 0
  · have h0' : decide (n < 0) = true := by simpa using h0
    simp only [CW_seq, CW_skip, CW_cond, CW_block, CW_loop, CW_reg, CW_draw, CW_exit, CW_ret, thenF_n, thenF_nK, thenF_r, thenF_x, blockF_n, blockF_nK, blockF_r, blockF_x, condF_t, condF_f, Rn_nil, Rn_ng, Rn_g, oneStep_g, os_move, os_assign, os_pick, os_bin, os_un, os_fieldAddr, os_field, os_indexAddr, os_index, os_slice, os_extract, os_nilCheck, os_makeFunc, os_build, os_len, os_cap, os_convert, os_min, os_max, on_load, on_buildSlice, on_alloc, on_box, on_makeSlice, on_lookup, mn_convert, mn_bin, optP_n, on_append, on_copy, on_store, on_call, ev, updo, upd, optP_s, resP_ok, resU_ok, ↓reduceIte, Nat.reduceEqDiff, List.map_cons, List.map_nil, List.map_toArray, argU, Nat.reduceAdd, gval_slot, gslot, List.getElem?_toArray, List.getElem?_cons_zero, List.getElem?_cons_succ, Option.bind_some, Option.some.injEq, reduceCtorEq, Bool.false_eq_true, Bool.true_eq_false, Option.map_some, Option.map_none, Int.toNat_zero, Option.isNone_none, Option.isNone_some, add_zero', binV, binI, unV, fieldV, extV, idxV, indexV, sliceV, lenV, capV, convV, min2V, max2V, TY, Option.isSome_some, Bool.true_and, Bool.and_true, Nat.mul_one, Int.toNat_natCast, le0n, Flat.val, Int.reduceToNat, Int.reduceLE, Int.reduceLT, Int.cast_ofNat_Int, decide_true, add_lit, Nat.zero_add, Nat.zero_mul, Nat.one_mul, Bool.not_true, Bool.not_false, h0']
    refine retq1 Try.results26 ?_
    simp only [upd, ↓reduceIte, Nat.reduceEqDiff]
    exact ⟨by trivial, by trivial⟩
  · have h0' : decide (n < 0) = false := by simpa using h0
    have h1' : decide (n > 5000) = true := by simp; omega
    simp only [CW_seq, CW_skip, CW_cond, CW_block, CW_loop, CW_reg, CW_draw, CW_exit, CW_ret, thenF_n, thenF_nK, thenF_r, thenF_x, blockF_n, blockF_nK, blockF_r, blockF_x, condF_t, condF_f, Rn_nil, Rn_ng, Rn_g, oneStep_g, os_move, os_assign, os_pick, os_bin, os_un, os_fieldAddr, os_field, os_indexAddr, os_index, os_slice, os_extract, os_nilCheck, os_makeFunc, os_build, os_len, os_cap, os_convert, os_min, os_max, on_load, on_buildSlice, on_alloc, on_box, on_makeSlice, on_lookup, mn_convert, mn_bin, optP_n, on_append, on_copy, on_store, on_call, ev, updo, upd, optP_s, resP_ok, resU_ok, ↓reduceIte, Nat.reduceEqDiff, List.map_cons, List.map_nil, List.map_toArray, argU, Nat.reduceAdd, gval_slot, gslot, List.getElem?_toArray, List.getElem?_cons_zero, List.getElem?_cons_succ, Option.bind_some, Option.some.injEq, reduceCtorEq, Bool.false_eq_true, Bool.true_eq_false, Option.map_some, Option.map_none, Int.toNat_zero, Option.isNone_none, Option.isNone_some, add_zero', binV, binI, unV, fieldV, extV, idxV, indexV, sliceV, lenV, capV, convV, min2V, max2V, TY, Option.isSome_some, Bool.true_and, Bool.and_true, Nat.mul_one, Int.toNat_natCast, le0n, Flat.val, Int.reduceToNat, Int.reduceLE, Int.reduceLT, Int.cast_ofNat_Int, decide_true, add_lit, Nat.zero_add, Nat.zero_mul, Nat.one_mul, Bool.not_true, Bool.not_false, h0', h1']
    refine retq1 Try.results26 ?_
    simp only [upd, ↓reduceIte, Nat.reduceEqDiff]
    exact ⟨by trivial, by trivial⟩

theorem new_any (n : Nat) (v : Value) (edges : List (Int × Int)) (w : World) (hn : n ≤ 5000) (hv : R (hpOf w) v edges) (hl : edges.length ≤ 1000000000000) :
    Calls Try.prog 26 #[.int .i64 n, v] w fun e w' => ∃ u, e = .returned u ∧ ((∃ M, GO (hpOf w) w' u (newF n edges).1 (newF n edges).2 M) ∧ Ext w w') := by
  refine calls_of_CW (args := [.int .i64 n, v]) hm Try.func26 rfl (by kernel_rfl) (by show 2 ≤ _; decide +kernel) ?_
  have h0' : decide ((n : Int) < 0) = false := by simp
  have h1' : decide ((n : Int) > 5000) = false := by simp; omega
  have hS := hv.isS
  have hvn := hv.vlen
  simp only [CW_seq, CW_skip, CW_cond, CW_block, CW_loop, CW_reg, CW_draw, CW_exit, CW_ret, thenF_n, thenF_nK, thenF_r, thenF_x, blockF_n, blockF_nK, blockF_r, blockF_x, condF_t, condF_f, Rn_nil, Rn_ng, Rn_g, oneStep_g, os_move, os_assign, os_pick, os_bin, os_un, os_fieldAddr, os_field, os_indexAddr, os_index, os_slice, os_extract, os_nilCheck, os_makeFunc, os_build, os_len, os_cap, os_convert, os_min, os_max, on_load, on_buildSlice, on_alloc, on_box, on_makeSlice, on_lookup, mn_convert, mn_bin, optP_n, on_append, on_copy, on_store, on_call, ev, updo, upd, optP_s, resP_ok, resU_ok, ↓reduceIte, Nat.reduceEqDiff, List.map_cons, List.map_nil, List.map_toArray, argU, Nat.reduceAdd, gval_slot, gslot, List.getElem?_toArray, List.getElem?_cons_zero, List.getElem?_cons_succ, Option.bind_some, Option.some.injEq, reduceCtorEq, Bool.false_eq_true, Bool.true_eq_false, Option.map_some, Option.map_none, Int.toNat_zero, Option.isNone_none, Option.isNone_some, add_zero', binV, binI, unV, fieldV, extV, idxV, indexV, sliceV, lenV, capV, convV, min2V, max2V, TY, Option.isSome_some, Bool.true_and, Bool.and_true, Nat.mul_one, Int.toNat_natCast, le0n, Flat.val, Int.reduceToNat, Int.reduceLE, Int.reduceLT, Int.cast_ofNat_Int, decide_true, add_lit, Nat.zero_add, Nat.zero_mul, Nat.one_mul, Bool.not_true, Bool.not_false, h0', h1']
  refine drawC [1] (fun w2 => Ext w w2) 4 (.op 0 (.op 2 (.fork [1, 3] (fun i => if i = 1 then ordL [3] else ordL [1]))))
    (fun f' w' => Own (hpOf w) w' 37 (f' 15) (List.replicate n nilRaw) ∧ Own (hpOf w) w' 37 (f' 17) (List.replicate n nilRaw) ∧ (∀ b, blk (f' 15) b → ¬ blk (f' 17) b) ∧ Ext w w') (by decide +kernel) (by decide +kernel) (Ext.drew w) ?_ ?_
  · simp only [RnF_nil, RnF_op, ordL, of_load, of_lookup, mf_convert, mf_bin, of_buildSlice, of_alloc, of_box, of_makeSlice, of_append, of_copy, of_store, of_call, List.drop_succ_cons, List.drop_zero, CW_seq, CW_skip, CW_cond, CW_block, CW_loop, CW_reg, CW_draw, CW_exit, CW_ret, thenF_n, thenF_nK, thenF_r, thenF_x, blockF_n, blockF_nK, blockF_r, blockF_x, condF_t, condF_f, Rn_nil, Rn_ng, Rn_g, oneStep_g, os_move, os_assign, os_pick, os_bin, os_un, os_fieldAddr, os_field, os_indexAddr, os_index, os_slice, os_extract, os_nilCheck, os_makeFunc, os_build, os_len, os_cap, os_convert, os_min, os_max, on_load, on_buildSlice, on_alloc, on_box, on_makeSlice, on_lookup, mn_convert, mn_bin, optP_n, on_append, on_copy, on_store, on_call, ev, updo, upd, optP_s, resP_ok, resU_ok, ↓reduceIte, Nat.reduceEqDiff, List.map_cons, List.map_nil, List.map_toArray, argU, Nat.reduceAdd, gval_slot, gslot, List.getElem?_toArray, List.getElem?_cons_zero, List.getElem?_cons_succ, Option.bind_some, Option.some.injEq, reduceCtorEq, Bool.false_eq_true, Bool.true_eq_false, Option.map_some, Option.map_none, Int.toNat_zero, Option.isNone_none, Option.isNone_some, add_zero', binV, binI, unV, fieldV, extV, idxV, indexV, sliceV, lenV, capV, convV, min2V, max2V, TY, Option.isSome_some, Bool.true_and, Bool.and_true, Nat.mul_one, Int.toNat_natCast, le0n, Flat.val, Int.reduceToNat, Int.reduceLE, Int.reduceLT, Int.cast_ofNat_Int, decide_true, add_lit, Nat.zero_add, Nat.zero_mul, Nat.one_mul, Bool.not_true, Bool.not_false]
    have hz : Rep.enc (hpOf w) (Value.slice none 0 0).cells.toList nilRaw := ⟨rfl, rfl⟩
    have two : ∀ w1, Ext w w1 → ∃ va w2 vb w3, (Instr.makeSlice 23 (.int .i64 n) (.int .i64 n)).run Try.prog w1 = .ok va w2 ∧ (Instr.makeSlice 23 (.int .i64 n) (.int .i64 n)).run Try.prog w2 = .ok vb w3 ∧
        Own (hpOf w) w3 37 va (List.replicate n nilRaw) ∧ Own (hpOf w) w3 37 vb (List.replicate n nilRaw) ∧ (∀ b, blk va b → ¬ blk vb b) ∧ Ext w w2 ∧ Ext w w3 := by
      intro w1 he
      obtain ⟨va, w2, h1, h2, h3, h4, _⟩ := mk (P := Try.prog) (w := w1) (h := hpOf w) sokL tyZ37 (α := Raw) (y := nilRaw) hz (n := n) (by omega) (by omega) (hle_ext he)
      obtain ⟨vb, w3, k1, k2, k3, k4, _⟩ := mk (P := Try.prog) (w := w2) (h := hpOf w) sokL tyZ37 (α := Raw) (y := nilRaw) hz (n := n) (by omega) (by omega) (hle_ext (he.trans h3))
      exact ⟨va, w2, vb, w3, h1, k1, h2.ext k3, k2, fun b hb hb2 => by have := k4 b hb2; have := h2.lt hb; omega, he.trans h3, (he.trans h3).trans k3⟩
    obtain ⟨va, w2, vb, w3, m1, m2, o1, o2, dj, e2, e3⟩ := two w.drew (Ext.drew w)
    refine rnF_fork (by decide +kernel) (fun i hi => ?_)
    simp only [List.mem_cons, List.not_mem_nil, or_false] at hi
    rcases hi with rfl | rfl
    · simp only [RnF_nil, RnF_op, ordL, of_load, of_lookup, mf_convert, mf_bin, of_buildSlice, of_alloc, of_box, of_makeSlice, of_append, of_copy, of_store, of_call, List.drop_succ_cons, List.drop_zero, CW_seq, CW_skip, CW_cond, CW_block, CW_loop, CW_reg, CW_draw, CW_exit, CW_ret, thenF_n, thenF_nK, thenF_r, thenF_x, blockF_n, blockF_nK, blockF_r, blockF_x, condF_t, condF_f, Rn_nil, Rn_ng, Rn_g, oneStep_g, os_move, os_assign, os_pick, os_bin, os_un, os_fieldAddr, os_field, os_indexAddr, os_index, os_slice, os_extract, os_nilCheck, os_makeFunc, os_build, os_len, os_cap, os_convert, os_min, os_max, on_load, on_buildSlice, on_alloc, on_box, on_makeSlice, on_lookup, mn_convert, mn_bin, optP_n, on_append, on_copy, on_store, on_call, ev, updo, upd, optP_s, resP_ok, resU_ok, ↓reduceIte, Nat.reduceEqDiff, List.map_cons, List.map_nil, List.map_toArray, argU, Nat.reduceAdd, gval_slot, gslot, List.getElem?_toArray, List.getElem?_cons_zero, List.getElem?_cons_succ, Option.bind_some, Option.some.injEq, reduceCtorEq, Bool.false_eq_true, Bool.true_eq_false, Option.map_some, Option.map_none, Int.toNat_zero, Option.isNone_none, Option.isNone_some, add_zero', binV, binI, unV, fieldV, extV, idxV, indexV, sliceV, lenV, capV, convV, min2V, max2V, TY, Option.isSome_some, Bool.true_and, Bool.and_true, Nat.mul_one, Int.toNat_natCast, le0n, Flat.val, Int.reduceToNat, Int.reduceLE, Int.reduceLT, Int.cast_ofNat_Int, decide_true, add_lit, Nat.zero_add, Nat.zero_mul, Nat.one_mul, Bool.not_true, Bool.not_false, m1, m2, keepS]
      exact ⟨e2, e3, o1, o2, dj, e3⟩
    · simp only [RnF_nil, RnF_op, ordL, of_load, of_lookup, mf_convert, mf_bin, of_buildSlice, of_alloc, of_box, of_makeSlice, of_append, of_copy, of_store, of_call, List.drop_succ_cons, List.drop_zero, CW_seq, CW_skip, CW_cond, CW_block, CW_loop, CW_reg, CW_draw, CW_exit, CW_ret, thenF_n, thenF_nK, thenF_r, thenF_x, blockF_n, blockF_nK, blockF_r, blockF_x, condF_t, condF_f, Rn_nil, Rn_ng, Rn_g, oneStep_g, os_move, os_assign, os_pick, os_bin, os_un, os_fieldAddr, os_field, os_indexAddr, os_index, os_slice, os_extract, os_nilCheck, os_makeFunc, os_build, os_len, os_cap, os_convert, os_min, os_max, on_load, on_buildSlice, on_alloc, on_box, on_makeSlice, on_lookup, mn_convert, mn_bin, optP_n, on_append, on_copy, on_store, on_call, ev, updo, upd, optP_s, resP_ok, resU_ok, ↓reduceIte, Nat.reduceEqDiff, List.map_cons, List.map_nil, List.map_toArray, argU, Nat.reduceAdd, gval_slot, gslot, List.getElem?_toArray, List.getElem?_cons_zero, List.getElem?_cons_succ, Option.bind_some, Option.some.injEq, reduceCtorEq, Bool.false_eq_true, Bool.true_eq_false, Option.map_some, Option.map_none, Int.toNat_zero, Option.isNone_none, Option.isNone_some, add_zero', binV, binI, unV, fieldV, extV, idxV, indexV, sliceV, lenV, capV, convV, min2V, max2V, TY, Option.isSome_some, Bool.true_and, Bool.and_true, Nat.mul_one, Int.toNat_natCast, le0n, Flat.val, Int.reduceToNat, Int.reduceLE, Int.reduceLT, Int.cast_ofNat_Int, decide_true, add_lit, Nat.zero_add, Nat.zero_mul, Nat.one_mul, Bool.not_true, Bool.not_false, m1, m2, keepS]
      exact ⟨e2, e3, o2, o1, fun b h1 h2 => dj b h2 h1, e3⟩
  · rintro f w1 hk ⟨o1, o2, dj, he⟩
    simp only [List.forall_mem_cons, upd, ↓reduceIte, Nat.reduceEqDiff] at hk
    obtain ⟨e1, _⟩ := hk
    have hS1 := o1.isS
    have hS2 := o2.isS
    have hbd := build_go hS1 hS2
    have hbox : (Instr.box 70 (.agg #[f 15, f 17])).run Try.prog w1 = .ok (.pointer (some ⟨w1.heap.size, 0, none⟩)) (w1.alloc (.cells #[f 15, f 17] 70)) := rfl
    have hgo := GO.fresh (hle_ext he) o1 o2 dj
    have he2 := he.trans (Ext.alloc w1 (.cells #[f 15, f 17] 70))
    generalize hpg : Value.pointer (some ⟨w1.heap.size, 0, none⟩) = pg at hbox hgo
    generalize w1.alloc (.cells #[f 15, f 17] 70) = w2 at hbox hgo he2
    simp only [RnF_nil, RnF_op, ordL, of_load, of_lookup, mf_convert, mf_bin, of_buildSlice, of_alloc, of_box, of_makeSlice, of_append, of_copy, of_store, of_call, List.drop_succ_cons, List.drop_zero, CW_seq, CW_skip, CW_cond, CW_block, CW_loop, CW_reg, CW_draw, CW_exit, CW_ret, thenF_n, thenF_nK, thenF_r, thenF_x, blockF_n, blockF_nK, blockF_r, blockF_x, condF_t, condF_f, Rn_nil, Rn_ng, Rn_g, oneStep_g, os_move, os_assign, os_pick, os_bin, os_un, os_fieldAddr, os_field, os_indexAddr, os_index, os_slice, os_extract, os_nilCheck, os_makeFunc, os_build, os_len, os_cap, os_convert, os_min, os_max, on_load, on_buildSlice, on_alloc, on_box, on_makeSlice, on_lookup, mn_convert, mn_bin, optP_n, on_append, on_copy, on_store, on_call, ev, updo, upd, optP_s, resP_ok, resU_ok, ↓reduceIte, Nat.reduceEqDiff, List.map_cons, List.map_nil, List.map_toArray, argU, Nat.reduceAdd, gval_slot, gslot, List.getElem?_toArray, List.getElem?_cons_zero, List.getElem?_cons_succ, Option.bind_some, Option.some.injEq, reduceCtorEq, Bool.false_eq_true, Bool.true_eq_false, Option.map_some, Option.map_none, Int.toNat_zero, Option.isNone_none, Option.isNone_some, add_zero', binV, binI, unV, fieldV, extV, idxV, indexV, sliceV, lenV, capV, convV, min2V, max2V, TY, Option.isSome_some, Bool.true_and, Bool.and_true, Nat.mul_one, Int.toNat_natCast, le0n, Flat.val, Int.reduceToNat, Int.reduceLE, Int.reduceLT, Int.cast_ofNat_Int, decide_true, add_lit, Nat.zero_add, Nat.zero_mul, Nat.one_mul, Bool.not_true, Bool.not_false, hbd, hbox, e1, hS, hvn]
    refine loop_rule [5, 20, 21] (σ := Nat) (fun k f w' => f 22 = .int .i64 k ∧ k ≤ edges.length ∧ (∃ M, GO (hpOf w) w' pg ((edges.take k).foldl growF (List.replicate n [], List.replicate n [])).1 ((edges.take k).foldl growF (List.replicate n [], List.replicate n [])).2 M) ∧ Ext w w') (fun k => edges.length - k) 0 (by decide +kernel) ?_ ?_
    · simp only [upd, ↓reduceIte, Nat.reduceEqDiff]
      exact ⟨by trivial, Nat.zero_le _, ⟨_, hgo⟩, he2⟩
    · rintro k f3 w3 hk ⟨h22, hkl, ⟨M, hg⟩, hx⟩
      simp only [List.forall_mem_cons, upd, ↓reduceIte, Nat.reduceEqDiff] at hk
      obtain ⟨g5, g20, g21, _⟩ := hk
      have hgood := ((graph_empty n).grows (edges.take k)).1
      have hstep := growF_fold edges k (List.replicate n [], List.replicate n [])
      generalize hG : (edges.take k).foldl growF (List.replicate n [], List.replicate n []) = g at hg hgood hstep
      simp only [CW_seq, CW_skip, CW_cond, CW_block, CW_loop, CW_reg, CW_draw, CW_exit, CW_ret, thenF_n, thenF_nK, thenF_r, thenF_x, blockF_n, blockF_nK, blockF_r, blockF_x, condF_t, condF_f, Rn_nil, Rn_ng, Rn_g, oneStep_g, os_move, os_assign, os_pick, os_bin, os_un, os_fieldAddr, os_field, os_indexAddr, os_index, os_slice, os_extract, os_nilCheck, os_makeFunc, os_build, os_len, os_cap, os_convert, os_min, os_max, on_load, on_buildSlice, on_alloc, on_box, on_makeSlice, on_lookup, mn_convert, mn_bin, optP_n, on_append, on_copy, on_store, on_call, ev, updo, upd, optP_s, resP_ok, resU_ok, ↓reduceIte, Nat.reduceEqDiff, List.map_cons, List.map_nil, List.map_toArray, argU, Nat.reduceAdd, gval_slot, gslot, List.getElem?_toArray, List.getElem?_cons_zero, List.getElem?_cons_succ, Option.bind_some, Option.some.injEq, reduceCtorEq, Bool.false_eq_true, Bool.true_eq_false, Option.map_some, Option.map_none, Int.toNat_zero, Option.isNone_none, Option.isNone_some, add_zero', binV, binI, unV, fieldV, extV, idxV, indexV, sliceV, lenV, capV, convV, min2V, max2V, TY, Option.isSome_some, Bool.true_and, Bool.and_true, Nat.mul_one, Int.toNat_natCast, le0n, Flat.val, Int.reduceToNat, Int.reduceLE, Int.reduceLT, Int.cast_ofNat_Int, decide_true, add_lit, Nat.zero_add, Nat.zero_mul, Nat.one_mul, Bool.not_true, Bool.not_false, h22, g20, g21]
      refine condF_split (fun hc => ?_) (fun hc => ?_)
      · have hlt : k < edges.length := by simpa using hc
        have hin := hv.inS hlt
        have hld := ldP hv (hle_ext hx) (List.getElem?_eq_getElem hlt)
        have hst := hstep hlt
        generalize edges[k] = e at hld hst
        obtain ⟨x, y⟩ := e
        simp only at hld hst
        obtain ⟨p1, p2⟩ := pairV w3 x y
        have q0 := pair0 w3 x y
        have q1 := pair1 w3 x y
        have hxe := Ext.alloc w3 (.cells #[.int .i64 x, .int .i64 y] 38)
        have hx1 := hx.trans hxe
        have hg1 := hg.mod hxe fun _ _ h => h.elim
        generalize w3.alloc (.cells #[.int .i64 x, .int .i64 y] 38) = w4 at *
        simp only [CW_seq, CW_skip, CW_cond, CW_block, CW_loop, CW_reg, CW_draw, CW_exit, CW_ret, thenF_n, thenF_nK, thenF_r, thenF_x, blockF_n, blockF_nK, blockF_r, blockF_x, condF_t, condF_f, Rn_nil, Rn_ng, Rn_g, oneStep_g, os_move, os_assign, os_pick, os_bin, os_un, os_fieldAddr, os_field, os_indexAddr, os_index, os_slice, os_extract, os_nilCheck, os_makeFunc, os_build, os_len, os_cap, os_convert, os_min, os_max, on_load, on_buildSlice, on_alloc, on_box, on_makeSlice, on_lookup, mn_convert, mn_bin, optP_n, on_append, on_copy, on_store, on_call, ev, updo, upd, optP_s, resP_ok, resU_ok, ↓reduceIte, Nat.reduceEqDiff, List.map_cons, List.map_nil, List.map_toArray, argU, Nat.reduceAdd, gval_slot, gslot, List.getElem?_toArray, List.getElem?_cons_zero, List.getElem?_cons_succ, Option.bind_some, Option.some.injEq, reduceCtorEq, Bool.false_eq_true, Bool.true_eq_false, Option.map_some, Option.map_none, Int.toNat_zero, Option.isNone_none, Option.isNone_some, add_zero', binV, binI, unV, fieldV, extV, idxV, indexV, sliceV, lenV, capV, convV, min2V, max2V, TY, Option.isSome_some, Bool.true_and, Bool.and_true, Nat.mul_one, Int.toNat_natCast, le0n, Flat.val, Int.reduceToNat, Int.reduceLE, Int.reduceLT, Int.cast_ofNat_Int, decide_true, add_lit, Nat.zero_add, Nat.zero_mul, Nat.one_mul, Bool.not_true, Bool.not_false, h22, g20, g21, g5, hin, hld, p1, p2, q0, q1]
        refine callP (by kernel_rfl : hasBody Try.prog 39 = true) (add_any (hpOf w) pg g.1 g.2 M x y w4 hg1 (hle_ext hx1) (by rw [hgood.pv.len, hgood.nx.len]) (hgood.nx.rising (by omega)) (hgood.pv.rising (by omega))) ?_
        rintro u w5 ⟨rfl, M', hg2, hm, hM'⟩
        simp only [CW_seq, CW_skip, CW_cond, CW_block, CW_loop, CW_reg, CW_draw, CW_exit, CW_ret, thenF_n, thenF_nK, thenF_r, thenF_x, blockF_n, blockF_nK, blockF_r, blockF_x, condF_t, condF_f, Rn_nil, Rn_ng, Rn_g, oneStep_g, os_move, os_assign, os_pick, os_bin, os_un, os_fieldAddr, os_field, os_indexAddr, os_index, os_slice, os_extract, os_nilCheck, os_makeFunc, os_build, os_len, os_cap, os_convert, os_min, os_max, on_load, on_buildSlice, on_alloc, on_box, on_makeSlice, on_lookup, mn_convert, mn_bin, optP_n, on_append, on_copy, on_store, on_call, ev, updo, upd, optP_s, resP_ok, resU_ok, ↓reduceIte, Nat.reduceEqDiff, List.map_cons, List.map_nil, List.map_toArray, argU, Nat.reduceAdd, gval_slot, gslot, List.getElem?_toArray, List.getElem?_cons_zero, List.getElem?_cons_succ, Option.bind_some, Option.some.injEq, reduceCtorEq, Bool.false_eq_true, Bool.true_eq_false, Option.map_some, Option.map_none, Int.toNat_zero, Option.isNone_none, Option.isNone_some, add_zero', binV, binI, unV, fieldV, extV, idxV, indexV, sliceV, lenV, capV, convV, min2V, max2V, TY, Option.isSome_some, Bool.true_and, Bool.and_true, Nat.mul_one, Int.toNat_natCast, le0n, Flat.val, Int.reduceToNat, Int.reduceLE, Int.reduceLT, Int.cast_ofNat_Int, decide_true, add_lit, Nat.zero_add, Nat.zero_mul, Nat.one_mul, Bool.not_true, Bool.not_false, h22]
        refine ⟨k + 1, by omega, by rw [i64s k (by omega)], by omega, ⟨M', ?_⟩, ?_⟩
        · rw [hst]; exact hg2
        · refine Mod.ext_of hx1 hm fun b hb => ?_
          rcases Nat.lt_or_ge b w.heap.size with hlt | hge
          · have := hg1.free b hb
            simp [hpOf, hlt] at this
          · exact hge
      · have hge : k = edges.length := by simp at hc; omega
        subst hge
        rw [List.take_length] at hG
        simp only [CW_seq, CW_skip, CW_cond, CW_block, CW_loop, CW_reg, CW_draw, CW_exit, CW_ret, thenF_n, thenF_nK, thenF_r, thenF_x, blockF_n, blockF_nK, blockF_r, blockF_x, condF_t, condF_f, Rn_nil, Rn_ng, Rn_g, oneStep_g, os_move, os_assign, os_pick, os_bin, os_un, os_fieldAddr, os_field, os_indexAddr, os_index, os_slice, os_extract, os_nilCheck, os_makeFunc, os_build, os_len, os_cap, os_convert, os_min, os_max, on_load, on_buildSlice, on_alloc, on_box, on_makeSlice, on_lookup, mn_convert, mn_bin, optP_n, on_append, on_copy, on_store, on_call, ev, updo, upd, optP_s, resP_ok, resU_ok, ↓reduceIte, Nat.reduceEqDiff, List.map_cons, List.map_nil, List.map_toArray, argU, Nat.reduceAdd, gval_slot, gslot, List.getElem?_toArray, List.getElem?_cons_zero, List.getElem?_cons_succ, Option.bind_some, Option.some.injEq, reduceCtorEq, Bool.false_eq_true, Bool.true_eq_false, Option.map_some, Option.map_none, Int.toNat_zero, Option.isNone_none, Option.isNone_some, add_zero', binV, binI, unV, fieldV, extV, idxV, indexV, sliceV, lenV, capV, convV, min2V, max2V, TY, Option.isSome_some, Bool.true_and, Bool.and_true, Nat.mul_one, Int.toNat_natCast, le0n, Flat.val, Int.reduceToNat, Int.reduceLE, Int.reduceLT, Int.cast_ofNat_Int, decide_true, add_lit, Nat.zero_add, Nat.zero_mul, Nat.one_mul, Bool.not_true, Bool.not_false, g5]
        refine retq1 Try.results26 ?_
        simp only [upd, ↓reduceIte, Nat.reduceEqDiff]
        have : newF n edges = g := hG
        rw [this]
        exact ⟨⟨M, hg⟩, hx⟩
end Go.Proofs.Ytldmnnloakpjlaa
