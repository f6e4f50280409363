/- Contract: whittlerref14.Reach. -/
import Derived.Test.YtldmnnloakpjlaaB16
import Derived.Test.YtldmnnloakpjlaaC11
set_option linter.unusedSimpArgs false
set_option linter.unusedVariables false
set_option maxRecDepth 100000
namespace Go.Proofs.Ytldmnnloakpjlaa
open Go

theorem refReach_any (nx : List (List Int)) (v : Value) (edges : List (Int × Int)) (vf : Value) (l : List Int) (w : World) (hv : R (hpOf w) v edges) (hvf : R (hpOf w) vf l) (hn : nx.length ≤ 100000) (hle : edges.length ≤ 1000000) (hll : l.length ≤ 1000000)
    (hrow : ∀ a b, b ∈ rowF nx a ↔ (a, b) ∈ edges) (hval : ∀ e ∈ edges, validE nx.length e) :
    Calls Try.prog 37 #[.int .i64 (nx.length : Nat), v, vf] w fun e w' => ∃ u, e = .returned u ∧ ((∃ m, Own (hpOf w) w' 4 u m ∧ m.length = nx.length ∧ ∀ b, bitAt m b = true ↔ Rch nx l b) ∧ Ext w w') := by
  refine calls_of_CW (args := [.int .i64 (nx.length : Nat), v, vf]) hm Try.func37 rfl (by kernel_rfl) (by show 3 ≤ _; decide +kernel) ?_
  have hS := hv.isS
  have hvn := hv.vlen
  have hSf := hvf.isS
  have hvnf := hvf.vlen
  obtain ⟨u0, w0, hmk, ho0, hx0, hf0, _⟩ := mk (P := Try.prog) (w := w) (h := hpOf w) sokB tyZ4 (α := Bool) (y := false) rfl (n := nx.length) (by omega) (by omega) (hle_refl _)
  have hst := base_start (nx := nx) l
  have hbl := baseF_len nx.length
  simp only [CW_seq, CW_skip, CW_cond, CW_block, CW_loop, CW_reg, CW_draw, CW_exit, CW_ret, thenF_n, thenF_nK, thenF_r, thenF_x, blockF_n, blockF_nK, blockF_r, blockF_x, condF_t, condF_f, Rn_nil, Rn_ng, Rn_g, oneStep_g, os_move, os_assign, os_pick, os_bin, os_un, os_fieldAddr, os_field, os_indexAddr, os_index, os_slice, os_extract, os_nilCheck, os_makeFunc, os_build, os_len, os_cap, os_convert, os_min, os_max, on_load, on_buildSlice, on_alloc, on_box, on_makeSlice, on_lookup, mn_convert, mn_bin, optP_n, on_append, on_copy, on_store, on_call, ev, updo, upd, optP_s, resP_ok, resU_ok, ↓reduceIte, Nat.reduceEqDiff, List.map_cons, List.map_nil, List.map_toArray, argU, Nat.reduceAdd, gval_slot, gslot, List.getElem?_toArray, List.getElem?_cons_zero, List.getElem?_cons_succ, Option.bind_some, Option.some.injEq, reduceCtorEq, Bool.false_eq_true, Bool.true_eq_false, Option.map_some, Option.map_none, Int.toNat_zero, Option.isNone_none, Option.isNone_some, add_zero', binV, binI, unV, fieldV, extV, idxV, indexV, sliceV, lenV, capV, convV, min2V, max2V, TY, Option.isSome_some, Bool.true_and, Bool.and_true, Nat.mul_one, Int.toNat_natCast, le0n, Flat.val, Int.reduceToNat, Int.reduceLE, Int.reduceLT, Int.cast_ofNat_Int, decide_true, add_lit, Nat.zero_add, Nat.zero_mul, Nat.one_mul, Bool.not_true, Bool.not_false, hSf, hvnf, hmk]
  refine loop_rule [0, 1, 7, 15, 16] (σ := Nat) (fun k f w' => f 17 = .int .i64 k ∧ k ≤ l.length ∧ Own (hpOf w) w' 4 u0 ((l.take k).foldl (baseF nx.length) (List.replicate nx.length false)) ∧ Ext w w') (fun k => l.length - k) 0 (by decide +kernel) ?_ ?_
  · simp only [upd, ↓reduceIte, Nat.reduceEqDiff]
    exact ⟨rfl, Nat.zero_le _, ho0, hx0⟩
  · rintro k f w' hk ⟨h17, hkl, ho, hx⟩
    simp only [List.forall_mem_cons, upd, ↓reduceIte, Nat.reduceEqDiff] at hk
    obtain ⟨e0, e1, e7, e15, e16, _⟩ := hk
    simp only [CW_seq, CW_skip, CW_cond, CW_block, CW_loop, CW_reg, CW_draw, CW_exit, CW_ret, thenF_n, thenF_nK, thenF_r, thenF_x, blockF_n, blockF_nK, blockF_r, blockF_x, condF_t, condF_f, Rn_nil, Rn_ng, Rn_g, oneStep_g, os_move, os_assign, os_pick, os_bin, os_un, os_fieldAddr, os_field, os_indexAddr, os_index, os_slice, os_extract, os_nilCheck, os_makeFunc, os_build, os_len, os_cap, os_convert, os_min, os_max, on_load, on_buildSlice, on_alloc, on_box, on_makeSlice, on_lookup, mn_convert, mn_bin, optP_n, on_append, on_copy, on_store, on_call, ev, updo, upd, optP_s, resP_ok, resU_ok, ↓reduceIte, Nat.reduceEqDiff, List.map_cons, List.map_nil, List.map_toArray, argU, Nat.reduceAdd, gval_slot, gslot, List.getElem?_toArray, List.getElem?_cons_zero, List.getElem?_cons_succ, Option.bind_some, Option.some.injEq, reduceCtorEq, Bool.false_eq_true, Bool.true_eq_false, Option.map_some, Option.map_none, Int.toNat_zero, Option.isNone_none, Option.isNone_some, add_zero', binV, binI, unV, fieldV, extV, idxV, indexV, sliceV, lenV, capV, convV, min2V, max2V, TY, Option.isSome_some, Bool.true_and, Bool.and_true, Nat.mul_one, Int.toNat_natCast, le0n, Flat.val, Int.reduceToNat, Int.reduceLE, Int.reduceLT, Int.cast_ofNat_Int, decide_true, add_lit, Nat.zero_add, Nat.zero_mul, Nat.one_mul, Bool.not_true, Bool.not_false, h17, e16]
    refine condF_split (fun hc => ?_) (fun hc => ?_)
    · have hlt : k < l.length := by simpa using hc
      have hin := hvf.inS hlt
      have hld := ld_flat (P := Try.prog) (t := 3) hvf (hle_ext hx) (List.getElem?_eq_getElem hlt) tyG3
      have hstep := foldl_take (baseF nx.length) (List.replicate nx.length false) l k hlt
      have hlen := hbl (l.take k) (List.replicate nx.length false)
      rw [List.length_replicate] at hlen
      generalize (l.take k).foldl (baseF nx.length) (List.replicate nx.length false) = m at *
      generalize l[k] = a at *
      by_cases h0 : 0 ≤ a
      · have d0 : decide (a ≥ 0) = true := by simpa using h0
        by_cases h1 : a < nx.length
        · have d1 : decide (a < (nx.length : Int)) = true := by simpa using h1
          have d2 : decide (0 ≤ a) = true := by simpa using h0
          have hka : okN nx.length a = true := okN_iff.2 ⟨h0, h1⟩
          have hia := ho.inS (k := a.toNat) (by omega)
          obtain ⟨w2, s1, s2, s3, s4⟩ := own_store (P := Try.prog) (t := 4) ho rfl (k := a.toNat) (by omega) (x := .bool true) (y := true) rfl rfl (zeroT_info tyZ4).choose_spec.1 (by rw [← szT_info (zeroT_info tyZ4).choose_spec.1]; exact tyS4)
          simp only [CW_seq, CW_skip, CW_cond, CW_block, CW_loop, CW_reg, CW_draw, CW_exit, CW_ret, thenF_n, thenF_nK, thenF_r, thenF_x, blockF_n, blockF_nK, blockF_r, blockF_x, condF_t, condF_f, Rn_nil, Rn_ng, Rn_g, oneStep_g, os_move, os_assign, os_pick, os_bin, os_un, os_fieldAddr, os_field, os_indexAddr, os_index, os_slice, os_extract, os_nilCheck, os_makeFunc, os_build, os_len, os_cap, os_convert, os_min, os_max, on_load, on_buildSlice, on_alloc, on_box, on_makeSlice, on_lookup, mn_convert, mn_bin, optP_n, on_append, on_copy, on_store, on_call, ev, updo, upd, optP_s, resP_ok, resU_ok, ↓reduceIte, Nat.reduceEqDiff, List.map_cons, List.map_nil, List.map_toArray, argU, Nat.reduceAdd, gval_slot, gslot, List.getElem?_toArray, List.getElem?_cons_zero, List.getElem?_cons_succ, Option.bind_some, Option.some.injEq, reduceCtorEq, Bool.false_eq_true, Bool.true_eq_false, Option.map_some, Option.map_none, Int.toNat_zero, Option.isNone_none, Option.isNone_some, add_zero', binV, binI, unV, fieldV, extV, idxV, indexV, sliceV, lenV, capV, convV, min2V, max2V, TY, Option.isSome_some, Bool.true_and, Bool.and_true, Nat.mul_one, Int.toNat_natCast, le0n, Flat.val, Int.reduceToNat, Int.reduceLE, Int.reduceLT, Int.cast_ofNat_Int, decide_true, add_lit, Nat.zero_add, Nat.zero_mul, Nat.one_mul, Bool.not_true, Bool.not_false, h17, e0, e7, e15, hin, hld, d0, d1, d2, hia, s1]
          refine ⟨k + 1, by omega, by rw [i64s k (by omega)], by omega, ?_, ho.ext2 hx s3⟩
          rw [hstep]; unfold baseF; rw [if_pos hka]; exact s2
        · have d1 : decide (a < (nx.length : Int)) = false := by simpa using h1
          have hka : ¬ okN nx.length a = true := fun h => h1 (okN_iff.1 h).2
          simp only [CW_seq, CW_skip, CW_cond, CW_block, CW_loop, CW_reg, CW_draw, CW_exit, CW_ret, thenF_n, thenF_nK, thenF_r, thenF_x, blockF_n, blockF_nK, blockF_r, blockF_x, condF_t, condF_f, Rn_nil, Rn_ng, Rn_g, oneStep_g, os_move, os_assign, os_pick, os_bin, os_un, os_fieldAddr, os_field, os_indexAddr, os_index, os_slice, os_extract, os_nilCheck, os_makeFunc, os_build, os_len, os_cap, os_convert, os_min, os_max, on_load, on_buildSlice, on_alloc, on_box, on_makeSlice, on_lookup, mn_convert, mn_bin, optP_n, on_append, on_copy, on_store, on_call, ev, updo, upd, optP_s, resP_ok, resU_ok, ↓reduceIte, Nat.reduceEqDiff, List.map_cons, List.map_nil, List.map_toArray, argU, Nat.reduceAdd, gval_slot, gslot, List.getElem?_toArray, List.getElem?_cons_zero, List.getElem?_cons_succ, Option.bind_some, Option.some.injEq, reduceCtorEq, Bool.false_eq_true, Bool.true_eq_false, Option.map_some, Option.map_none, Int.toNat_zero, Option.isNone_none, Option.isNone_some, add_zero', binV, binI, unV, fieldV, extV, idxV, indexV, sliceV, lenV, capV, convV, min2V, max2V, TY, Option.isSome_some, Bool.true_and, Bool.and_true, Nat.mul_one, Int.toNat_natCast, le0n, Flat.val, Int.reduceToNat, Int.reduceLE, Int.reduceLT, Int.cast_ofNat_Int, decide_true, add_lit, Nat.zero_add, Nat.zero_mul, Nat.one_mul, Bool.not_true, Bool.not_false, h17, e0, e15, hin, hld, d0, d1]
          refine ⟨k + 1, by omega, by rw [i64s k (by omega)], by omega, ?_, hx⟩
          rw [hstep]; unfold baseF; rw [if_neg hka]; exact ho
      · have d0 : decide (a ≥ 0) = false := by simpa using h0
        have hka : ¬ okN nx.length a = true := fun h => h0 (okN_iff.1 h).1
        simp only [CW_seq, CW_skip, CW_cond, CW_block, CW_loop, CW_reg, CW_draw, CW_exit, CW_ret, thenF_n, thenF_nK, thenF_r, thenF_x, blockF_n, blockF_nK, blockF_r, blockF_x, condF_t, condF_f, Rn_nil, Rn_ng, Rn_g, oneStep_g, os_move, os_assign, os_pick, os_bin, os_un, os_fieldAddr, os_field, os_indexAddr, os_index, os_slice, os_extract, os_nilCheck, os_makeFunc, os_build, os_len, os_cap, os_convert, os_min, os_max, on_load, on_buildSlice, on_alloc, on_box, on_makeSlice, on_lookup, mn_convert, mn_bin, optP_n, on_append, on_copy, on_store, on_call, ev, updo, upd, optP_s, resP_ok, resU_ok, ↓reduceIte, Nat.reduceEqDiff, List.map_cons, List.map_nil, List.map_toArray, argU, Nat.reduceAdd, gval_slot, gslot, List.getElem?_toArray, List.getElem?_cons_zero, List.getElem?_cons_succ, Option.bind_some, Option.some.injEq, reduceCtorEq, Bool.false_eq_true, Bool.true_eq_false, Option.map_some, Option.map_none, Int.toNat_zero, Option.isNone_none, Option.isNone_some, add_zero', binV, binI, unV, fieldV, extV, idxV, indexV, sliceV, lenV, capV, convV, min2V, max2V, TY, Option.isSome_some, Bool.true_and, Bool.and_true, Nat.mul_one, Int.toNat_natCast, le0n, Flat.val, Int.reduceToNat, Int.reduceLE, Int.reduceLT, Int.cast_ofNat_Int, decide_true, add_lit, Nat.zero_add, Nat.zero_mul, Nat.one_mul, Bool.not_true, Bool.not_false, h17, e0, e15, hin, hld, d0]
        refine ⟨k + 1, by omega, by rw [i64s k (by omega)], by omega, ?_, hx⟩
        rw [hstep]; unfold baseF; rw [if_neg hka]; exact ho
    · have hge : k = l.length := by simp at hc; omega
      subst hge
      rw [List.take_length] at ho
      generalize l.foldl (baseF nx.length) (List.replicate nx.length false) = m0 at *
      simp only [CW_seq, CW_skip, CW_cond, CW_block, CW_loop, CW_reg, CW_draw, CW_exit, CW_ret, thenF_n, thenF_nK, thenF_r, thenF_x, blockF_n, blockF_nK, blockF_r, blockF_x, condF_t, condF_f, Rn_nil, Rn_ng, Rn_g, oneStep_g, os_move, os_assign, os_pick, os_bin, os_un, os_fieldAddr, os_field, os_indexAddr, os_index, os_slice, os_extract, os_nilCheck, os_makeFunc, os_build, os_len, os_cap, os_convert, os_min, os_max, on_load, on_buildSlice, on_alloc, on_box, on_makeSlice, on_lookup, mn_convert, mn_bin, optP_n, on_append, on_copy, on_store, on_call, ev, updo, upd, optP_s, resP_ok, resU_ok, ↓reduceIte, Nat.reduceEqDiff, List.map_cons, List.map_nil, List.map_toArray, argU, Nat.reduceAdd, gval_slot, gslot, List.getElem?_toArray, List.getElem?_cons_zero, List.getElem?_cons_succ, Option.bind_some, Option.some.injEq, reduceCtorEq, Bool.false_eq_true, Bool.true_eq_false, Option.map_some, Option.map_none, Int.toNat_zero, Option.isNone_none, Option.isNone_some, add_zero', binV, binI, unV, fieldV, extV, idxV, indexV, sliceV, lenV, capV, convV, min2V, max2V, TY, Option.isSome_some, Bool.true_and, Bool.and_true, Nat.mul_one, Int.toNat_natCast, le0n, Flat.val, Int.reduceToNat, Int.reduceLE, Int.reduceLT, Int.cast_ofNat_Int, decide_true, add_lit, Nat.zero_add, Nat.zero_mul, Nat.one_mul, Bool.not_true, Bool.not_false]
      refine loop_rule [1, 7] (σ := List Bool × Bool) (fun s f w' => f 10 = .bool s.2 ∧ Own (hpOf w) w' 4 u0 s.1 ∧ Ext w w' ∧ MI nx l s.1 ∧ (s.2 = false → ∀ e ∈ edges, bitAt s.1 e.1 = true → bitAt s.1 e.2 = true)) (fun s => falses s.1 * 2 + (if s.2 then 1 else 0)) (m0, true) (by decide +kernel) ?_ ?_
      · simp only [upd, ↓reduceIte, Nat.reduceEqDiff]
        exact ⟨by trivial, ho, hx, hst, by simp⟩
      · rintro ⟨m, more⟩ f w' hk ⟨h10, ho, hx, hmi, hcl⟩
        simp only [List.forall_mem_cons, upd, ↓reduceIte, Nat.reduceEqDiff] at hk
        simp only [e1, e7] at hk
        obtain ⟨i1, i7, _⟩ := hk
        simp only at h10 ho hmi hcl
        simp only [CW_seq, CW_skip, CW_cond, CW_block, CW_loop, CW_reg, CW_draw, CW_exit, CW_ret, thenF_n, thenF_nK, thenF_r, thenF_x, blockF_n, blockF_nK, blockF_r, blockF_x, condF_t, condF_f, Rn_nil, Rn_ng, Rn_g, oneStep_g, os_move, os_assign, os_pick, os_bin, os_un, os_fieldAddr, os_field, os_indexAddr, os_index, os_slice, os_extract, os_nilCheck, os_makeFunc, os_build, os_len, os_cap, os_convert, os_min, os_max, on_load, on_buildSlice, on_alloc, on_box, on_makeSlice, on_lookup, mn_convert, mn_bin, optP_n, on_append, on_copy, on_store, on_call, ev, updo, upd, optP_s, resP_ok, resU_ok, ↓reduceIte, Nat.reduceEqDiff, List.map_cons, List.map_nil, List.map_toArray, argU, Nat.reduceAdd, gval_slot, gslot, List.getElem?_toArray, List.getElem?_cons_zero, List.getElem?_cons_succ, Option.bind_some, Option.some.injEq, reduceCtorEq, Bool.false_eq_true, Bool.true_eq_false, Option.map_some, Option.map_none, Int.toNat_zero, Option.isNone_none, Option.isNone_some, add_zero', binV, binI, unV, fieldV, extV, idxV, indexV, sliceV, lenV, capV, convV, min2V, max2V, TY, Option.isSome_some, Bool.true_and, Bool.and_true, Nat.mul_one, Int.toNat_natCast, le0n, Flat.val, Int.reduceToNat, Int.reduceLE, Int.reduceLT, Int.cast_ofNat_Int, decide_true, add_lit, Nat.zero_add, Nat.zero_mul, Nat.one_mul, Bool.not_true, Bool.not_false, h10]
        cases more
        · simp only [CW_seq, CW_skip, CW_cond, CW_block, CW_loop, CW_reg, CW_draw, CW_exit, CW_ret, thenF_n, thenF_nK, thenF_r, thenF_x, blockF_n, blockF_nK, blockF_r, blockF_x, condF_t, condF_f, Rn_nil, Rn_ng, Rn_g, oneStep_g, os_move, os_assign, os_pick, os_bin, os_un, os_fieldAddr, os_field, os_indexAddr, os_index, os_slice, os_extract, os_nilCheck, os_makeFunc, os_build, os_len, os_cap, os_convert, os_min, os_max, on_load, on_buildSlice, on_alloc, on_box, on_makeSlice, on_lookup, mn_convert, mn_bin, optP_n, on_append, on_copy, on_store, on_call, ev, updo, upd, optP_s, resP_ok, resU_ok, ↓reduceIte, Nat.reduceEqDiff, List.map_cons, List.map_nil, List.map_toArray, argU, Nat.reduceAdd, gval_slot, gslot, List.getElem?_toArray, List.getElem?_cons_zero, List.getElem?_cons_succ, Option.bind_some, Option.some.injEq, reduceCtorEq, Bool.false_eq_true, Bool.true_eq_false, Option.map_some, Option.map_none, Int.toNat_zero, Option.isNone_none, Option.isNone_some, add_zero', binV, binI, unV, fieldV, extV, idxV, indexV, sliceV, lenV, capV, convV, min2V, max2V, TY, Option.isSome_some, Bool.true_and, Bool.and_true, Nat.mul_one, Int.toNat_natCast, le0n, Flat.val, Int.reduceToNat, Int.reduceLE, Int.reduceLT, Int.cast_ofNat_Int, decide_true, add_lit, Nat.zero_add, Nat.zero_mul, Nat.one_mul, Bool.not_true, Bool.not_false, i7]
          refine retq1 Try.results37 ?_
          simp only [upd, ↓reduceIte, Nat.reduceEqDiff]
          exact ⟨⟨m, ho, hmi.len, hmi.fin fun x y hy hx => hcl rfl (x, y) ((hrow x y).1 hy) hx⟩, hx⟩
        · simp only [CW_seq, CW_skip, CW_cond, CW_block, CW_loop, CW_reg, CW_draw, CW_exit, CW_ret, thenF_n, thenF_nK, thenF_r, thenF_x, blockF_n, blockF_nK, blockF_r, blockF_x, condF_t, condF_f, Rn_nil, Rn_ng, Rn_g, oneStep_g, os_move, os_assign, os_pick, os_bin, os_un, os_fieldAddr, os_field, os_indexAddr, os_index, os_slice, os_extract, os_nilCheck, os_makeFunc, os_build, os_len, os_cap, os_convert, os_min, os_max, on_load, on_buildSlice, on_alloc, on_box, on_makeSlice, on_lookup, mn_convert, mn_bin, optP_n, on_append, on_copy, on_store, on_call, ev, updo, upd, optP_s, resP_ok, resU_ok, ↓reduceIte, Nat.reduceEqDiff, List.map_cons, List.map_nil, List.map_toArray, argU, Nat.reduceAdd, gval_slot, gslot, List.getElem?_toArray, List.getElem?_cons_zero, List.getElem?_cons_succ, Option.bind_some, Option.some.injEq, reduceCtorEq, Bool.false_eq_true, Bool.true_eq_false, Option.map_some, Option.map_none, Int.toNat_zero, Option.isNone_none, Option.isNone_some, add_zero', binV, binI, unV, fieldV, extV, idxV, indexV, sliceV, lenV, capV, convV, min2V, max2V, TY, Option.isSome_some, Bool.true_and, Bool.and_true, Nat.mul_one, Int.toNat_natCast, le0n, Flat.val, Int.reduceToNat, Int.reduceLE, Int.reduceLT, Int.cast_ofNat_Int, decide_true, add_lit, Nat.zero_add, Nat.zero_mul, Nat.one_mul, Bool.not_true, Bool.not_false, i1, hS, hvn]
          refine loop_rule [1, 7, 33, 34] (σ := Nat × List Bool × Bool) (fun s f w' => f 35 = .int .i64 s.1 ∧ s.1 ≤ edges.length ∧ f 10 = .bool s.2.2 ∧ Own (hpOf w) w' 4 u0 s.2.1 ∧ Ext w w' ∧ MI nx l s.2.1 ∧ (s.2.2 = false → s.2.1 = m ∧ ∀ e ∈ edges.take s.1, bitAt m e.1 = true → bitAt m e.2 = true) ∧ (s.2.2 = true → falses s.2.1 < falses m) ∧ falses s.2.1 ≤ falses m) (fun s => edges.length - s.1) (0, m, false) (by decide +kernel) ?_ ?_
          · simp only [upd, ↓reduceIte, Nat.reduceEqDiff]
            exact ⟨by trivial, Nat.zero_le _, by trivial, ho, hx, hmi, by simp, by simp, Nat.le_refl _⟩
          · rintro ⟨k, m1, more1⟩ f w' hk ⟨h35, hkl, h10', ho1, hx1, hmi1, hcl1, hlt1, hle1⟩
            simp only [List.forall_mem_cons, upd, ↓reduceIte, Nat.reduceEqDiff] at hk
            simp only [i1, i7] at hk
            obtain ⟨j1, j7, j33, j34, _⟩ := hk
            simp only at h35 hkl h10' ho1 hmi1 hcl1 hlt1 hle1
            simp only [CW_seq, CW_skip, CW_cond, CW_block, CW_loop, CW_reg, CW_draw, CW_exit, CW_ret, thenF_n, thenF_nK, thenF_r, thenF_x, blockF_n, blockF_nK, blockF_r, blockF_x, condF_t, condF_f, Rn_nil, Rn_ng, Rn_g, oneStep_g, os_move, os_assign, os_pick, os_bin, os_un, os_fieldAddr, os_field, os_indexAddr, os_index, os_slice, os_extract, os_nilCheck, os_makeFunc, os_build, os_len, os_cap, os_convert, os_min, os_max, on_load, on_buildSlice, on_alloc, on_box, on_makeSlice, on_lookup, mn_convert, mn_bin, optP_n, on_append, on_copy, on_store, on_call, ev, updo, upd, optP_s, resP_ok, resU_ok, ↓reduceIte, Nat.reduceEqDiff, List.map_cons, List.map_nil, List.map_toArray, argU, Nat.reduceAdd, gval_slot, gslot, List.getElem?_toArray, List.getElem?_cons_zero, List.getElem?_cons_succ, Option.bind_some, Option.some.injEq, reduceCtorEq, Bool.false_eq_true, Bool.true_eq_false, Option.map_some, Option.map_none, Int.toNat_zero, Option.isNone_none, Option.isNone_some, add_zero', binV, binI, unV, fieldV, extV, idxV, indexV, sliceV, lenV, capV, convV, min2V, max2V, TY, Option.isSome_some, Bool.true_and, Bool.and_true, Nat.mul_one, Int.toNat_natCast, le0n, Flat.val, Int.reduceToNat, Int.reduceLE, Int.reduceLT, Int.cast_ofNat_Int, decide_true, add_lit, Nat.zero_add, Nat.zero_mul, Nat.one_mul, Bool.not_true, Bool.not_false, h35, j34]
            refine condF_split (fun hc => ?_) (fun hc => ?_)
            · have hlt : k < edges.length := by simpa using hc
              have hin := hv.inS hlt
              have hld := ldP hv (hle_ext hx1) (List.getElem?_eq_getElem hlt)
              have hve := hval _ (List.getElem_mem hlt)
              have hmem := (hrow edges[k].1 edges[k].2).2 (List.getElem_mem hlt)
              have htk : ∀ e, e ∈ edges.take (k + 1) ↔ e ∈ edges.take k ∨ e = edges[k] := fun e => by
                rw [List.take_succ_eq_append_getElem hlt, List.mem_append, List.mem_singleton]
              generalize edges[k] = e at hld hve hmem htk
              obtain ⟨x, y⟩ := e
              obtain ⟨v1, v2, v3, v4⟩ := hve
              simp only at v1 v2 v3 v4 hld hmem
              obtain ⟨p1, p2⟩ := pairV w' x y
              have q0 := pair0 w' x y
              have q1 := pair1 w' x y
              have hx2 := hx1.trans (Ext.alloc w' (.cells #[.int .i64 x, .int .i64 y] 38))
              have ho2 := ho1.ext (Ext.alloc w' (.cells #[.int .i64 x, .int .i64 y] 38))
              have d0 : decide (0 ≤ x) = true := by simpa using v1
              have d1 : decide (0 ≤ y) = true := by simpa using v3
              have hml := hmi1.len
              have ix : inS u0 x.toNat = true := ho1.inS (by omega)
              have iy : inS u0 y.toNat = true := ho1.inS (by omega)
              have hkx : okN m1.length x = true := okN_iff.2 ⟨v1, by omega⟩
              have hky : okN m1.length y = true := okN_iff.2 ⟨v3, by omega⟩
              obtain ⟨bx1, bx2⟩ := bitAt_ok hkx
              obtain ⟨by1, by2⟩ := bitAt_ok hky
              have hgx : m1[x.toNat]? = some (bitAt m1 x) := by rw [bx2]; simp [List.getD, bx1]
              have hgy : m1[y.toNat]? = some (bitAt m1 y) := by rw [by2]; simp [List.getD, by1]
              generalize w'.alloc (.cells #[.int .i64 x, .int .i64 y] 38) = w2 at *
              have lx := own_ld_flat (P := Try.prog) (t := 4) ho2 hgx tyG4
              have ly := own_ld_flat (P := Try.prog) (t := 4) ho2 hgy tyG4
              simp only [Flat.val] at lx ly
              have keep : (bitAt m1 x = true → bitAt m1 y = true) → (more1 = false → m1 = m ∧ ∀ e ∈ edges.take (k + 1), bitAt m e.1 = true → bitAt m e.2 = true) := fun hxy hm => by
                obtain ⟨k1, k2⟩ := hcl1 hm
                refine ⟨k1, fun e he => ?_⟩
                rcases (htk e).1 he with h | h
                · exact k2 e h
                · subst h; rw [← k1]; exact hxy
              generalize hbx : bitAt m1 x = tx at *
              generalize hby : bitAt m1 y = ty at *
              cases tx
              · simp only [CW_seq, CW_skip, CW_cond, CW_block, CW_loop, CW_reg, CW_draw, CW_exit, CW_ret, thenF_n, thenF_nK, thenF_r, thenF_x, blockF_n, blockF_nK, blockF_r, blockF_x, condF_t, condF_f, Rn_nil, Rn_ng, Rn_g, oneStep_g, os_move, os_assign, os_pick, os_bin, os_un, os_fieldAddr, os_field, os_indexAddr, os_index, os_slice, os_extract, os_nilCheck, os_makeFunc, os_build, os_len, os_cap, os_convert, os_min, os_max, on_load, on_buildSlice, on_alloc, on_box, on_makeSlice, on_lookup, mn_convert, mn_bin, optP_n, on_append, on_copy, on_store, on_call, ev, updo, upd, optP_s, resP_ok, resU_ok, ↓reduceIte, Nat.reduceEqDiff, List.map_cons, List.map_nil, List.map_toArray, argU, Nat.reduceAdd, gval_slot, gslot, List.getElem?_toArray, List.getElem?_cons_zero, List.getElem?_cons_succ, Option.bind_some, Option.some.injEq, reduceCtorEq, Bool.false_eq_true, Bool.true_eq_false, Option.map_some, Option.map_none, Int.toNat_zero, Option.isNone_none, Option.isNone_some, add_zero', binV, binI, unV, fieldV, extV, idxV, indexV, sliceV, lenV, capV, convV, min2V, max2V, TY, Option.isSome_some, Bool.true_and, Bool.and_true, Nat.mul_one, Int.toNat_natCast, le0n, Flat.val, Int.reduceToNat, Int.reduceLE, Int.reduceLT, Int.cast_ofNat_Int, decide_true, add_lit, Nat.zero_add, Nat.zero_mul, Nat.one_mul, Bool.not_true, Bool.not_false, h35, j33, j7, hin, hld, p1, p2, q0, q1, d0, d1, ix, iy, lx]
                refine ⟨(k + 1, m1, more1), by simp only []; omega, by rw [i64s k (by omega)], by simp only []; omega, h10', ho2, hx2, hmi1, keep (fun h => by cases h), hlt1, hle1⟩
              · cases ty
                · obtain ⟨w3, s1, s2, s3, s4⟩ := own_store (P := Try.prog) (t := 4) ho2 rfl (k := y.toNat) (by omega) (x := .bool true) (y := true) rfl rfl (zeroT_info tyZ4).choose_spec.1 (by rw [← szT_info (zeroT_info tyZ4).choose_spec.1]; exact tyS4)
                  simp only [CW_seq, CW_skip, CW_cond, CW_block, CW_loop, CW_reg, CW_draw, CW_exit, CW_ret, thenF_n, thenF_nK, thenF_r, thenF_x, blockF_n, blockF_nK, blockF_r, blockF_x, condF_t, condF_f, Rn_nil, Rn_ng, Rn_g, oneStep_g, os_move, os_assign, os_pick, os_bin, os_un, os_fieldAddr, os_field, os_indexAddr, os_index, os_slice, os_extract, os_nilCheck, os_makeFunc, os_build, os_len, os_cap, os_convert, os_min, os_max, on_load, on_buildSlice, on_alloc, on_box, on_makeSlice, on_lookup, mn_convert, mn_bin, optP_n, on_append, on_copy, on_store, on_call, ev, updo, upd, optP_s, resP_ok, resU_ok, ↓reduceIte, Nat.reduceEqDiff, List.map_cons, List.map_nil, List.map_toArray, argU, Nat.reduceAdd, gval_slot, gslot, List.getElem?_toArray, List.getElem?_cons_zero, List.getElem?_cons_succ, Option.bind_some, Option.some.injEq, reduceCtorEq, Bool.false_eq_true, Bool.true_eq_false, Option.map_some, Option.map_none, Int.toNat_zero, Option.isNone_none, Option.isNone_some, add_zero', binV, binI, unV, fieldV, extV, idxV, indexV, sliceV, lenV, capV, convV, min2V, max2V, TY, Option.isSome_some, Bool.true_and, Bool.and_true, Nat.mul_one, Int.toNat_natCast, le0n, Flat.val, Int.reduceToNat, Int.reduceLE, Int.reduceLT, Int.cast_ofNat_Int, decide_true, add_lit, Nat.zero_add, Nat.zero_mul, Nat.one_mul, Bool.not_true, Bool.not_false, h35, j33, j7, hin, hld, p1, p2, q0, q1, d0, d1, ix, iy, lx, ly, Bool.not_false, s1]
                  have hfs := falses_set (m := m1) (i := y.toNat) by1 (by
                    have := List.getElem?_eq_some_iff.1 hgy
                    exact this.2)
                  refine ⟨(k + 1, m1.set y.toNat true, true), by simp only []; omega, by rw [i64s k (by omega)], by simp only []; omega, rfl, s2, ho2.ext2 hx2 s3, hmi1.grow hbx hmem (by rw [← hml]; exact hky), fun h => (by cases h), fun _ => (by simp only []; omega), (by simp only []; omega)⟩
                · simp only [CW_seq, CW_skip, CW_cond, CW_block, CW_loop, CW_reg, CW_draw, CW_exit, CW_ret, thenF_n, thenF_nK, thenF_r, thenF_x, blockF_n, blockF_nK, blockF_r, blockF_x, condF_t, condF_f, Rn_nil, Rn_ng, Rn_g, oneStep_g, os_move, os_assign, os_pick, os_bin, os_un, os_fieldAddr, os_field, os_indexAddr, os_index, os_slice, os_extract, os_nilCheck, os_makeFunc, os_build, os_len, os_cap, os_convert, os_min, os_max, on_load, on_buildSlice, on_alloc, on_box, on_makeSlice, on_lookup, mn_convert, mn_bin, optP_n, on_append, on_copy, on_store, on_call, ev, updo, upd, optP_s, resP_ok, resU_ok, ↓reduceIte, Nat.reduceEqDiff, List.map_cons, List.map_nil, List.map_toArray, argU, Nat.reduceAdd, gval_slot, gslot, List.getElem?_toArray, List.getElem?_cons_zero, List.getElem?_cons_succ, Option.bind_some, Option.some.injEq, reduceCtorEq, Bool.false_eq_true, Bool.true_eq_false, Option.map_some, Option.map_none, Int.toNat_zero, Option.isNone_none, Option.isNone_some, add_zero', binV, binI, unV, fieldV, extV, idxV, indexV, sliceV, lenV, capV, convV, min2V, max2V, TY, Option.isSome_some, Bool.true_and, Bool.and_true, Nat.mul_one, Int.toNat_natCast, le0n, Flat.val, Int.reduceToNat, Int.reduceLE, Int.reduceLT, Int.cast_ofNat_Int, decide_true, add_lit, Nat.zero_add, Nat.zero_mul, Nat.one_mul, Bool.not_true, Bool.not_false, h35, j33, j7, hin, hld, p1, p2, q0, q1, d0, d1, ix, iy, lx, ly, Bool.not_true]
                  refine ⟨(k + 1, m1, more1), by simp only []; omega, by rw [i64s k (by omega)], by simp only []; omega, h10', ho2, hx2, hmi1, keep (fun _ => rfl), hlt1, hle1⟩
            · have hge : k = edges.length := by simp at hc; omega
              subst hge
              rw [List.take_length] at hcl1
              simp only [CW_seq, CW_skip, CW_cond, CW_block, CW_loop, CW_reg, CW_draw, CW_exit, CW_ret, thenF_n, thenF_nK, thenF_r, thenF_x, blockF_n, blockF_nK, blockF_r, blockF_x, condF_t, condF_f, Rn_nil, Rn_ng, Rn_g, oneStep_g, os_move, os_assign, os_pick, os_bin, os_un, os_fieldAddr, os_field, os_indexAddr, os_index, os_slice, os_extract, os_nilCheck, os_makeFunc, os_build, os_len, os_cap, os_convert, os_min, os_max, on_load, on_buildSlice, on_alloc, on_box, on_makeSlice, on_lookup, mn_convert, mn_bin, optP_n, on_append, on_copy, on_store, on_call, ev, updo, upd, optP_s, resP_ok, resU_ok, ↓reduceIte, Nat.reduceEqDiff, List.map_cons, List.map_nil, List.map_toArray, argU, Nat.reduceAdd, gval_slot, gslot, List.getElem?_toArray, List.getElem?_cons_zero, List.getElem?_cons_succ, Option.bind_some, Option.some.injEq, reduceCtorEq, Bool.false_eq_true, Bool.true_eq_false, Option.map_some, Option.map_none, Int.toNat_zero, Option.isNone_none, Option.isNone_some, add_zero', binV, binI, unV, fieldV, extV, idxV, indexV, sliceV, lenV, capV, convV, min2V, max2V, TY, Option.isSome_some, Bool.true_and, Bool.and_true, Nat.mul_one, Int.toNat_natCast, le0n, Flat.val, Int.reduceToNat, Int.reduceLE, Int.reduceLT, Int.cast_ofNat_Int, decide_true, add_lit, Nat.zero_add, Nat.zero_mul, Nat.one_mul, Bool.not_true, Bool.not_false]
              refine ⟨(m1, more1), ?_, h10', ho1, hx1, hmi1, fun h => ?_⟩
              · cases more1
                · simp only [Bool.false_eq_true, if_false, if_true]; omega
                · have := hlt1 rfl
                  simp only [if_true]; omega
              · obtain ⟨k1, k2⟩ := hcl1 h
                simp only [k1]; exact k2
end Go.Proofs.Ytldmnnloakpjlaa
