/- Contract: whittlerref14.Parts. -/
import Derived.Test.YtldmnnloakpjlaaB17
import Derived.Test.YtldmnnloakpjlaaA10
set_option linter.unusedSimpArgs false
set_option linter.unusedVariables false
set_option maxRecDepth 100000
namespace Go.Proofs.Ytldmnnloakpjlaa
open Go

theorem sokBB : sliceOk Try.prog 74 56 1 24 = true := by kernel_rfl
def WaysOk (nx : List (List Int)) (rows : List (List Bool)) : Prop := ∀ (i : Nat) (m : List Bool), rows[i]? = some m → m.length = nx.length ∧ ∀ b, bitAt m b = true ↔ Rch nx [(i : Int)] b

theorem refParts_any (nx : List (List Int)) (v : Value) (edges : List (Int × Int)) (w : World) (hv : R (hpOf w) v edges) (hg : GoodRows nx.length nx) (hn : nx.length ≤ 100000) (hel : edges.length ≤ 1000000)
    (hrow : ∀ a b, b ∈ rowF nx a ↔ (a, b) ∈ edges) (hval : ∀ e ∈ edges, validE nx.length e) :
    Calls Try.prog 38 #[.int .i64 (nx.length : Nat), v] w fun e w' => ∃ u, e = .returned u ∧ ((∃ p, Own (hpOf w) w' 3 u p ∧ p.length = nx.length ∧ ∀ b, okN nx.length b = true → IsPart nx b (ai p b)) ∧ Ext w w') := by
  refine calls_of_CW (args := [.int .i64 (nx.length : Nat), v]) hm Try.func38 rfl (by kernel_rfl) (by show 2 ≤ _; decide +kernel) ?_
  simp only [CW_seq, CW_skip, CW_cond, CW_block, CW_loop, CW_reg, CW_draw, CW_exit, CW_ret, thenF_n, thenF_nK, thenF_r, thenF_x, blockF_n, blockF_nK, blockF_r, blockF_x, condF_t, condF_f, Rn_nil, Rn_ng, Rn_g, oneStep_g, os_move, os_assign, os_pick, os_bin, os_un, os_fieldAddr, os_field, os_indexAddr, os_index, os_slice, os_extract, os_nilCheck, os_makeFunc, os_build, os_len, os_cap, os_convert, os_min, os_max, on_load, on_buildSlice, on_alloc, on_box, on_makeSlice, on_lookup, mn_convert, mn_bin, optP_n, on_append, on_copy, on_store, on_call, ev, updo, upd, optP_s, resP_ok, resU_ok, ↓reduceIte, Nat.reduceEqDiff, List.map_cons, List.map_nil, List.map_toArray, argU, Nat.reduceAdd, gval_slot, gslot, List.getElem?_toArray, List.getElem?_cons_zero, List.getElem?_cons_succ, Option.bind_some, Option.some.injEq, reduceCtorEq, Bool.false_eq_true, Bool.true_eq_false, Option.map_some, Option.map_none, Int.toNat_zero, Option.isNone_none, Option.isNone_some, add_zero', binV, binI, unV, fieldV, extV, idxV, indexV, sliceV, lenV, capV, convV, min2V, max2V, TY, Option.isSome_some, Bool.true_and, Bool.and_true, Nat.mul_one, Int.toNat_natCast, le0n, Flat.val, Int.reduceToNat, Int.reduceLE, Int.reduceLT, Int.cast_ofNat_Int, decide_true, add_lit, Nat.zero_add, Nat.zero_mul, Nat.one_mul, Bool.not_true, Bool.not_false]
  refine loop_rule [0, 1] (σ := Nat) (fun k f w' => f 6 = .int .i64 k ∧ k ≤ nx.length ∧ (∃ rows, rows.length = k ∧ WaysOk nx rows ∧ Own (hpBut w' (f 5)) w' 56 (f 5) rows) ∧ Ext w w' ∧ ∀ b, blk (f 5) b → w.heap.size ≤ b) (fun k => nx.length - k) 0 (by decide +kernel) ?_ ?_
  · simp only [upd, ↓reduceIte, Nat.reduceEqDiff]
    exact ⟨rfl, Nat.zero_le _, ⟨[], rfl, fun i m h => by simp at h, Own.nil _ _ _⟩, Mod.refl _, fun b hb => absurd hb blk_nil⟩
  · rintro k f w' hk ⟨h6, hkl, ⟨rows, hrl, hro, ho⟩, hx, hfr⟩
    simp only [List.forall_mem_cons, upd, ↓reduceIte, Nat.reduceEqDiff] at hk
    obtain ⟨e0, e1, _⟩ := hk
    generalize hu5 : f 5 = u5 at *
    simp only [CW_seq, CW_skip, CW_cond, CW_block, CW_loop, CW_reg, CW_draw, CW_exit, CW_ret, thenF_n, thenF_nK, thenF_r, thenF_x, blockF_n, blockF_nK, blockF_r, blockF_x, condF_t, condF_f, Rn_nil, Rn_ng, Rn_g, oneStep_g, os_move, os_assign, os_pick, os_bin, os_un, os_fieldAddr, os_field, os_indexAddr, os_index, os_slice, os_extract, os_nilCheck, os_makeFunc, os_build, os_len, os_cap, os_convert, os_min, os_max, on_load, on_buildSlice, on_alloc, on_box, on_makeSlice, on_lookup, mn_convert, mn_bin, optP_n, on_append, on_copy, on_store, on_call, ev, updo, upd, optP_s, resP_ok, resU_ok, ↓reduceIte, Nat.reduceEqDiff, List.map_cons, List.map_nil, List.map_toArray, argU, Nat.reduceAdd, gval_slot, gslot, List.getElem?_toArray, List.getElem?_cons_zero, List.getElem?_cons_succ, Option.bind_some, Option.some.injEq, reduceCtorEq, Bool.false_eq_true, Bool.true_eq_false, Option.map_some, Option.map_none, Int.toNat_zero, Option.isNone_none, Option.isNone_some, add_zero', binV, binI, unV, fieldV, extV, idxV, indexV, sliceV, lenV, capV, convV, min2V, max2V, TY, Option.isSome_some, Bool.true_and, Bool.and_true, Nat.mul_one, Int.toNat_natCast, le0n, Flat.val, Int.reduceToNat, Int.reduceLE, Int.reduceLT, Int.cast_ofNat_Int, decide_true, add_lit, Nat.zero_add, Nat.zero_mul, Nat.one_mul, Bool.not_true, Bool.not_false, h6, e0]
    refine condF_split (fun hc => ?_) (fun hc => ?_)
    · have hlt : k < nx.length := by simpa using hc
      obtain ⟨vt, w1, hlit, hot, hxt, hft⟩ := lit (P := Try.prog) (w := w') (h := hpOf w') (α := Int) (xs := [.int .i64 k]) (ys := [(k : Int)]) (parts := #[(0, .int .i64 k)]) (n := 1) sokI rfl (encs_ints.2 rfl) (by simp [Value.cells]) rfl rfl (by simp) (by simp) (hle_refl _)
      have hx1 := hx.trans hxt
      simp only [CW_seq, CW_skip, CW_cond, CW_block, CW_loop, CW_reg, CW_draw, CW_exit, CW_ret, thenF_n, thenF_nK, thenF_r, thenF_x, blockF_n, blockF_nK, blockF_r, blockF_x, condF_t, condF_f, Rn_nil, Rn_ng, Rn_g, oneStep_g, os_move, os_assign, os_pick, os_bin, os_un, os_fieldAddr, os_field, os_indexAddr, os_index, os_slice, os_extract, os_nilCheck, os_makeFunc, os_build, os_len, os_cap, os_convert, os_min, os_max, on_load, on_buildSlice, on_alloc, on_box, on_makeSlice, on_lookup, mn_convert, mn_bin, optP_n, on_append, on_copy, on_store, on_call, ev, updo, upd, optP_s, resP_ok, resU_ok, ↓reduceIte, Nat.reduceEqDiff, List.map_cons, List.map_nil, List.map_toArray, argU, Nat.reduceAdd, gval_slot, gslot, List.getElem?_toArray, List.getElem?_cons_zero, List.getElem?_cons_succ, Option.bind_some, Option.some.injEq, reduceCtorEq, Bool.false_eq_true, Bool.true_eq_false, Option.map_some, Option.map_none, Int.toNat_zero, Option.isNone_none, Option.isNone_some, add_zero', binV, binI, unV, fieldV, extV, idxV, indexV, sliceV, lenV, capV, convV, min2V, max2V, TY, Option.isSome_some, Bool.true_and, Bool.and_true, Nat.mul_one, Int.toNat_natCast, le0n, Flat.val, Int.reduceToNat, Int.reduceLE, Int.reduceLT, Int.cast_ofNat_Int, decide_true, add_lit, Nat.zero_add, Nat.zero_mul, Nat.one_mul, Bool.not_true, Bool.not_false, e0, e1, h6, hu5, hlit]
      refine callP (by kernel_rfl : hasBody Try.prog 37 = true) (refReach_any nx v edges vt [(k : Int)] w1 (Rep.mono (hle_ext hx1) hv) (hot.rw_ (hle_ext hxt)) hn hel (by simp) hrow hval) ?_
      rintro um w2 ⟨⟨m, hom, hml, hmb⟩, hx2⟩
      have hx12 := hxt.trans hx2
      have hS := hom.isS
      have hod := hom.down (hpBut_le w1 u5)
      have hd : ∀ b, blk um b → ¬ blk u5 b := fun b hb hb2 => by
        have h1 := hom.free hb
        have h2 := ho.lt hb2
        have h3 := hxt.size
        have h4 : w1.heap.size ≤ b := Nat.le_of_not_lt fun hlt => by simp [hpOf, hlt] at h1
        omega
      have hrm := hod.beside (v := u5) (hpBut_ext hx2) hd
      have ho2 := ho.but hx12
      obtain ⟨r1, u', w3, r2, r3, r4, r5⟩ := push (e := 74) sokBB rfl ho2 (x := um) (y := m) (by rw [isS_cells hS]; exact hrm) (by omega) (by omega) (hpBut_le w2 u5)
      rw [isS_cells hS] at r1 r2
      have hfr2 : ∀ b, blk u' b → w.heap.size ≤ b := fun b hb => by
        rcases r5 b hb with h | h
        · exact hfr b h
        · have := (hx1.trans hx2).size; omega
      have hx3 : Ext w w3 := Mod.ext_of (hx1.trans hx2) r4 hfr
      simp only [CW_seq, CW_skip, CW_cond, CW_block, CW_loop, CW_reg, CW_draw, CW_exit, CW_ret, thenF_n, thenF_nK, thenF_r, thenF_x, blockF_n, blockF_nK, blockF_r, blockF_x, condF_t, condF_f, Rn_nil, Rn_ng, Rn_g, oneStep_g, os_move, os_assign, os_pick, os_bin, os_un, os_fieldAddr, os_field, os_indexAddr, os_index, os_slice, os_extract, os_nilCheck, os_makeFunc, os_build, os_len, os_cap, os_convert, os_min, os_max, on_load, on_buildSlice, on_alloc, on_box, on_makeSlice, on_lookup, mn_convert, mn_bin, optP_n, on_append, on_copy, on_store, on_call, ev, updo, upd, optP_s, resP_ok, resU_ok, ↓reduceIte, Nat.reduceEqDiff, List.map_cons, List.map_nil, List.map_toArray, argU, Nat.reduceAdd, gval_slot, gslot, List.getElem?_toArray, List.getElem?_cons_zero, List.getElem?_cons_succ, Option.bind_some, Option.some.injEq, reduceCtorEq, Bool.false_eq_true, Bool.true_eq_false, Option.map_some, Option.map_none, Int.toNat_zero, Option.isNone_none, Option.isNone_some, add_zero', binV, binI, unV, fieldV, extV, idxV, indexV, sliceV, lenV, capV, convV, min2V, max2V, TY, Option.isSome_some, Bool.true_and, Bool.and_true, Nat.mul_one, Int.toNat_natCast, le0n, Flat.val, Int.reduceToNat, Int.reduceLE, Int.reduceLT, Int.cast_ofNat_Int, decide_true, add_lit, Nat.zero_add, Nat.zero_mul, Nat.one_mul, Bool.not_true, Bool.not_false, h6, r1, r2, isS_cells hS]
      refine ⟨k + 1, by omega, by rw [i64s k (by omega)], by omega, ⟨rows ++ [m], by simp [hrl], fun i mi hi => ?_, r3.rebase (fun b o e => hpBut_le w3 u' b o (hpBut_mod r4 r5 b o e))⟩, hx3, hfr2⟩
      by_cases hik : i < rows.length
      · rw [List.getElem?_append_left hik] at hi
        exact hro i mi hi
      · rw [List.getElem?_append_right (by omega)] at hi
        have hi0 : i = rows.length := by
          have := (List.getElem?_eq_some_iff.1 hi).1
          simp at this; omega
        subst hi0
        simp at hi
        subst hi
        rw [hrl]
        exact ⟨hml, hmb⟩
    · have hge : k = nx.length := by simp at hc; omega
      have hRw := ho.rw_ (hpBut_le w' u5)
      have hSw := hRw.isS
      obtain ⟨ul, w0, hmk, hol, hxl, hfl, _⟩ := mk (P := Try.prog) (w := w') (h := hpOf w') sokI tyZ3 (α := Int) (y := 0) rfl (n := nx.length) (by omega) (by omega) (hle_refl _)
      have hSl := hol.isS
      have hnl := hol.vlen
      rw [List.length_replicate] at hnl
      simp only [CW_seq, CW_skip, CW_cond, CW_block, CW_loop, CW_reg, CW_draw, CW_exit, CW_ret, thenF_n, thenF_nK, thenF_r, thenF_x, blockF_n, blockF_nK, blockF_r, blockF_x, condF_t, condF_f, Rn_nil, Rn_ng, Rn_g, oneStep_g, os_move, os_assign, os_pick, os_bin, os_un, os_fieldAddr, os_field, os_indexAddr, os_index, os_slice, os_extract, os_nilCheck, os_makeFunc, os_build, os_len, os_cap, os_convert, os_min, os_max, on_load, on_buildSlice, on_alloc, on_box, on_makeSlice, on_lookup, mn_convert, mn_bin, optP_n, on_append, on_copy, on_store, on_call, ev, updo, upd, optP_s, resP_ok, resU_ok, ↓reduceIte, Nat.reduceEqDiff, List.map_cons, List.map_nil, List.map_toArray, argU, Nat.reduceAdd, gval_slot, gslot, List.getElem?_toArray, List.getElem?_cons_zero, List.getElem?_cons_succ, Option.bind_some, Option.some.injEq, reduceCtorEq, Bool.false_eq_true, Bool.true_eq_false, Option.map_some, Option.map_none, Int.toNat_zero, Option.isNone_none, Option.isNone_some, add_zero', binV, binI, unV, fieldV, extV, idxV, indexV, sliceV, lenV, capV, convV, min2V, max2V, TY, Option.isSome_some, Bool.true_and, Bool.and_true, Nat.mul_one, Int.toNat_natCast, le0n, Flat.val, Int.reduceToNat, Int.reduceLE, Int.reduceLT, Int.cast_ofNat_Int, decide_true, add_lit, Nat.zero_add, Nat.zero_mul, Nat.one_mul, Bool.not_true, Bool.not_false, e0, hmk, hSl, hnl]
      refine loop_rule [5, 7, 25, 26] (σ := Nat) (fun a f w2 => f 27 = .int .i64 a ∧ a ≤ nx.length ∧ (∃ p, Own (hpOf w') w2 3 ul p ∧ p.length = nx.length ∧ ∀ b : Nat, b < a → IsPart nx b (ai p b)) ∧ Ext w w2 ∧ hle (hpOf w') (hpOf w2)) (fun a => nx.length - a) 0 (by decide +kernel) ?_ ?_
      · simp only [upd, ↓reduceIte, Nat.reduceEqDiff]
        exact ⟨rfl, Nat.zero_le _, ⟨_, hol, by simp, fun b hb => by omega⟩, hx.trans hxl, hle_ext hxl⟩
      · rintro a f w2 hk ⟨h27, hal, ⟨p, hop, hpl, hpp⟩, hx2, hh2⟩
        simp only [List.forall_mem_cons, upd, ↓reduceIte, Nat.reduceEqDiff] at hk
        simp only [hu5] at hk
        obtain ⟨i5, i7, i25, i26, _⟩ := hk
        simp only [CW_seq, CW_skip, CW_cond, CW_block, CW_loop, CW_reg, CW_draw, CW_exit, CW_ret, thenF_n, thenF_nK, thenF_r, thenF_x, blockF_n, blockF_nK, blockF_r, blockF_x, condF_t, condF_f, Rn_nil, Rn_ng, Rn_g, oneStep_g, os_move, os_assign, os_pick, os_bin, os_un, os_fieldAddr, os_field, os_indexAddr, os_index, os_slice, os_extract, os_nilCheck, os_makeFunc, os_build, os_len, os_cap, os_convert, os_min, os_max, on_load, on_buildSlice, on_alloc, on_box, on_makeSlice, on_lookup, mn_convert, mn_bin, optP_n, on_append, on_copy, on_store, on_call, ev, updo, upd, optP_s, resP_ok, resU_ok, ↓reduceIte, Nat.reduceEqDiff, List.map_cons, List.map_nil, List.map_toArray, argU, Nat.reduceAdd, gval_slot, gslot, List.getElem?_toArray, List.getElem?_cons_zero, List.getElem?_cons_succ, Option.bind_some, Option.some.injEq, reduceCtorEq, Bool.false_eq_true, Bool.true_eq_false, Option.map_some, Option.map_none, Int.toNat_zero, Option.isNone_none, Option.isNone_some, add_zero', binV, binI, unV, fieldV, extV, idxV, indexV, sliceV, lenV, capV, convV, min2V, max2V, TY, Option.isSome_some, Bool.true_and, Bool.and_true, Nat.mul_one, Int.toNat_natCast, le0n, Flat.val, Int.reduceToNat, Int.reduceLE, Int.reduceLT, Int.cast_ofNat_Int, decide_true, add_lit, Nat.zero_add, Nat.zero_mul, Nat.one_mul, Bool.not_true, Bool.not_false, h27, i26]
        refine condF_split (fun hc => ?_) (fun hc => ?_)
        · have hlt : a < nx.length := by simpa using hc
          have hka : okN nx.length (a : Int) = true := okN_iff.2 ⟨by omega, by omega⟩
          simp only [CW_seq, CW_skip, CW_cond, CW_block, CW_loop, CW_reg, CW_draw, CW_exit, CW_ret, thenF_n, thenF_nK, thenF_r, thenF_x, blockF_n, blockF_nK, blockF_r, blockF_x, condF_t, condF_f, Rn_nil, Rn_ng, Rn_g, oneStep_g, os_move, os_assign, os_pick, os_bin, os_un, os_fieldAddr, os_field, os_indexAddr, os_index, os_slice, os_extract, os_nilCheck, os_makeFunc, os_build, os_len, os_cap, os_convert, os_min, os_max, on_load, on_buildSlice, on_alloc, on_box, on_makeSlice, on_lookup, mn_convert, mn_bin, optP_n, on_append, on_copy, on_store, on_call, ev, updo, upd, optP_s, resP_ok, resU_ok, ↓reduceIte, Nat.reduceEqDiff, List.map_cons, List.map_nil, List.map_toArray, argU, Nat.reduceAdd, gval_slot, gslot, List.getElem?_toArray, List.getElem?_cons_zero, List.getElem?_cons_succ, Option.bind_some, Option.some.injEq, reduceCtorEq, Bool.false_eq_true, Bool.true_eq_false, Option.map_some, Option.map_none, Int.toNat_zero, Option.isNone_none, Option.isNone_some, add_zero', binV, binI, unV, fieldV, extV, idxV, indexV, sliceV, lenV, capV, convV, min2V, max2V, TY, Option.isSome_some, Bool.true_and, Bool.and_true, Nat.mul_one, Int.toNat_natCast, le0n, Flat.val, Int.reduceToNat, Int.reduceLE, Int.reduceLT, Int.cast_ofNat_Int, decide_true, add_lit, Nat.zero_add, Nat.zero_mul, Nat.one_mul, Bool.not_true, Bool.not_false, h27]
          refine loop_rule [5, 7, 8, 25, 26, 27] (σ := Nat) (fun s f w3 => f 9 = .int .i64 ((s : Int) - 1) ∧ s ≤ a + 1 ∧ (∃ p, Own (hpOf w') w3 3 ul p ∧ p.length = nx.length ∧ (∀ b : Nat, b < a → IsPart nx b (ai p b)) ∧ (s ≤ a → Both nx a (ai p a)) ∧ ∀ c : Nat, s ≤ c → c ≤ a → Both nx a c → ai p a ≤ c) ∧ Ext w w3 ∧ hle (hpOf w') (hpOf w3)) (fun s => s) (a + 1) (by decide +kernel) ?_ ?_
          · simp only [upd, ↓reduceIte, Nat.reduceEqDiff]
            exact ⟨by rw [show (((a + 1 : Nat) : Int) - 1) = (a : Int) by omega], Nat.le_refl _, ⟨p, hop, hpl, hpp, fun h => by omega, fun c h1 h2 => by omega⟩, hx2, hh2⟩
          · rintro s f w3 hk ⟨h9, hsl, ⟨p, hop, hpl, hpp, hbo, hlow⟩, hx3, hh3⟩
            simp only [List.forall_mem_cons, upd, ↓reduceIte, Nat.reduceEqDiff] at hk
            simp only [i5, i7, i25, i26, h27] at hk
            obtain ⟨j5, j7, j8, j25, j26, j27, _⟩ := hk
            match s, h9, hsl, hbo, hlow with
            | 0, h9, hsl, hbo, hlow =>
              rw [show (((0 : Nat) : Int) - 1) = (-1 : Int) from rfl] at h9
              have d0 : decide ((-1 : Int) ≥ 0) = false := rfl
              simp only [CW_seq, CW_skip, CW_cond, CW_block, CW_loop, CW_reg, CW_draw, CW_exit, CW_ret, thenF_n, thenF_nK, thenF_r, thenF_x, blockF_n, blockF_nK, blockF_r, blockF_x, condF_t, condF_f, Rn_nil, Rn_ng, Rn_g, oneStep_g, os_move, os_assign, os_pick, os_bin, os_un, os_fieldAddr, os_field, os_indexAddr, os_index, os_slice, os_extract, os_nilCheck, os_makeFunc, os_build, os_len, os_cap, os_convert, os_min, os_max, on_load, on_buildSlice, on_alloc, on_box, on_makeSlice, on_lookup, mn_convert, mn_bin, optP_n, on_append, on_copy, on_store, on_call, ev, updo, upd, optP_s, resP_ok, resU_ok, ↓reduceIte, Nat.reduceEqDiff, List.map_cons, List.map_nil, List.map_toArray, argU, Nat.reduceAdd, gval_slot, gslot, List.getElem?_toArray, List.getElem?_cons_zero, List.getElem?_cons_succ, Option.bind_some, Option.some.injEq, reduceCtorEq, Bool.false_eq_true, Bool.true_eq_false, Option.map_some, Option.map_none, Int.toNat_zero, Option.isNone_none, Option.isNone_some, add_zero', binV, binI, unV, fieldV, extV, idxV, indexV, sliceV, lenV, capV, convV, min2V, max2V, TY, Option.isSome_some, Bool.true_and, Bool.and_true, Nat.mul_one, Int.toNat_natCast, le0n, Flat.val, Int.reduceToNat, Int.reduceLE, Int.reduceLT, Int.cast_ofNat_Int, decide_true, add_lit, Nat.zero_add, Nat.zero_mul, Nat.one_mul, Bool.not_true, Bool.not_false, h9, d0, j27]
              refine ⟨a + 1, by omega, by rw [i64s a (by omega)], by omega, ⟨p, hop, hpl, fun b hb => ?_⟩, hx3, hh3⟩
              by_cases hba : b < a
              · exact hpp b hba
              · have : b = a := by omega
                subst this
                have hB := hbo (by omega)
                refine ⟨hB, fun c hcb => ?_⟩
                have hkc := okN_iff.1 (way_ok hg hcb.1 hka)
                by_cases hcl : c ≤ (b : Int)
                · have := hlow c.toNat (by omega) (by omega) (by rw [show ((c.toNat : Nat) : Int) = c by omega]; exact hcb)
                  omega
                · have := hlow b (by omega) (Nat.le_refl _) (Both.refl _)
                  omega
            | c + 1, h9, hsl, hbo, hlow =>
              rw [show (((c + 1 : Nat) : Int) - 1) = (c : Int) by omega] at h9
              have d0 : decide ((c : Int) ≥ 0) = true := by simp
              have hkc : okN nx.length (c : Int) = true := okN_iff.2 ⟨by omega, by omega⟩
              have hra : rows[a]? = some (rows[a]'(by omega)) := List.getElem?_eq_getElem _
              have hrc : rows[c]? = some (rows[c]'(by omega)) := List.getElem?_eq_getElem _
              generalize rows[a]'(by omega) = ma at hra
              generalize rows[c]'(by omega) = mc at hrc
              obtain ⟨la, ba⟩ := hro a ma hra
              obtain ⟨lc, bc⟩ := hro c mc hrc
              obtain ⟨va, hva, ca⟩ := hRw.row hra
              obtain ⟨vc, hvc, cc⟩ := hRw.row hrc
              have lda := ld_at (P := Try.prog) (t := 56) ca hh3 tyG56
              have ldc := ld_at (P := Try.prog) (t := 56) cc hh3 tyG56
              have ina := hRw.inS (k := a) (by omega)
              have inc := hRw.inS (k := c) (by omega)
              have inva := hva.inS (k := c) (by omega)
              have invc := hvc.inS (k := a) (by omega)
              have gac : ma[c]? = some (bitAt ma c) := by
                have := bitAt_ok (l := ma) (b := c) (by rw [la]; exact hkc)
                rw [this.2]; simp [List.getD, this.1, show c < ma.length by omega]
              have gca : mc[a]? = some (bitAt mc a) := by
                have := bitAt_ok (l := mc) (b := a) (by rw [lc]; exact hka)
                rw [this.2]; simp [List.getD, this.1, show a < mc.length by omega]
              have lac := ld_flat (P := Try.prog) (t := 4) hva hh3 gac tyG4
              have lca := ld_flat (P := Try.prog) (t := 4) hvc hh3 gca tyG4
              simp only [Flat.val] at lac lca
              have wac := ba c
              have wca := bc a
              rw [rch_one hka] at wac
              rw [rch_one hkc] at wca
              have hw1 : IntKind.i64.wrap ((c : Int) - 1) = (c : Int) - 1 := i64w _ (by omega)
              have keep : ¬ Both nx a c → (∃ p, Own (hpOf w') w3 3 ul p ∧ p.length = nx.length ∧ (∀ b : Nat, b < a → IsPart nx b (ai p b)) ∧ (c ≤ a → Both nx a (ai p a)) ∧ ∀ c' : Nat, c ≤ c' → c' ≤ a → Both nx a c' → ai p a ≤ c') := fun hnb => by
                refine ⟨p, hop, hpl, hpp, fun h => ?_, fun c' h1 h2 h3 => ?_⟩
                · rcases Nat.lt_or_ge c a with h4 | h4
                  · exact hbo (by omega)
                  · have : c = a := by omega
                    subst this; exact absurd (Both.refl _) hnb
                · rcases Nat.lt_or_ge c c' with h4 | h4
                  · exact hlow c' (by omega) h2 h3
                  · have : c' = c := by omega
                    subst this; exact absurd h3 hnb
              generalize bitAt ma c = tac at *
              generalize bitAt mc a = tca at *
              cases tac
              · have hnb : ¬ Both nx a c := fun h => by have := wac.2 h.1; cases this
                simp only [CW_seq, CW_skip, CW_cond, CW_block, CW_loop, CW_reg, CW_draw, CW_exit, CW_ret, thenF_n, thenF_nK, thenF_r, thenF_x, blockF_n, blockF_nK, blockF_r, blockF_x, condF_t, condF_f, Rn_nil, Rn_ng, Rn_g, oneStep_g, os_move, os_assign, os_pick, os_bin, os_un, os_fieldAddr, os_field, os_indexAddr, os_index, os_slice, os_extract, os_nilCheck, os_makeFunc, os_build, os_len, os_cap, os_convert, os_min, os_max, on_load, on_buildSlice, on_alloc, on_box, on_makeSlice, on_lookup, mn_convert, mn_bin, optP_n, on_append, on_copy, on_store, on_call, ev, updo, upd, optP_s, resP_ok, resU_ok, ↓reduceIte, Nat.reduceEqDiff, List.map_cons, List.map_nil, List.map_toArray, argU, Nat.reduceAdd, gval_slot, gslot, List.getElem?_toArray, List.getElem?_cons_zero, List.getElem?_cons_succ, Option.bind_some, Option.some.injEq, reduceCtorEq, Bool.false_eq_true, Bool.true_eq_false, Option.map_some, Option.map_none, Int.toNat_zero, Option.isNone_none, Option.isNone_some, add_zero', binV, binI, unV, fieldV, extV, idxV, indexV, sliceV, lenV, capV, convV, min2V, max2V, TY, Option.isSome_some, Bool.true_and, Bool.and_true, Nat.mul_one, Int.toNat_natCast, le0n, Flat.val, Int.reduceToNat, Int.reduceLE, Int.reduceLT, Int.cast_ofNat_Int, decide_true, add_lit, Nat.zero_add, Nat.zero_mul, Nat.one_mul, Bool.not_true, Bool.not_false, h9, d0, j5, j8, ina, inc, lda, inva, lac, hw1]
                exact ⟨c, by omega, by trivial, by omega, keep hnb, hx3, hh3⟩
              · cases tca
                · have hnb : ¬ Both nx a c := fun h => by have := wca.2 h.2; cases this
                  simp only [CW_seq, CW_skip, CW_cond, CW_block, CW_loop, CW_reg, CW_draw, CW_exit, CW_ret, thenF_n, thenF_nK, thenF_r, thenF_x, blockF_n, blockF_nK, blockF_r, blockF_x, condF_t, condF_f, Rn_nil, Rn_ng, Rn_g, oneStep_g, os_move, os_assign, os_pick, os_bin, os_un, os_fieldAddr, os_field, os_indexAddr, os_index, os_slice, os_extract, os_nilCheck, os_makeFunc, os_build, os_len, os_cap, os_convert, os_min, os_max, on_load, on_buildSlice, on_alloc, on_box, on_makeSlice, on_lookup, mn_convert, mn_bin, optP_n, on_append, on_copy, on_store, on_call, ev, updo, upd, optP_s, resP_ok, resU_ok, ↓reduceIte, Nat.reduceEqDiff, List.map_cons, List.map_nil, List.map_toArray, argU, Nat.reduceAdd, gval_slot, gslot, List.getElem?_toArray, List.getElem?_cons_zero, List.getElem?_cons_succ, Option.bind_some, Option.some.injEq, reduceCtorEq, Bool.false_eq_true, Bool.true_eq_false, Option.map_some, Option.map_none, Int.toNat_zero, Option.isNone_none, Option.isNone_some, add_zero', binV, binI, unV, fieldV, extV, idxV, indexV, sliceV, lenV, capV, convV, min2V, max2V, TY, Option.isSome_some, Bool.true_and, Bool.and_true, Nat.mul_one, Int.toNat_natCast, le0n, Flat.val, Int.reduceToNat, Int.reduceLE, Int.reduceLT, Int.cast_ofNat_Int, decide_true, add_lit, Nat.zero_add, Nat.zero_mul, Nat.one_mul, Bool.not_true, Bool.not_false, h9, d0, j5, j8, ina, inc, lda, ldc, inva, invc, lac, lca, hw1]
                  exact ⟨c, by omega, by trivial, by omega, keep hnb, hx3, hh3⟩
                · have hB : Both nx a c := ⟨wac.1 rfl, wca.1 rfl⟩
                  have inl := hop.inS (k := a) (by omega)
                  obtain ⟨w4, s1, s2, s3, s4⟩ := own_store (P := Try.prog) (t := 3) hop rfl (k := a) (by omega) (x := .int .i64 c) (y := (c : Int)) rfl rfl (zeroT_info tyZ3).choose_spec.1 (by rw [← szT_info (zeroT_info tyZ3).choose_spec.1]; exact tyS3)
                  simp only [CW_seq, CW_skip, CW_cond, CW_block, CW_loop, CW_reg, CW_draw, CW_exit, CW_ret, thenF_n, thenF_nK, thenF_r, thenF_x, blockF_n, blockF_nK, blockF_r, blockF_x, condF_t, condF_f, Rn_nil, Rn_ng, Rn_g, oneStep_g, os_move, os_assign, os_pick, os_bin, os_un, os_fieldAddr, os_field, os_indexAddr, os_index, os_slice, os_extract, os_nilCheck, os_makeFunc, os_build, os_len, os_cap, os_convert, os_min, os_max, on_load, on_buildSlice, on_alloc, on_box, on_makeSlice, on_lookup, mn_convert, mn_bin, optP_n, on_append, on_copy, on_store, on_call, ev, updo, upd, optP_s, resP_ok, resU_ok, ↓reduceIte, Nat.reduceEqDiff, List.map_cons, List.map_nil, List.map_toArray, argU, Nat.reduceAdd, gval_slot, gslot, List.getElem?_toArray, List.getElem?_cons_zero, List.getElem?_cons_succ, Option.bind_some, Option.some.injEq, reduceCtorEq, Bool.false_eq_true, Bool.true_eq_false, Option.map_some, Option.map_none, Int.toNat_zero, Option.isNone_none, Option.isNone_some, add_zero', binV, binI, unV, fieldV, extV, idxV, indexV, sliceV, lenV, capV, convV, min2V, max2V, TY, Option.isSome_some, Bool.true_and, Bool.and_true, Nat.mul_one, Int.toNat_natCast, le0n, Flat.val, Int.reduceToNat, Int.reduceLE, Int.reduceLT, Int.cast_ofNat_Int, decide_true, add_lit, Nat.zero_add, Nat.zero_mul, Nat.one_mul, Bool.not_true, Bool.not_false, h9, d0, j5, j7, j8, ina, inc, lda, ldc, inva, invc, lac, lca, hw1, inl, s1]
                  have hset := fun (b : Int) hb => ai_set (v := (c : Int)) (b := b) hpl hka hb
                  rw [show ((a : Nat) : Int).toNat = a by omega] at hset
                  have hsa := hset a hka
                  rw [if_pos rfl] at hsa
                  have hx4 : Ext w w4 := Mod.ext_of hx3 s3 fun b hb => by
                    have h1 := hop.free hb
                    have h2 : w'.heap.size ≤ b := Nat.le_of_not_lt fun hlt => by simp [hpOf, hlt] at h1
                    have := hx.size; omega
                  refine ⟨c, by omega, by trivial, by omega, ⟨_, s2, by simp [hpl], fun b hb => ?_, fun _ => ?_, fun c' h1 h2 h3 => ?_⟩, hx4, hle_mod hh3 s3 fun b hb => hop.free hb⟩
                  · rw [hset b (okN_iff.2 ⟨by omega, by omega⟩), if_neg (by omega)]
                    exact hpp b hb
                  · rw [hsa]; exact hB
                  · rw [hsa]; omega
        · have hge2 : a = nx.length := by simp at hc; omega
          subst hge2
          simp only [CW_seq, CW_skip, CW_cond, CW_block, CW_loop, CW_reg, CW_draw, CW_exit, CW_ret, thenF_n, thenF_nK, thenF_r, thenF_x, blockF_n, blockF_nK, blockF_r, blockF_x, condF_t, condF_f, Rn_nil, Rn_ng, Rn_g, oneStep_g, os_move, os_assign, os_pick, os_bin, os_un, os_fieldAddr, os_field, os_indexAddr, os_index, os_slice, os_extract, os_nilCheck, os_makeFunc, os_build, os_len, os_cap, os_convert, os_min, os_max, on_load, on_buildSlice, on_alloc, on_box, on_makeSlice, on_lookup, mn_convert, mn_bin, optP_n, on_append, on_copy, on_store, on_call, ev, updo, upd, optP_s, resP_ok, resU_ok, ↓reduceIte, Nat.reduceEqDiff, List.map_cons, List.map_nil, List.map_toArray, argU, Nat.reduceAdd, gval_slot, gslot, List.getElem?_toArray, List.getElem?_cons_zero, List.getElem?_cons_succ, Option.bind_some, Option.some.injEq, reduceCtorEq, Bool.false_eq_true, Bool.true_eq_false, Option.map_some, Option.map_none, Int.toNat_zero, Option.isNone_none, Option.isNone_some, add_zero', binV, binI, unV, fieldV, extV, idxV, indexV, sliceV, lenV, capV, convV, min2V, max2V, TY, Option.isSome_some, Bool.true_and, Bool.and_true, Nat.mul_one, Int.toNat_natCast, le0n, Flat.val, Int.reduceToNat, Int.reduceLE, Int.reduceLT, Int.cast_ofNat_Int, decide_true, add_lit, Nat.zero_add, Nat.zero_mul, Nat.one_mul, Bool.not_true, Bool.not_false, i7]
          refine retq1 Try.results38 ?_
          simp only [upd, ↓reduceIte, Nat.reduceEqDiff]
          refine ⟨⟨p, hop.down (hle_ext hx), hpl, fun b hb => ?_⟩, hx2⟩
          have hb' := okN_iff.1 hb
          have := hpp b.toNat (by omega)
          rw [show ((b.toNat : Nat) : Int) = b by omega] at this
          exact this
end Go.Proofs.Ytldmnnloakpjlaa
