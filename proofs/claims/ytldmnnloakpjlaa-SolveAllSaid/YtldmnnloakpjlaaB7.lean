/- Contracts: slices.Min, slices.Clone of what is read; the graph's has, Len, Next, Prev. -/
import Derived.Test.YtldmnnloakpjlaaB6
set_option linter.unusedSimpArgs false
set_option maxRecDepth 100000
set_option linter.unusedVariables false
set_option linter.unnecessarySimpa false
namespace Go.Proofs.Ytldmnnloakpjlaa
open Go

/-! ### slices.Min -/
theorem min_any (v : Value) (x : Int) (l : List Int) (w : World) (hv : R (hpOf w) v (x :: l)) (hl : l.length ≤ 1000000000) :
    Calls Try.prog 50 #[v] w fun e w' => ∃ u, e = .returned u ∧ (u = .int .i64 (l.foldl min x) ∧ w' = w) := by
  refine calls_of_CW (args := [v]) hm Try.func50 rfl (by kernel_rfl) (by show 1 ≤ _; decide +kernel) ?_
  have hS := hv.isS
  have hn := hv.vlen
  simp only [List.length_cons] at hn
  have h1 : decide (((l.length + 1 : Nat) : Int) < 1) = false := by simp; omega
  have hin := hv.inS (k := 0) (by simp)
  have hld := ld_flat (P := Try.prog) (t := 3) hv (hle_refl _) (k := 0) (x := x) (by rfl) tyG3
  simp only [CW_seq, CW_skip, CW_cond, CW_block, CW_loop, CW_reg, CW_draw, CW_exit, CW_ret, thenF_n, thenF_nK, thenF_r, thenF_x, blockF_n, blockF_nK, blockF_r, blockF_x, condF_t, condF_f, Rn_nil, Rn_ng, Rn_g, oneStep_g, os_move, os_assign, os_pick, os_bin, os_un, os_fieldAddr, os_field, os_indexAddr, os_index, os_slice, os_extract, os_nilCheck, os_makeFunc, os_build, os_len, os_cap, os_convert, os_min, os_max, on_load, on_buildSlice, on_alloc, on_box, on_makeSlice, on_lookup, mn_convert, mn_bin, optP_n, on_append, on_copy, on_store, on_call, ev, updo, upd, optP_s, resP_ok, resU_ok, ↓reduceIte, Nat.reduceEqDiff, List.map_cons, List.map_nil, List.map_toArray, argU, Nat.reduceAdd, gval_slot, gslot, List.getElem?_toArray, List.getElem?_cons_zero, List.getElem?_cons_succ, Option.bind_some, Option.some.injEq, reduceCtorEq, Bool.false_eq_true, Bool.true_eq_false, Option.map_some, Option.map_none, Int.toNat_zero, Option.isNone_none, Option.isNone_some, add_zero', binV, binI, unV, fieldV, extV, idxV, indexV, sliceV, lenV, capV, convV, min2V, max2V, TY, Option.isSome_some, Bool.true_and, Bool.and_true, Nat.mul_one, Int.toNat_natCast, le0n, Flat.val, Int.reduceToNat, Int.reduceLE, Int.reduceLT, Int.cast_ofNat_Int, decide_true, add_lit, Nat.zero_add, Nat.zero_mul, Nat.one_mul, Bool.not_true, Bool.not_false, hS, hn, h1, hin, hld]
  refine loop_rule [0] (σ := Nat) (fun k f w' => f 4 = .int .i64 ((k + 1 : Nat) : Int) ∧ k ≤ l.length ∧ f 3 = .int .i64 ((l.take k).foldl min x) ∧ w' = w) (fun k => l.length - k) 0 (by decide +kernel) ?_ ?_
  · simp only [upd, ↓reduceIte, Nat.reduceEqDiff]
    exact ⟨rfl, Nat.zero_le _, by simp [Flat.val], by trivial⟩
  · rintro k f w' hk ⟨h4, hkl, h3, rfl⟩
    simp only [List.forall_mem_cons, upd, ↓reduceIte, Nat.reduceEqDiff] at hk
    obtain ⟨e0, _⟩ := hk
    simp only [CW_seq, CW_skip, CW_cond, CW_block, CW_loop, CW_reg, CW_draw, CW_exit, CW_ret, thenF_n, thenF_nK, thenF_r, thenF_x, blockF_n, blockF_nK, blockF_r, blockF_x, condF_t, condF_f, Rn_nil, Rn_ng, Rn_g, oneStep_g, os_move, os_assign, os_pick, os_bin, os_un, os_fieldAddr, os_field, os_indexAddr, os_index, os_slice, os_extract, os_nilCheck, os_makeFunc, os_build, os_len, os_cap, os_convert, os_min, os_max, on_load, on_buildSlice, on_alloc, on_box, on_makeSlice, on_lookup, mn_convert, mn_bin, optP_n, on_append, on_copy, on_store, on_call, ev, updo, upd, optP_s, resP_ok, resU_ok, ↓reduceIte, Nat.reduceEqDiff, List.map_cons, List.map_nil, List.map_toArray, argU, Nat.reduceAdd, gval_slot, gslot, List.getElem?_toArray, List.getElem?_cons_zero, List.getElem?_cons_succ, Option.bind_some, Option.some.injEq, reduceCtorEq, Bool.false_eq_true, Bool.true_eq_false, Option.map_some, Option.map_none, Int.toNat_zero, Option.isNone_none, Option.isNone_some, add_zero', binV, binI, unV, fieldV, extV, idxV, indexV, sliceV, lenV, capV, convV, min2V, max2V, TY, Option.isSome_some, Bool.true_and, Bool.and_true, Nat.mul_one, Int.toNat_natCast, le0n, Flat.val, Int.reduceToNat, Int.reduceLE, Int.reduceLT, Int.cast_ofNat_Int, decide_true, add_lit, Nat.zero_add, Nat.zero_mul, Nat.one_mul, Bool.not_true, Bool.not_false, h4, e0, hS, hn]
    refine condF_split (fun hc => ?_) (fun hc => ?_)
    · have hlt : k < l.length := by simp at hc; omega
      have hin2 := hv.inS (k := k + 1) (by simp; omega)
      have hld2 := ld_flat (P := Try.prog) (t := 3) hv (hle_refl _) (k := k + 1) (x := l[k]) (by simp [hlt]) tyG3
      have hst := foldl_take min x l k hlt
      simp only [CW_seq, CW_skip, CW_cond, CW_block, CW_loop, CW_reg, CW_draw, CW_exit, CW_ret, thenF_n, thenF_nK, thenF_r, thenF_x, blockF_n, blockF_nK, blockF_r, blockF_x, condF_t, condF_f, Rn_nil, Rn_ng, Rn_g, oneStep_g, os_move, os_assign, os_pick, os_bin, os_un, os_fieldAddr, os_field, os_indexAddr, os_index, os_slice, os_extract, os_nilCheck, os_makeFunc, os_build, os_len, os_cap, os_convert, os_min, os_max, on_load, on_buildSlice, on_alloc, on_box, on_makeSlice, on_lookup, mn_convert, mn_bin, optP_n, on_append, on_copy, on_store, on_call, ev, updo, upd, optP_s, resP_ok, resU_ok, ↓reduceIte, Nat.reduceEqDiff, List.map_cons, List.map_nil, List.map_toArray, argU, Nat.reduceAdd, gval_slot, gslot, List.getElem?_toArray, List.getElem?_cons_zero, List.getElem?_cons_succ, Option.bind_some, Option.some.injEq, reduceCtorEq, Bool.false_eq_true, Bool.true_eq_false, Option.map_some, Option.map_none, Int.toNat_zero, Option.isNone_none, Option.isNone_some, add_zero', binV, binI, unV, fieldV, extV, idxV, indexV, sliceV, lenV, capV, convV, min2V, max2V, TY, Option.isSome_some, Bool.true_and, Bool.and_true, Nat.mul_one, Int.toNat_natCast, le0n, Flat.val, Int.reduceToNat, Int.reduceLE, Int.reduceLT, Int.cast_ofNat_Int, decide_true, add_lit, Nat.zero_add, Nat.zero_mul, Nat.one_mul, Bool.not_true, Bool.not_false, h4, h3, e0, hS, hn, hin2, hld2]
      have hmin : ∀ a b : Int, (if b < a then b else a) = min a b := fun a b => by
        simp only [Int.min_def]; split <;> split <;> omega
      refine ⟨k + 1, by omega, by rw [i64s (k + 1) (by omega)], by omega, by rw [hst, hmin], by trivial⟩
    · have hge : k = l.length := by simp at hc; omega
      subst hge
      simp only [CW_seq, CW_skip, CW_cond, CW_block, CW_loop, CW_reg, CW_draw, CW_exit, CW_ret, thenF_n, thenF_nK, thenF_r, thenF_x, blockF_n, blockF_nK, blockF_r, blockF_x, condF_t, condF_f, Rn_nil, Rn_ng, Rn_g, oneStep_g, os_move, os_assign, os_pick, os_bin, os_un, os_fieldAddr, os_field, os_indexAddr, os_index, os_slice, os_extract, os_nilCheck, os_makeFunc, os_build, os_len, os_cap, os_convert, os_min, os_max, on_load, on_buildSlice, on_alloc, on_box, on_makeSlice, on_lookup, mn_convert, mn_bin, optP_n, on_append, on_copy, on_store, on_call, ev, updo, upd, optP_s, resP_ok, resU_ok, ↓reduceIte, Nat.reduceEqDiff, List.map_cons, List.map_nil, List.map_toArray, argU, Nat.reduceAdd, gval_slot, gslot, List.getElem?_toArray, List.getElem?_cons_zero, List.getElem?_cons_succ, Option.bind_some, Option.some.injEq, reduceCtorEq, Bool.false_eq_true, Bool.true_eq_false, Option.map_some, Option.map_none, Int.toNat_zero, Option.isNone_none, Option.isNone_some, add_zero', binV, binI, unV, fieldV, extV, idxV, indexV, sliceV, lenV, capV, convV, min2V, max2V, TY, Option.isSome_some, Bool.true_and, Bool.and_true, Nat.mul_one, Int.toNat_natCast, le0n, Flat.val, Int.reduceToNat, Int.reduceLE, Int.reduceLT, Int.cast_ofNat_Int, decide_true, add_lit, Nat.zero_add, Nat.zero_mul, Nat.one_mul, Bool.not_true, Bool.not_false, h3]
      refine retq1 Try.results50 ?_
      simp only [upd, ↓reduceIte, Nat.reduceEqDiff]
      rw [List.take_length]
      exact ⟨by trivial, by trivial⟩

/-! ### append(l, m...) of a list that is read, and the empty literal -/
section
variable {P : Program} {w : World} {h : Hp} {t T sz by_ : Nat} {v : Value}
theorem own_spread {α : Type} [Rep α] {e : TypeId} (hs : sliceOk P t T sz by_ = true) (hsz : Rep.sz α = sz) {xs ys : List α} (ho : Own h w T v xs) {u : Value} (hu : R h u ys)
    (hl : xs.length + ys.length ≤ 1000000000000) (hb : (xs.length + ys.length) * by_ ≤ 140737488355328) (hw : hle h (hpOf w)) :
    ∃ v' w', (Builtin.append_ #[t, t] e #[v, u]).run P w = .ok v' w' ∧ Own h w' T v' (xs ++ ys) ∧ Mod (blk v) w w' ∧ movedTo w v v' := by
  obtain ⟨h1, ⟨z, hz, hzs⟩, h3, h4, h5, h6⟩ := sliceOk_spec hs
  obtain ⟨i, hi, hiz⟩ := zeroT_info hz
  have hby : i.bytes = by_ := by rw [← h4, bytT_info hi]
  have hsi : i.size = sz := by rw [← h3, szT_info hi]
  obtain ⟨a, n, c, he, hn, hnc, es, hes, hce⟩ := hu
  simp at he
  subst he
  have ht := elemT_spec h1
  by_cases hy : ys = []
  · subst hy
    refine ⟨v, w, ?_, by simpa using ho, Mod.refl _, fun b hb => .inl hb⟩
    have hn0 : n = 0 := by simpa using hn
    subst hn0
    rcases ho with ⟨rfl, rfl⟩ | ⟨b, c', cur, rfl, k1, k2, k3, k4, k5, k6⟩
    · cases a <;> simp [Builtin.append_, run_underlying ht, sizeOf, typeInfo, hi, Builtin.lenOf, Builtin.firstCells, loadCells, loadCellsFrom]
    · cases a <;> simp [Builtin.append_, run_underlying ht, sizeOf, typeInfo, hi, Builtin.lenOf, Builtin.firstCells, loadCells, loadCellsFrom, k3, storeCells]
  · have hne : es ≠ [] := by
      intro e
      have := encs_len hes
      rw [e] at this
      have hp : 0 < ys.length := List.length_pos_iff.2 hy
      have := Rep.pos (α := α)
      have := Nat.mul_pos hp this
      simp at *
      omega
    obtain ⟨x0, hx0⟩ : ∃ x0, es[0]? = some x0 := by
      cases es with
      | nil => exact absurd rfl hne
      | cons x _ => exact ⟨x, rfl⟩
    obtain ⟨ad, rfl, _⟩ := hce 0 x0 hx0
    exact own_append (e := e) ht hi hiz (by rw [hsi, hsz]) (by rw [hzs, hsi]) ho (ad := ad) hn hes (fun j u hj => by
      obtain ⟨ad', e', hc⟩ := hce j u hj
      obtain rfl := Option.some.inj e'
      exact cellAt_mono hw hc) hy (by simp only [maxLen]; omega) (by rw [hby]; exact hb) hw
theorem lit0 {α : Type} [Rep α] (hs : sliceOk P t T sz by_ = true) (hw : hle h (hpOf w)) :
    ∃ v w', (Instr.buildSlice t 0 #[]).run P w = .ok v w' ∧ Own h w' T v ([] : List α) ∧ Ext w w' ∧ (∀ b, blk v b → w.heap.size ≤ b) := by
  obtain ⟨h1, ⟨z, hz, hzs⟩, h3, h4, h5, h6⟩ := sliceOk_spec hs
  obtain ⟨i, hi, hiz⟩ := zeroT_info hz
  refine ⟨.slice (some ⟨w.heap.size, 0, none⟩) 0 0, w.alloc (.cells #[] T), ?_, .inr ⟨w.heap.size, 0, #[], rfl, hle_lt hw (Nat.le_refl _), heap_alloc_new w _, by simp, by simp, by simp, by simp [encs]⟩, Ext.alloc _ _, fun b hb => by simp [blk, Value.ownBlock] at hb; omega⟩
  unfold Instr.buildSlice
  simp only [Sem.run_bind, run_under, elemT_spec h1, Result.andThen_ok, run_szOf (show (P.info? T).isSome = true by rw [hi]; rfl), Sem.run_ite, Nat.zero_mul, Sem.run_pure]
  rw [if_neg (by decide), if_pos trivial]
  have e0 : ∀ (g : Nat → Value), (Array.range 0).map g = #[] := fun g => by simp
  simp only [e0, Instr.fill]
  rfl
end

/-! ### slices.Clone of what is read -/
theorem cloneR_any (v : Value) (l : List Int) (w : World) (hv : R (hpOf w) v l) (hl : l.length ≤ 1000000000) :
    Calls Try.prog 51 #[v] w fun e w' => ∃ u, e = .returned u ∧ (Own (hpOf w) w' 3 u l ∧ Ext w w') := by
  refine calls_of_CW (args := [v]) hm Try.func51 rfl (by kernel_rfl) (by show 1 ≤ _; decide +kernel) ?_
  have hS := hv.isS
  have hb : binV Try.prog .eql 37 v (.slice none 0 0) = some (.bool (nilS v)) := by
    obtain ⟨a, n, c, he, _⟩ := hv
    simp at he; subst he
    simp [binV, Go.Proofs.Ytldmnnloakpjlaa.isS, tyQ37]
  obtain ⟨u0, w0, hb0, ho0, hx0, hf0⟩ := lit0 (P := Try.prog) (w := w) (h := hpOf w) (α := Int) sokI (hle_refl _)
  obtain ⟨u1, w1, ha, ho1, hm1, hv1⟩ := own_spread (P := Try.prog) (e := 37) sokI rfl ho0 hv (by simp; omega) (by simp; omega) (hle_ext hx0)
  simp only [CW_seq, CW_skip, CW_cond, CW_block, CW_loop, CW_reg, CW_draw, CW_exit, CW_ret, thenF_n, thenF_nK, thenF_r, thenF_x, blockF_n, blockF_nK, blockF_r, blockF_x, condF_t, condF_f, Rn_nil, Rn_ng, Rn_g, oneStep_g, os_move, os_assign, os_pick, os_bin, os_un, os_fieldAddr, os_field, os_indexAddr, os_index, os_slice, os_extract, os_nilCheck, os_makeFunc, os_build, os_len, os_cap, os_convert, os_min, os_max, on_load, on_buildSlice, on_alloc, on_box, on_makeSlice, on_lookup, mn_convert, mn_bin, optP_n, on_append, on_copy, on_store, on_call, ev, updo, upd, optP_s, resP_ok, resU_ok, ↓reduceIte, Nat.reduceEqDiff, List.map_cons, List.map_nil, List.map_toArray, argU, Nat.reduceAdd, gval_slot, gslot, List.getElem?_toArray, List.getElem?_cons_zero, List.getElem?_cons_succ, Option.bind_some, Option.some.injEq, reduceCtorEq, Bool.false_eq_true, Bool.true_eq_false, hb]
  refine condF_split (fun hc => ?_) (fun hc => ?_)
  · simp only [CW_seq, CW_skip, CW_cond, CW_block, CW_loop, CW_reg, CW_draw, CW_exit, CW_ret, thenF_n, thenF_nK, thenF_r, thenF_x, blockF_n, blockF_nK, blockF_r, blockF_x, condF_t, condF_f, Rn_nil, Rn_ng, Rn_g, oneStep_g, os_move, os_assign, os_pick, os_bin, os_un, os_fieldAddr, os_field, os_indexAddr, os_index, os_slice, os_extract, os_nilCheck, os_makeFunc, os_build, os_len, os_cap, os_convert, os_min, os_max, on_load, on_buildSlice, on_alloc, on_box, on_makeSlice, on_lookup, mn_convert, mn_bin, optP_n, on_append, on_copy, on_store, on_call, ev, updo, upd, optP_s, resP_ok, resU_ok, ↓reduceIte, Nat.reduceEqDiff, List.map_cons, List.map_nil, List.map_toArray, argU, Nat.reduceAdd, gval_slot, gslot, List.getElem?_toArray, List.getElem?_cons_zero, List.getElem?_cons_succ, Option.bind_some, Option.some.injEq, reduceCtorEq, Bool.false_eq_true, Bool.true_eq_false, Option.map_some, Option.map_none, Int.toNat_zero, Option.isNone_none, Option.isNone_some, add_zero', binV, binI, unV, fieldV, extV, idxV, indexV, sliceV, lenV, capV, convV, min2V, max2V, TY, Option.isSome_some, Bool.true_and, Bool.and_true, Nat.mul_one, Int.toNat_natCast, le0n, Flat.val, Int.reduceToNat, Int.reduceLE, Int.reduceLT, Int.cast_ofNat_Int, decide_true, add_lit, Nat.zero_add, Nat.zero_mul, Nat.one_mul, Bool.not_true, Bool.not_false]
    refine retq1 Try.results51 ?_
    simp only [upd, ↓reduceIte, Nat.reduceEqDiff]
    obtain ⟨a, n, c, he, hn, hnc, es, hes, hce⟩ := hv
    simp at he; subst he
    cases a with
    | some a => simp [nilS] at hc
    | none =>
      have hes0 : es = [] := by
        cases es with
        | nil => rfl
        | cons x _ => obtain ⟨ad, e, _⟩ := hce 0 x rfl; cases e
      subst hes0
      have := encs_len hes
      have hl0 : l = [] := by
        cases l with
        | nil => rfl
        | cons _ _ => simp [Rep.sz] at this
      subst hl0
      exact ⟨Own.nil _ _ _, Mod.refl _⟩
  · simp only [CW_seq, CW_skip, CW_cond, CW_block, CW_loop, CW_reg, CW_draw, CW_exit, CW_ret, thenF_n, thenF_nK, thenF_r, thenF_x, blockF_n, blockF_nK, blockF_r, blockF_x, condF_t, condF_f, Rn_nil, Rn_ng, Rn_g, oneStep_g, os_move, os_assign, os_pick, os_bin, os_un, os_fieldAddr, os_field, os_indexAddr, os_index, os_slice, os_extract, os_nilCheck, os_makeFunc, os_build, os_len, os_cap, os_convert, os_min, os_max, on_load, on_buildSlice, on_alloc, on_box, on_makeSlice, on_lookup, mn_convert, mn_bin, optP_n, on_append, on_copy, on_store, on_call, ev, updo, upd, optP_s, resP_ok, resU_ok, ↓reduceIte, Nat.reduceEqDiff, List.map_cons, List.map_nil, List.map_toArray, argU, Nat.reduceAdd, gval_slot, gslot, List.getElem?_toArray, List.getElem?_cons_zero, List.getElem?_cons_succ, Option.bind_some, Option.some.injEq, reduceCtorEq, Bool.false_eq_true, Bool.true_eq_false, Option.map_some, Option.map_none, Int.toNat_zero, Option.isNone_none, Option.isNone_some, add_zero', binV, binI, unV, fieldV, extV, idxV, indexV, sliceV, lenV, capV, convV, min2V, max2V, TY, Option.isSome_some, Bool.true_and, Bool.and_true, Nat.mul_one, Int.toNat_natCast, le0n, Flat.val, Int.reduceToNat, Int.reduceLE, Int.reduceLT, Int.cast_ofNat_Int, decide_true, add_lit, Nat.zero_add, Nat.zero_mul, Nat.one_mul, Bool.not_true, Bool.not_false, hb0, ha]
    refine retq1 Try.results51 ?_
    simp only [upd, ↓reduceIte, Nat.reduceEqDiff]
    exact ⟨by simpa using ho1, ho0.ext2 hx0 hm1⟩
end Go.Proofs.Ytldmnnloakpjlaa
