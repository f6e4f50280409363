/- Contract: solve.sets. -/
import Derived.Test.YtldmnnloakpjlaaB19
set_option linter.unusedSimpArgs false
set_option linter.unusedVariables false
set_option maxRecDepth 100000
namespace Go.Proofs.Ytldmnnloakpjlaa
open Go

theorem sokWW : sliceOk Try.prog 64 79 1 24 = true := by kernel_rfl
/-- One row stored under an owned list of rows; the row is new, or moved. -/
theorem Rows.put {P : Program} {α : Type} [Rep α] {h : Hp} {w w1 : World} {T T' t : TypeId} {v : Value} {us : List Raw} {xss : List (List α)} (hr : Rows h w T T' v us xss) {i : Nat} {u : Raw} (hi : us[i]? = some u) {u' : Value} {xs : List α}
    (hm : Mod (blk u.v) w w1) (ho : Own h w1 T' u' xs) (hv : movedTo w u.v u') {inf : TypeInfo} (hinf : P.info? t = some inf) (hs : inf.size = 1) :
    ∃ w2, (Instr.storeAt t (.pointer (some (sadr v i))) u').run P w1 = .ok () w2 ∧ Rows h w2 T T' v (us.set i ⟨u'⟩) (xss.set i xs) ∧ Mod (blk v) w1 w2 ∧ w2.heap.size = w1.heap.size := by
  have hS := ho.isS
  have hil : i < us.length := (List.getElem?_eq_some_iff.1 hi).1
  have hou : Own h w1 T v us := hr.outer.mod hm fun b hb hb2 => hr.off i u hi b hb2 hb
  obtain ⟨w2, s1, s2, s3, s4⟩ := own_store (P := P) (t := t) hou rfl hil (x := u') (y := (⟨u'⟩ : Raw)) ⟨rfl, isS_one hS⟩ (isS_cells hS) hinf hs
  exact ⟨w2, s1, hr.set hi hm ho hv s3 s2, s3, s4⟩

theorem rows_nilW {α : Type} [Rep α] {h : Hp} {w : World} {T T' : TypeId} {v : Value} {n : Nat} (ho : Own h w T v (List.replicate n nilRaw)) : Rows h w T T' v (List.replicate n nilRaw) (List.replicate n ([] : List α)) := by
  have hn : ∀ (i : Nat) (u : Raw), (List.replicate n nilRaw)[i]? = some u → u = nilRaw := fun i u hu => List.eq_of_mem_replicate (List.mem_of_getElem? hu)
  refine ⟨ho, by simp, fun i u xs hu hx => ?_, fun i j u u' _ hu _ b hb => ?_, fun i u hu b hb => ?_⟩
  · rw [hn i u hu, List.eq_of_mem_replicate (List.mem_of_getElem? hx)]
    exact Own.nil _ _ _
  · rw [hn i u hu] at hb; exact absurd hb blk_nil
  · rw [hn i u hu] at hb; exact absurd hb blk_nil
def SetB (most : Nat) (x : List Int) (b : List W) : Prop := b.length = most / 64 + 1 ∧ ∀ f : Nat, hasB b f = true ↔ (f : Int) ∈ x
def factsOk (l : List (List Int)) (most : Nat) : Prop := ∀ x ∈ l, ∀ f ∈ x, 0 ≤ f ∧ f < most
def SetsB (most : Nat) (l : List (List Int)) (bss : List (List W)) : Prop := bss.length = l.length ∧ ∀ (i : Nat) (x : List Int), l[i]? = some x → ∃ b, bss[i]? = some b ∧ SetB most x b

theorem sets_any (v : Value) (l : List (List Int)) (most : Nat) (w : World) (hv : R (hpOf w) v l) (hm1 : most ≤ 1000000) (hl : l.length ≤ 1000000) (hll : ∀ x ∈ l, x.length ≤ 1000000000) :
    Calls Try.prog 40 #[v, .int .i64 most] w fun e w' => ∃ u, e = .returned u ∧ ((∃ ub ok, u = .tuple #[ub, .bool ok] ∧ (ok = true → factsOk l most ∧ ∃ bss, R (hpOf w') ub bss ∧ SetsB most l bss) ∧ (ok = false → ¬ factsOk l most)) ∧ Ext w w') := by
  refine calls_of_CW (args := [v, .int .i64 most]) hm Try.func40 rfl (by kernel_rfl) (by show 2 ≤ _; decide +kernel) ?_
  have hS := hv.isS
  have hvn := hv.vlen
  have hz : Rep.enc (hpOf w) (Value.slice none 0 0).cells.toList nilRaw := ⟨rfl, rfl⟩
  obtain ⟨u0, w0, hmk, ho0, hx0, hf0, _⟩ := mk (P := Try.prog) (w := w) (h := hpOf w) sokWW tyZ79 (α := Raw) (y := nilRaw) hz (n := l.length) (by omega) (by omega) (hle_refl _)
  have hrows0 : Rows (hpOf w) w0 79 80 u0 (List.replicate l.length nilRaw) (List.replicate l.length ([] : List W)) := rows_nilW ho0
  simp only [CW_seq, CW_skip, CW_cond, CW_block, CW_loop, CW_reg, CW_draw, CW_exit, CW_ret, thenF_n, thenF_nK, thenF_r, thenF_x, blockF_n, blockF_nK, blockF_r, blockF_x, condF_t, condF_f, Rn_nil, Rn_ng, Rn_g, oneStep_g, os_move, os_assign, os_pick, os_bin, os_un, os_fieldAddr, os_field, os_indexAddr, os_index, os_slice, os_extract, os_nilCheck, os_makeFunc, os_build, os_len, os_cap, os_convert, os_min, os_max, on_load, on_buildSlice, on_alloc, on_box, on_makeSlice, on_lookup, mn_convert, mn_bin, optP_n, on_append, on_copy, on_store, on_call, ev, updo, upd, optP_s, resP_ok, resU_ok, ↓reduceIte, Nat.reduceEqDiff, List.map_cons, List.map_nil, List.map_toArray, argU, Nat.reduceAdd, gval_slot, gslot, List.getElem?_toArray, List.getElem?_cons_zero, List.getElem?_cons_succ, Option.bind_some, Option.some.injEq, reduceCtorEq, Bool.false_eq_true, Bool.true_eq_false, Option.map_some, Option.map_none, Int.toNat_zero, Option.isNone_none, Option.isNone_some, add_zero', binV, binI, unV, fieldV, extV, idxV, indexV, sliceV, lenV, capV, convV, min2V, max2V, TY, Option.isSome_some, Bool.true_and, Bool.and_true, Nat.mul_one, Int.toNat_natCast, le0n, Flat.val, Int.reduceToNat, Int.reduceLE, Int.reduceLT, Int.cast_ofNat_Int, decide_true, add_lit, Nat.zero_add, Nat.zero_mul, Nat.one_mul, Bool.not_true, Bool.not_false, hS, hvn, hmk]
  refine loop_rule [0, 1, 6, 14, 15] (σ := Nat) (fun i f w' => f 16 = .int .i64 i ∧ i ≤ l.length ∧ (∃ us bss, Rows (hpOf w) w' 79 80 u0 us bss ∧ bss.length = l.length ∧ (∀ (j : Nat) (x : List Int), j < i → l[j]? = some x → ((∃ b, bss[j]? = some b ∧ SetB most x b) ∧ ∀ f ∈ x, 0 ≤ f ∧ f < most))) ∧ Ext w w') (fun i => l.length - i) 0 (by decide +kernel) ?_ ?_
  · simp only [upd, ↓reduceIte, Nat.reduceEqDiff]
    exact ⟨rfl, Nat.zero_le _, ⟨_, _, hrows0, by simp, fun j x hj => by omega⟩, hx0⟩
  · rintro i f w' hk ⟨h16, hil, ⟨us, bss, hrows, hbl, hdone⟩, hx⟩
    simp only [List.forall_mem_cons, upd, ↓reduceIte, Nat.reduceEqDiff] at hk
    obtain ⟨e0, e1, e6, e14, e15, _⟩ := hk
    simp only [CW_seq, CW_skip, CW_cond, CW_block, CW_loop, CW_reg, CW_draw, CW_exit, CW_ret, thenF_n, thenF_nK, thenF_r, thenF_x, blockF_n, blockF_nK, blockF_r, blockF_x, condF_t, condF_f, Rn_nil, Rn_ng, Rn_g, oneStep_g, os_move, os_assign, os_pick, os_bin, os_un, os_fieldAddr, os_field, os_indexAddr, os_index, os_slice, os_extract, os_nilCheck, os_makeFunc, os_build, os_len, os_cap, os_convert, os_min, os_max, on_load, on_buildSlice, on_alloc, on_box, on_makeSlice, on_lookup, mn_convert, mn_bin, optP_n, on_append, on_copy, on_store, on_call, ev, updo, upd, optP_s, resP_ok, resU_ok, ↓reduceIte, Nat.reduceEqDiff, List.map_cons, List.map_nil, List.map_toArray, argU, Nat.reduceAdd, gval_slot, gslot, List.getElem?_toArray, List.getElem?_cons_zero, List.getElem?_cons_succ, Option.bind_some, Option.some.injEq, reduceCtorEq, Bool.false_eq_true, Bool.true_eq_false, Option.map_some, Option.map_none, Int.toNat_zero, Option.isNone_none, Option.isNone_some, add_zero', binV, binI, unV, fieldV, extV, idxV, indexV, sliceV, lenV, capV, convV, min2V, max2V, TY, Option.isSome_some, Bool.true_and, Bool.and_true, Nat.mul_one, Int.toNat_natCast, le0n, Flat.val, Int.reduceToNat, Int.reduceLE, Int.reduceLT, Int.cast_ofNat_Int, decide_true, add_lit, Nat.zero_add, Nat.zero_mul, Nat.one_mul, Bool.not_true, Bool.not_false, h16, e15]
    refine condF_split (fun hc => ?_) (fun hc => ?_)
    · have hlt : i < l.length := by simpa using hc
      have hin := hv.inS hlt
      obtain ⟨ux, hux, hcx⟩ := hv.row (List.getElem?_eq_getElem hlt)
      have hldx := ld_at (P := Try.prog) (t := 37) hcx (hle_ext hx) tyG37
      have hxmem : l[i] ∈ l := List.getElem_mem hlt
      have hxat : l[i]? = some l[i] := List.getElem?_eq_getElem hlt
      generalize l[i] = x at hux hxmem hxat
      have hxl := hll x hxmem
      have hSx := hux.isS
      have hnx := hux.vlen
      have q1 := bv_quo (P := Try.prog) (t := 3) most (by omega)
      have q2 : binV Try.prog .add 3 (.int .i64 ((most / 64 : Nat) : Int)) (.int .i64 1) = some (.int .i64 ((most / 64 + 1 : Nat) : Int)) := by
        simp only [binV, binI, if_true]; rw [i64s _ (by omega)]
      obtain ⟨ur, w1, hmk1, ho1, hx1, hf1, _⟩ := mk (P := Try.prog) (w := w') (h := hpOf w) sokW tyZ80 (α := W) (y := 0#64) rfl (n := most / 64 + 1) (by omega) (by omega) (hle_ext hx)
      have husl : us.length = l.length := by rw [hrows.len, hbl]
      have hui : us[i]? = some (us[i]'(by omega)) := List.getElem?_eq_getElem _
      generalize us[i]'(by omega) = u at hui
      obtain ⟨w2, s1, s2, s3, s4⟩ := hrows.put (P := Try.prog) (t := 79) hui (hx1.weaken fun _ _ h => h.elim) ho1 (fun b hb => .inr (hf1 b hb)) (zeroT_info tyZ79).choose_spec.1 (by rw [← szT_info (zeroT_info tyZ79).choose_spec.1]; exact tyS79)
      have hx2 : Ext w w2 := Mod.ext_of (hx.trans hx1) s3 fun b hb => by
        have := hrows.outer.free hb
        exact Nat.le_of_not_lt fun hlt => by simp [hpOf, hlt] at this
      have hin0 := hrows.outer.inS (k := i) (by omega)
      have huiset : (us.set i ⟨ur⟩)[i]? = some (⟨ur⟩ : Raw) := List.getElem?_set_self (by omega)
      generalize hus' : us.set i ⟨ur⟩ = us' at *
      generalize hm64 : most / 64 = m64 at *
      simp only [CW_seq, CW_skip, CW_cond, CW_block, CW_loop, CW_reg, CW_draw, CW_exit, CW_ret, thenF_n, thenF_nK, thenF_r, thenF_x, blockF_n, blockF_nK, blockF_r, blockF_x, condF_t, condF_f, Rn_nil, Rn_ng, Rn_g, oneStep_g, os_move, os_assign, os_pick, os_bin, os_un, os_fieldAddr, os_field, os_indexAddr, os_index, os_slice, os_extract, os_nilCheck, os_makeFunc, os_build, os_len, os_cap, os_convert, os_min, os_max, on_load, on_buildSlice, on_alloc, on_box, on_makeSlice, on_lookup, mn_convert, mn_bin, optP_n, on_append, on_copy, on_store, on_call, ev, updo, upd, optP_p, resP_ok, resU_ok, ↓reduceIte, Nat.reduceEqDiff, List.map_cons, List.map_nil, List.map_toArray, argU, Nat.reduceAdd, gval_slot, gslot, List.getElem?_toArray, List.getElem?_cons_zero, List.getElem?_cons_succ, Option.bind_some, Option.some.injEq, reduceCtorEq, Bool.false_eq_true, Bool.true_eq_false, Option.map_some, Option.map_none, Int.toNat_zero, Option.isNone_none, Option.isNone_some, add_zero', unV, fieldV, extV, idxV, indexV, sliceV, lenV, capV, convV, min2V, max2V, TY, Option.isSome_some, Bool.true_and, Bool.and_true, Nat.mul_one, Int.toNat_natCast, le0n, Flat.val, Int.reduceToNat, Int.reduceLE, Int.reduceLT, Int.cast_ofNat_Int, decide_true, add_lit, Nat.zero_add, Nat.zero_mul, Nat.one_mul, Bool.not_true, Bool.not_false, h16, e14, e6, e1, hin, hldx, q1, q2, hmk1, hin0, s1, hSx, hnx]
      refine loop_rule [0, 1, 6, 7, 14, 15, 16, 28, 29] (σ := Nat) (fun k f w' => f 30 = .int .i64 k ∧ k ≤ x.length ∧ (∃ bss' b, Rows (hpOf w) w' 79 80 u0 us' bss' ∧ bss'.length = l.length ∧ (∀ j : Nat, j ≠ i → bss'[j]? = bss[j]?) ∧ bss'[i]? = some b ∧ b.length = m64 + 1 ∧ (∀ f : Nat, hasB b f = true ↔ (f : Int) ∈ x.take k) ∧ ∀ f ∈ x.take k, 0 ≤ f ∧ f < most) ∧ Ext w w') (fun k => x.length - k) 0 (by decide +kernel) ?_ ?_
      · simp only [upd, ↓reduceIte, Nat.reduceEqDiff]
        refine ⟨rfl, Nat.zero_le _, ⟨_, List.replicate (m64 + 1) 0#64, s2, by simp [hbl], fun j hj => List.getElem?_set_ne (fun e => hj e.symm), List.getElem?_set_self (by omega), by simp, fun f => by rw [hasB_rep]; simp, by simp⟩, hx2⟩
      · rintro k f w3 hk ⟨h30, hkl, ⟨bss', b, hrows', hbl', hoth, hbi, hblen, hbits, hrng⟩, hx3⟩
        simp only [List.forall_mem_cons, upd, ↓reduceIte, Nat.reduceEqDiff] at hk
        simp only [e0, e1, e6, e14, e15, h16] at hk
        obtain ⟨i0, i1, i6, i7, i14, i15, i16, i28, i29, _⟩ := hk
        simp only [CW_seq, CW_skip, CW_cond, CW_block, CW_loop, CW_reg, CW_draw, CW_exit, CW_ret, thenF_n, thenF_nK, thenF_r, thenF_x, blockF_n, blockF_nK, blockF_r, blockF_x, condF_t, condF_f, Rn_nil, Rn_ng, Rn_g, oneStep_g, os_move, os_assign, os_pick, os_bin, os_un, os_fieldAddr, os_field, os_indexAddr, os_index, os_slice, os_extract, os_nilCheck, os_makeFunc, os_build, os_len, os_cap, os_convert, os_min, os_max, on_load, on_buildSlice, on_alloc, on_box, on_makeSlice, on_lookup, mn_convert, mn_bin, optP_n, on_append, on_copy, on_store, on_call, ev, updo, upd, optP_s, resP_ok, resU_ok, ↓reduceIte, Nat.reduceEqDiff, List.map_cons, List.map_nil, List.map_toArray, argU, Nat.reduceAdd, gval_slot, gslot, List.getElem?_toArray, List.getElem?_cons_zero, List.getElem?_cons_succ, Option.bind_some, Option.some.injEq, reduceCtorEq, Bool.false_eq_true, Bool.true_eq_false, Option.map_some, Option.map_none, Int.toNat_zero, Option.isNone_none, Option.isNone_some, add_zero', binV, binI, unV, fieldV, extV, idxV, indexV, sliceV, lenV, capV, convV, min2V, max2V, TY, Option.isSome_some, Bool.true_and, Bool.and_true, Nat.mul_one, Int.toNat_natCast, le0n, Flat.val, Int.reduceToNat, Int.reduceLE, Int.reduceLT, Int.cast_ofNat_Int, decide_true, add_lit, Nat.zero_add, Nat.zero_mul, Nat.one_mul, Bool.not_true, Bool.not_false, h30, i29]
        refine condF_split (fun hc => ?_) (fun hc => ?_)
        · have hkt : k < x.length := by simpa using hc
          have hink := hux.inS hkt
          have hldk := ld_flat (P := Try.prog) (t := 3) hux (hle_ext hx3) (List.getElem?_eq_getElem hkt) tyG3
          simp only [Flat.val] at hldk
          have hmemk : x[k] ∈ x := List.getElem_mem hkt
          have htk : x.take (k + 1) = x.take k ++ [x[k]] := List.take_succ_eq_append_getElem hkt
          generalize x[k] = ft at hldk hmemk htk
          by_cases hlo : ft < 0
          · have d0 : decide (ft < 0) = true := by simpa using hlo
            simp only [CW_seq, CW_skip, CW_cond, CW_block, CW_loop, CW_reg, CW_draw, CW_exit, CW_ret, thenF_n, thenF_nK, thenF_r, thenF_x, blockF_n, blockF_nK, blockF_r, blockF_x, condF_t, condF_f, Rn_nil, Rn_ng, Rn_g, oneStep_g, os_move, os_assign, os_pick, os_bin, os_un, os_fieldAddr, os_field, os_indexAddr, os_index, os_slice, os_extract, os_nilCheck, os_makeFunc, os_build, os_len, os_cap, os_convert, os_min, os_max, on_load, on_buildSlice, on_alloc, on_box, on_makeSlice, on_lookup, mn_convert, mn_bin, optP_n, on_append, on_copy, on_store, on_call, ev, updo, upd, optP_s, resP_ok, resU_ok, ↓reduceIte, Nat.reduceEqDiff, List.map_cons, List.map_nil, List.map_toArray, argU, Nat.reduceAdd, gval_slot, gslot, List.getElem?_toArray, List.getElem?_cons_zero, List.getElem?_cons_succ, Option.bind_some, Option.some.injEq, reduceCtorEq, Bool.false_eq_true, Bool.true_eq_false, Option.map_some, Option.map_none, Int.toNat_zero, Option.isNone_none, Option.isNone_some, add_zero', binV, binI, unV, fieldV, extV, idxV, indexV, sliceV, lenV, capV, convV, min2V, max2V, TY, Option.isSome_some, Bool.true_and, Bool.and_true, Nat.mul_one, Int.toNat_natCast, le0n, Flat.val, Int.reduceToNat, Int.reduceLE, Int.reduceLT, Int.cast_ofNat_Int, decide_true, add_lit, Nat.zero_add, Nat.zero_mul, Nat.one_mul, Bool.not_true, Bool.not_false, h30, i28, i1, hink, hldk, d0]
            refine retq2 Try.results40 ?_
            simp only [upd, ↓reduceIte, Nat.reduceEqDiff]
            exact ⟨⟨_, false, rfl, (fun h => (by cases h)), (fun _ hf => (by have := hf x hxmem ft hmemk; omega))⟩, hx3⟩
          · have d0 : decide (ft < 0) = false := by simpa using hlo
            by_cases hhi : ft ≥ most
            · have d1 : decide (ft ≥ (most : Int)) = true := by simpa using hhi
              simp only [CW_seq, CW_skip, CW_cond, CW_block, CW_loop, CW_reg, CW_draw, CW_exit, CW_ret, thenF_n, thenF_nK, thenF_r, thenF_x, blockF_n, blockF_nK, blockF_r, blockF_x, condF_t, condF_f, Rn_nil, Rn_ng, Rn_g, oneStep_g, os_move, os_assign, os_pick, os_bin, os_un, os_fieldAddr, os_field, os_indexAddr, os_index, os_slice, os_extract, os_nilCheck, os_makeFunc, os_build, os_len, os_cap, os_convert, os_min, os_max, on_load, on_buildSlice, on_alloc, on_box, on_makeSlice, on_lookup, mn_convert, mn_bin, optP_n, on_append, on_copy, on_store, on_call, ev, updo, upd, optP_s, resP_ok, resU_ok, ↓reduceIte, Nat.reduceEqDiff, List.map_cons, List.map_nil, List.map_toArray, argU, Nat.reduceAdd, gval_slot, gslot, List.getElem?_toArray, List.getElem?_cons_zero, List.getElem?_cons_succ, Option.bind_some, Option.some.injEq, reduceCtorEq, Bool.false_eq_true, Bool.true_eq_false, Option.map_some, Option.map_none, Int.toNat_zero, Option.isNone_none, Option.isNone_some, add_zero', binV, binI, unV, fieldV, extV, idxV, indexV, sliceV, lenV, capV, convV, min2V, max2V, TY, Option.isSome_some, Bool.true_and, Bool.and_true, Nat.mul_one, Int.toNat_natCast, le0n, Flat.val, Int.reduceToNat, Int.reduceLE, Int.reduceLT, Int.cast_ofNat_Int, decide_true, add_lit, Nat.zero_add, Nat.zero_mul, Nat.one_mul, Bool.not_true, Bool.not_false, h30, i28, i1, hink, hldk, d0, d1]
              refine retq2 Try.results40 ?_
              simp only [upd, ↓reduceIte, Nat.reduceEqDiff]
              exact ⟨⟨_, false, rfl, (fun h => (by cases h)), (fun _ hf => (by have := hf x hxmem ft hmemk; omega))⟩, hx3⟩
            · have d1 : decide (ft ≥ (most : Int)) = false := by simpa using hhi
              obtain ⟨fn, hfn⟩ : ∃ fn : Nat, ft = fn := ⟨ft.toNat, by omega⟩
              have hin3 := hrows'.outer.inS (k := i) (by rw [hrows'.len]; omega)
              have hld3 := rows_ld (P := Try.prog) (t := 79) hrows' huiset tyG79
              have hob := hrows'.row i ⟨ur⟩ b huiset hbi
              have hfw : fn / 64 < b.length := by rw [hblen]; have : fn < most := by omega
                                                  have := Nat.div_le_div_right (c := 64) (Nat.le_of_lt this); omega
              have hput := put_any (hpOf w) ur b fn w3 hob hfw (by omega)
              rw [← hfn] at hput
              simp only [CW_seq, CW_skip, CW_cond, CW_block, CW_loop, CW_reg, CW_draw, CW_exit, CW_ret, thenF_n, thenF_nK, thenF_r, thenF_x, blockF_n, blockF_nK, blockF_r, blockF_x, condF_t, condF_f, Rn_nil, Rn_ng, Rn_g, oneStep_g, os_move, os_assign, os_pick, os_bin, os_un, os_fieldAddr, os_field, os_indexAddr, os_index, os_slice, os_extract, os_nilCheck, os_makeFunc, os_build, os_len, os_cap, os_convert, os_min, os_max, on_load, on_buildSlice, on_alloc, on_box, on_makeSlice, on_lookup, mn_convert, mn_bin, optP_n, on_append, on_copy, on_store, on_call, ev, updo, upd, optP_s, resP_ok, resU_ok, ↓reduceIte, Nat.reduceEqDiff, List.map_cons, List.map_nil, List.map_toArray, argU, Nat.reduceAdd, gval_slot, gslot, List.getElem?_toArray, List.getElem?_cons_zero, List.getElem?_cons_succ, Option.bind_some, Option.some.injEq, reduceCtorEq, Bool.false_eq_true, Bool.true_eq_false, Option.map_some, Option.map_none, Int.toNat_zero, Option.isNone_none, Option.isNone_some, add_zero', binV, binI, unV, fieldV, extV, idxV, indexV, sliceV, lenV, capV, convV, min2V, max2V, TY, Option.isSome_some, Bool.true_and, Bool.and_true, Nat.mul_one, Int.toNat_natCast, le0n, Flat.val, Int.reduceToNat, Int.reduceLE, Int.reduceLT, Int.cast_ofNat_Int, decide_true, add_lit, Nat.zero_add, Nat.zero_mul, Nat.one_mul, Bool.not_true, Bool.not_false, h30, i28, i1, i6, i7, hink, hldk, d0, d1, hin3, hld3]
              refine callP (by kernel_rfl : hasBody Try.prog 54 = true) hput ?_
              rintro r w4 ⟨hr, ho4, hm4⟩
              have hx4 : Ext w w4 := Mod.ext_of hx3 hm4 fun b hb => by
                have := hob.free hb
                exact Nat.le_of_not_lt fun hlt => by simp [hpOf, hlt] at this
              have hrows4 := hrows'.write huiset hm4 ho4
              simp only [CW_seq, CW_skip, CW_cond, CW_block, CW_loop, CW_reg, CW_draw, CW_exit, CW_ret, thenF_n, thenF_nK, thenF_r, thenF_x, blockF_n, blockF_nK, blockF_r, blockF_x, condF_t, condF_f, Rn_nil, Rn_ng, Rn_g, oneStep_g, os_move, os_assign, os_pick, os_bin, os_un, os_fieldAddr, os_field, os_indexAddr, os_index, os_slice, os_extract, os_nilCheck, os_makeFunc, os_build, os_len, os_cap, os_convert, os_min, os_max, on_load, on_buildSlice, on_alloc, on_box, on_makeSlice, on_lookup, mn_convert, mn_bin, optP_n, on_append, on_copy, on_store, on_call, ev, updo, upd, optP_s, resP_ok, resU_ok, ↓reduceIte, Nat.reduceEqDiff, List.map_cons, List.map_nil, List.map_toArray, argU, Nat.reduceAdd, gval_slot, gslot, List.getElem?_toArray, List.getElem?_cons_zero, List.getElem?_cons_succ, Option.bind_some, Option.some.injEq, reduceCtorEq, Bool.false_eq_true, Bool.true_eq_false, Option.map_some, Option.map_none, Int.toNat_zero, Option.isNone_none, Option.isNone_some, add_zero', binV, binI, unV, fieldV, extV, idxV, indexV, sliceV, lenV, capV, convV, min2V, max2V, TY, Option.isSome_some, Bool.true_and, Bool.and_true, Nat.mul_one, Int.toNat_natCast, le0n, Flat.val, Int.reduceToNat, Int.reduceLE, Int.reduceLT, Int.cast_ofNat_Int, decide_true, add_lit, Nat.zero_add, Nat.zero_mul, Nat.one_mul, Bool.not_true, Bool.not_false, h30]
              refine ⟨k + 1, by omega, by rw [i64s k (by omega)], by omega, ⟨_, _, hrows4, by simp [hbl'], fun j hj => ?_, List.getElem?_set_self (by omega), by rw [putB_len, hblen], fun f => ?_, fun f hf => ?_⟩, hx4⟩
              · rw [List.getElem?_set_ne (fun e => hj e.symm)]; exact hoth j hj
              · rw [hasB_put hfw, htk, Bool.or_eq_true, hbits f, List.mem_append, List.mem_singleton, decide_eq_true_eq]
                constructor
                · rintro (h | h)
                  · exact .inr (by rw [h, hfn])
                  · exact .inl h
                · rintro (h | h)
                  · exact .inr h
                  · exact .inl (by omega)
              · rw [htk, List.mem_append, List.mem_singleton] at hf
                rcases hf with hf | hf
                · exact hrng f hf
                · subst hf; exact ⟨by omega, by omega⟩
        · have hge : k = x.length := by simp at hc; omega
          subst hge
          rw [List.take_length] at hbits hrng
          simp only [CW_seq, CW_skip, CW_cond, CW_block, CW_loop, CW_reg, CW_draw, CW_exit, CW_ret, thenF_n, thenF_nK, thenF_r, thenF_x, blockF_n, blockF_nK, blockF_r, blockF_x, condF_t, condF_f, Rn_nil, Rn_ng, Rn_g, oneStep_g, os_move, os_assign, os_pick, os_bin, os_un, os_fieldAddr, os_field, os_indexAddr, os_index, os_slice, os_extract, os_nilCheck, os_makeFunc, os_build, os_len, os_cap, os_convert, os_min, os_max, on_load, on_buildSlice, on_alloc, on_box, on_makeSlice, on_lookup, mn_convert, mn_bin, optP_n, on_append, on_copy, on_store, on_call, ev, updo, upd, optP_s, resP_ok, resU_ok, ↓reduceIte, Nat.reduceEqDiff, List.map_cons, List.map_nil, List.map_toArray, argU, Nat.reduceAdd, gval_slot, gslot, List.getElem?_toArray, List.getElem?_cons_zero, List.getElem?_cons_succ, Option.bind_some, Option.some.injEq, reduceCtorEq, Bool.false_eq_true, Bool.true_eq_false, Option.map_some, Option.map_none, Int.toNat_zero, Option.isNone_none, Option.isNone_some, add_zero', binV, binI, unV, fieldV, extV, idxV, indexV, sliceV, lenV, capV, convV, min2V, max2V, TY, Option.isSome_some, Bool.true_and, Bool.and_true, Nat.mul_one, Int.toNat_natCast, le0n, Flat.val, Int.reduceToNat, Int.reduceLE, Int.reduceLT, Int.cast_ofNat_Int, decide_true, add_lit, Nat.zero_add, Nat.zero_mul, Nat.one_mul, Bool.not_true, Bool.not_false, i16]
          refine ⟨i + 1, by omega, by rw [i64s i (by omega)], by omega, ⟨us', bss', hrows', hbl', fun j y hj hy => ?_⟩, hx3⟩
          by_cases hji : j = i
          · subst hji
            rw [hxat] at hy
            obtain rfl := Option.some.inj hy
            exact ⟨⟨b, hbi, by rw [hblen, hm64], hbits⟩, hrng⟩
          · obtain ⟨⟨b', hb1, hb2⟩, h3⟩ := hdone j y (by omega) hy
            exact ⟨⟨b', by rw [hoth j hji]; exact hb1, hb2⟩, h3⟩
    · have hge : i = l.length := by simp at hc; omega
      subst hge
      simp only [CW_seq, CW_skip, CW_cond, CW_block, CW_loop, CW_reg, CW_draw, CW_exit, CW_ret, thenF_n, thenF_nK, thenF_r, thenF_x, blockF_n, blockF_nK, blockF_r, blockF_x, condF_t, condF_f, Rn_nil, Rn_ng, Rn_g, oneStep_g, os_move, os_assign, os_pick, os_bin, os_un, os_fieldAddr, os_field, os_indexAddr, os_index, os_slice, os_extract, os_nilCheck, os_makeFunc, os_build, os_len, os_cap, os_convert, os_min, os_max, on_load, on_buildSlice, on_alloc, on_box, on_makeSlice, on_lookup, mn_convert, mn_bin, optP_n, on_append, on_copy, on_store, on_call, ev, updo, upd, optP_s, resP_ok, resU_ok, ↓reduceIte, Nat.reduceEqDiff, List.map_cons, List.map_nil, List.map_toArray, argU, Nat.reduceAdd, gval_slot, gslot, List.getElem?_toArray, List.getElem?_cons_zero, List.getElem?_cons_succ, Option.bind_some, Option.some.injEq, reduceCtorEq, Bool.false_eq_true, Bool.true_eq_false, Option.map_some, Option.map_none, Int.toNat_zero, Option.isNone_none, Option.isNone_some, add_zero', binV, binI, unV, fieldV, extV, idxV, indexV, sliceV, lenV, capV, convV, min2V, max2V, TY, Option.isSome_some, Bool.true_and, Bool.and_true, Nat.mul_one, Int.toNat_natCast, le0n, Flat.val, Int.reduceToNat, Int.reduceLE, Int.reduceLT, Int.cast_ofNat_Int, decide_true, add_lit, Nat.zero_add, Nat.zero_mul, Nat.one_mul, Bool.not_true, Bool.not_false, e6]
      refine retq2 Try.results40 ?_
      simp only [upd, ↓reduceIte, Nat.reduceEqDiff]
      refine ⟨⟨_, true, rfl, fun _ => ⟨fun x hx f hf => ?_, bss, hrows.ro (hle_ext hx), hbl, fun i x hi => ?_⟩, (fun h => (by cases h))⟩, hx⟩
      · obtain ⟨j, hj⟩ := List.mem_iff_getElem?.1 hx
        exact (hdone j x (List.getElem?_eq_some_iff.1 hj).1 hj).2 f hf
      · exact (hdone i x (List.getElem?_eq_some_iff.1 hi).1 hi).1
end Go.Proofs.Ytldmnnloakpjlaa
