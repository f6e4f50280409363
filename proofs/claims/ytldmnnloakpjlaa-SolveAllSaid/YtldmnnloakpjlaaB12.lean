/- Contract: the graph's Reach. -/
import Derived.Test.YtldmnnloakpjlaaB11
import Derived.Test.YtldmnnloakpjlaaC3
set_option linter.unusedSimpArgs false
set_option linter.unusedVariables false
set_option maxRecDepth 100000
set_option linter.unnecessarySimpa false
namespace Go.Proofs.Ytldmnnloakpjlaa
open Go

theorem Reach_nil (v : Value) (w : World) : Calls Try.prog 27 #[.pointer none, v] w fun e w' => ∃ u, e = .returned u ∧ (u = .slice none 0 0 ∧ w' = w) := by
  refine calls_of_CW (args := [.pointer none, v]) hm Try.func27 rfl (by kernel_rfl) (by show 2 ≤ _; decide +kernel) ?_
  simp only [CW_seq, CW_skip, CW_cond, CW_block, CW_loop, CW_reg, CW_draw, CW_exit, CW_ret, thenF_n, thenF_nK, thenF_r, thenF_x, blockF_n, blockF_nK, blockF_r, blockF_x, condF_t, condF_f, Rn_nil, Rn_ng, Rn_g, oneStep_g, os_move, os_assign, os_pick, os_bin, os_un, os_fieldAddr, os_field, os_indexAddr, os_index, os_slice, os_extract, os_nilCheck, os_makeFunc, os_build, os_len, os_cap, os_convert, os_min, os_max, on_load, on_buildSlice, on_alloc, on_box, on_makeSlice, on_lookup, mn_convert, mn_bin, optP_n, on_append, on_copy, on_store, on_call, ev, updo, upd, optP_s, resP_ok, resU_ok, ↓reduceIte, Nat.reduceEqDiff, List.map_cons, List.map_nil, List.map_toArray, argU, Nat.reduceAdd, gval_slot, gslot, List.getElem?_toArray, List.getElem?_cons_zero, List.getElem?_cons_succ, Option.bind_some, Option.some.injEq, reduceCtorEq, Bool.false_eq_true, Bool.true_eq_false, Option.map_some, Option.map_none, Int.toNat_zero, Option.isNone_none, Option.isNone_some, add_zero', binV, binI, unV, fieldV, extV, idxV, indexV, sliceV, lenV, capV, convV, min2V, max2V, TY, Option.isSome_some, Bool.true_and, Bool.and_true, Nat.mul_one, Int.toNat_natCast, le0n, Flat.val, Int.reduceToNat, Int.reduceLE, Int.reduceLT, Int.cast_ofNat_Int, decide_true, add_lit, Nat.zero_add, Nat.zero_mul, Nat.one_mul, Bool.not_true, Bool.not_false]
  refine retq1 Try.results27 ?_
  simp only [upd, ↓reduceIte, Nat.reduceEqDiff]
  exact ⟨by trivial, by trivial⟩
/-- While the beginnings are marked. -/
structure FI (n : Nat) (l : List Int) (td : List Int) (sn : List Bool) : Prop where
  len : sn.length = n
  mark : ∀ b, bitAt sn b = true ↔ b ∈ td
  mem : ∀ b, b ∈ td ↔ b ∈ l ∧ okN n b = true
  count : td.length + sn.count false = n
theorem FI.start (n : Nat) : FI n [] [] (List.replicate n false) :=
  ⟨by simp, fun b => by simp [bitAt_rep], fun b => by simp, by simp⟩
theorem FI.old {n : Nat} {l td : List Int} {sn : List Bool} (h : FI n l td sn) {a : Int} (ha : okN n a = false ∨ bitAt sn a = true) : FI n (l ++ [a]) td sn := by
  refine ⟨h.len, h.mark, fun b => ?_, h.count⟩
  rw [h.mem, List.mem_append, List.mem_singleton]
  constructor
  · rintro ⟨h1, h2⟩; exact ⟨.inl h1, h2⟩
  · rintro ⟨h1 | h1, h2⟩
    · exact ⟨h1, h2⟩
    · subst h1
      rcases ha with ha | ha
      · rw [h2] at ha; cases ha
      · exact (h.mem b).1 ((h.mark b).1 ha)
theorem FI.new {n : Nat} {l td : List Int} {sn : List Bool} (h : FI n l td sn) {a : Int} (ha : okN n a = true) (hs : bitAt sn a = false) : FI n (l ++ [a]) (td ++ [a]) (sn.set a.toNat true) := by
  have ha2 : okN sn.length a = true := by rw [h.len]; exact ha
  have hlt := (bitAt_ok ha2).1
  have hget : sn[a.toNat] = false := by
    have := (bitAt_ok ha2).2
    rw [hs] at this
    simp [List.getD, hlt] at this
    exact this
  refine ⟨by simp [h.len], fun b => ?_, fun b => ?_, ?_⟩
  · rw [bitAt_set ha2, List.mem_append, List.mem_singleton]
    by_cases hb : b = a
    · subst hb; simp
    · simp [hb, h.mark b]
  · rw [List.mem_append, List.mem_append, List.mem_singleton, h.mem]
    constructor
    · rintro (⟨h1, h2⟩ | rfl)
      · exact ⟨.inl h1, h2⟩
      · exact ⟨.inr rfl, ha⟩
    · rintro ⟨h1 | h1, h2⟩
      · exact .inl ⟨h1, h2⟩
      · exact .inr h1
  · have := h.count
    have := count_set_true hlt hget
    simp only [List.length_append, List.length_singleton]
    omega

theorem Reach_any (pg : Value) (nx pv : List (List Int)) (v : Value) (l : List Int) (w : World) (hgr : GR (hpOf w) pg nx pv) (hg : GoodRows nx.length nx) (hn5 : nx.length ≤ 5000) (hv : R (hpOf w) v l) (hl : l.length ≤ 1000000000) :
    Calls Try.prog 27 #[pg, v] w fun e w' => ∃ u, e = .returned u ∧ ((∃ r, Own (hpOf w) w' 3 u r ∧ SetOf r (Rch nx l)) ∧ Ext w w') := by
  have hgr' := hgr
  obtain ⟨gb, vn, vp, rfl, h1, h2, h3, h4⟩ := hgr
  refine calls_of_CW (args := [.pointer (some ⟨gb, 0, none⟩), v]) hm Try.func27 rfl (by kernel_rfl) (by show 2 ≤ _; decide +kernel) ?_
  have hld := ld_at (P := Try.prog) (t := 23) h1 (hle_refl _) tyG23
  have hSn := h3.isS
  have hnn := h3.vlen
  have hS := hv.isS
  have hvn := hv.vlen
  obtain ⟨u0, w0, hmk, ho0, hx0, hf0, _⟩ := mk (P := Try.prog) (w := w) (h := hpOf w) sokB tyZ4 (α := Bool) (y := false) rfl (n := nx.length) (by omega) (by omega) (hle_refl _)
  simp only [CW_seq, CW_skip, CW_cond, CW_block, CW_loop, CW_reg, CW_draw, CW_exit, CW_ret, thenF_n, thenF_nK, thenF_r, thenF_x, blockF_n, blockF_nK, blockF_r, blockF_x, condF_t, condF_f, Rn_nil, Rn_ng, Rn_g, oneStep_g, os_move, os_assign, os_pick, os_bin, os_un, os_fieldAddr, os_field, os_indexAddr, os_index, os_slice, os_extract, os_nilCheck, os_makeFunc, os_build, os_len, os_cap, os_convert, os_min, os_max, on_load, on_buildSlice, on_alloc, on_box, on_makeSlice, on_lookup, mn_convert, mn_bin, optP_n, on_append, on_copy, on_store, on_call, ev, updo, upd, optP_s, resP_ok, resU_ok, ↓reduceIte, Nat.reduceEqDiff, List.map_cons, List.map_nil, List.map_toArray, argU, Nat.reduceAdd, gval_slot, gslot, List.getElem?_toArray, List.getElem?_cons_zero, List.getElem?_cons_succ, Option.bind_some, Option.some.injEq, reduceCtorEq, Bool.false_eq_true, Bool.true_eq_false, Option.map_some, Option.map_none, Int.toNat_zero, Option.isNone_none, Option.isNone_some, add_zero', binV, binI, unV, fieldV, extV, idxV, indexV, sliceV, lenV, capV, convV, min2V, max2V, TY, Option.isSome_some, Bool.true_and, Bool.and_true, Nat.mul_one, Int.toNat_natCast, le0n, Flat.val, Int.reduceToNat, Int.reduceLE, Int.reduceLT, Int.cast_ofNat_Int, decide_true, add_lit, Nat.zero_add, Nat.zero_mul, Nat.one_mul, Bool.not_true, Bool.not_false, hld, hSn, hnn, hmk, hS, hvn]
  refine loop_rule [0, 1, 5, 17, 18] (σ := List Int × List Bool × Nat) (fun s f w' => f 19 = .int .i64 s.2.2 ∧ s.2.2 ≤ l.length ∧ Own (hpOf w) w' 3 (f 6) s.1 ∧ Own (hpOf w) w' 4 u0 s.2.1 ∧ (∀ b, blk u0 b → ¬ blk (f 6) b) ∧ Ext w w' ∧ FI nx.length (l.take s.2.2) s.1 s.2.1)
    (fun s => l.length - s.2.2) ([], List.replicate nx.length false, 0) (by decide +kernel) ?_ ?_
  · simp only [upd, ↓reduceIte, Nat.reduceEqDiff]
    exact ⟨by trivial, Nat.zero_le _, Own.nil _ _ _, ho0, fun b _ hb => blk_nil hb, hx0, FI.start _⟩
  · rintro ⟨td, sn, k⟩ f w1 hk ⟨h19, hkl, hot, hos, hds, hx, hi⟩
    simp only at h19 hkl hot hos hi
    simp only [List.forall_mem_cons, upd, ↓reduceIte, Nat.reduceEqDiff] at hk
    obtain ⟨e0, e1, e5, e17, e18, _⟩ := hk
    have hcnt := hi.count
    simp only [CW_seq, CW_skip, CW_cond, CW_block, CW_loop, CW_reg, CW_draw, CW_exit, CW_ret, thenF_n, thenF_nK, thenF_r, thenF_x, blockF_n, blockF_nK, blockF_r, blockF_x, condF_t, condF_f, Rn_nil, Rn_ng, Rn_g, oneStep_g, os_move, os_assign, os_pick, os_bin, os_un, os_fieldAddr, os_field, os_indexAddr, os_index, os_slice, os_extract, os_nilCheck, os_makeFunc, os_build, os_len, os_cap, os_convert, os_min, os_max, on_load, on_buildSlice, on_alloc, on_box, on_makeSlice, on_lookup, mn_convert, mn_bin, optP_n, on_append, on_copy, on_store, on_call, ev, updo, upd, optP_s, resP_ok, resU_ok, ↓reduceIte, Nat.reduceEqDiff, List.map_cons, List.map_nil, List.map_toArray, argU, Nat.reduceAdd, gval_slot, gslot, List.getElem?_toArray, List.getElem?_cons_zero, List.getElem?_cons_succ, Option.bind_some, Option.some.injEq, reduceCtorEq, Bool.false_eq_true, Bool.true_eq_false, Option.map_some, Option.map_none, Int.toNat_zero, Option.isNone_none, Option.isNone_some, add_zero', binV, binI, unV, fieldV, extV, idxV, indexV, sliceV, lenV, capV, convV, min2V, max2V, TY, Option.isSome_some, Bool.true_and, Bool.and_true, Nat.mul_one, Int.toNat_natCast, le0n, Flat.val, Int.reduceToNat, Int.reduceLE, Int.reduceLT, Int.cast_ofNat_Int, decide_true, add_lit, Nat.zero_add, Nat.zero_mul, Nat.one_mul, Bool.not_true, Bool.not_false, h19, e17, e18]
    refine condF_split (fun hc => ?_) (fun hc => ?_)
    · have hlt : k < l.length := by simpa using hc
      have hin := hv.inS hlt
      have hlda := ld_flat (P := Try.prog) (t := 3) hv (hle_ext hx) (List.getElem?_eq_getElem hlt) tyG3
      have htk := List.take_succ_eq_append_getElem hlt
      generalize hla : l[k] = a at hlda htk
      simp only [CW_seq, CW_skip, CW_cond, CW_block, CW_loop, CW_reg, CW_draw, CW_exit, CW_ret, thenF_n, thenF_nK, thenF_r, thenF_x, blockF_n, blockF_nK, blockF_r, blockF_x, condF_t, condF_f, Rn_nil, Rn_ng, Rn_g, oneStep_g, os_move, os_assign, os_pick, os_bin, os_un, os_fieldAddr, os_field, os_indexAddr, os_index, os_slice, os_extract, os_nilCheck, os_makeFunc, os_build, os_len, os_cap, os_convert, os_min, os_max, on_load, on_buildSlice, on_alloc, on_box, on_makeSlice, on_lookup, mn_convert, mn_bin, optP_n, on_append, on_copy, on_store, on_call, ev, updo, upd, optP_s, resP_ok, resU_ok, ↓reduceIte, Nat.reduceEqDiff, List.map_cons, List.map_nil, List.map_toArray, argU, Nat.reduceAdd, gval_slot, gslot, List.getElem?_toArray, List.getElem?_cons_zero, List.getElem?_cons_succ, Option.bind_some, Option.some.injEq, reduceCtorEq, Bool.false_eq_true, Bool.true_eq_false, Option.map_some, Option.map_none, Int.toNat_zero, Option.isNone_none, Option.isNone_some, add_zero', binV, binI, unV, fieldV, extV, idxV, indexV, sliceV, lenV, capV, convV, min2V, max2V, TY, Option.isSome_some, Bool.true_and, Bool.and_true, Nat.mul_one, Int.toNat_natCast, le0n, Flat.val, Int.reduceToNat, Int.reduceLE, Int.reduceLT, Int.cast_ofNat_Int, decide_true, add_lit, Nat.zero_add, Nat.zero_mul, Nat.one_mul, Bool.not_true, Bool.not_false, h19, e17, e18, e0, hin, hlda]
      refine callP (by kernel_rfl : hasBody Try.prog 45 = true) (ghas_any _ nx pv a w1 (hgr'.mono (hle_ext hx))) ?_
      rintro u w1 ⟨rfl, rfl⟩
      by_cases ha : okN nx.length a = true
      · have hak2 : okN sn.length a = true := by rw [hi.len]; exact ha
        obtain ⟨halt, hag⟩ := bitAt_ok hak2
        have hins := hos.inS halt
        have d1 : decide (0 ≤ a) = true := by simpa using (okN_iff.1 ha).1
        have hlds := own_ld_flat (P := Try.prog) (t := 4) hos (k := a.toNat) (x := bitAt sn a) (by rw [hag]; simp [List.getD, halt]) tyG4
        have hSs := hos.isS
        by_cases hbs : bitAt sn a = true
        · have hbs' : (!bitAt sn a) = false := by rw [hbs]; rfl
          simp only [CW_seq, CW_skip, CW_cond, CW_block, CW_loop, CW_reg, CW_draw, CW_exit, CW_ret, thenF_n, thenF_nK, thenF_r, thenF_x, blockF_n, blockF_nK, blockF_r, blockF_x, condF_t, condF_f, Rn_nil, Rn_ng, Rn_g, oneStep_g, os_move, os_assign, os_pick, os_bin, os_un, os_fieldAddr, os_field, os_indexAddr, os_index, os_slice, os_extract, os_nilCheck, os_makeFunc, os_build, os_len, os_cap, os_convert, os_min, os_max, on_load, on_buildSlice, on_alloc, on_box, on_makeSlice, on_lookup, mn_convert, mn_bin, optP_n, on_append, on_copy, on_store, on_call, ev, updo, upd, optP_s, resP_ok, resU_ok, ↓reduceIte, Nat.reduceEqDiff, List.map_cons, List.map_nil, List.map_toArray, argU, Nat.reduceAdd, gval_slot, gslot, List.getElem?_toArray, List.getElem?_cons_zero, List.getElem?_cons_succ, Option.bind_some, Option.some.injEq, reduceCtorEq, Bool.false_eq_true, Bool.true_eq_false, Option.map_some, Option.map_none, Int.toNat_zero, Option.isNone_none, Option.isNone_some, add_zero', binV, binI, unV, fieldV, extV, idxV, indexV, sliceV, lenV, capV, convV, min2V, max2V, TY, Option.isSome_some, Bool.true_and, Bool.and_true, Nat.mul_one, Int.toNat_natCast, le0n, Flat.val, Int.reduceToNat, Int.reduceLE, Int.reduceLT, Int.cast_ofNat_Int, decide_true, add_lit, Nat.zero_add, Nat.zero_mul, Nat.one_mul, Bool.not_true, Bool.not_false, ha, h19, e17, e18, e5, hSs, hins, d1, hlds, hbs']
          refine ⟨(td, sn, k + 1), by simp only []; omega, by simp only []; rw [i64s k (by omega)], by simp only []; omega, hot, hos, hds, hx, ?_⟩
          simp only []
          rw [htk]
          exact hi.old (.inr hbs)
        · have hbf : bitAt sn a = false := by simpa using hbs
          have hbs' : (!bitAt sn a) = true := by rw [hbf]; rfl
          obtain ⟨w3, s1, s2, s3, s4⟩ := own_store (P := Try.prog) (t := 4) hos rfl (k := a.toNat) halt (x := .bool true) (y := true) rfl rfl (zeroT_info tyZ4).choose_spec.1 (by rw [← szT_info (zeroT_info tyZ4).choose_spec.1]; exact tyS4)
          have hot3 := hot.mod s3 fun b hb hb2 => hds b hb2 hb
          have hx3 := hos.ext2 hx s3
          obtain ⟨p1, u', w4, p2, p3, p4, p5⟩ := push (e := 37) sokI rfl hot3 (x := .int .i64 a) (y := a) rfl (by omega) (by omega) (hle_ext hx3)
          simp only [Value.cells] at p1 p2
          simp only [CW_seq, CW_skip, CW_cond, CW_block, CW_loop, CW_reg, CW_draw, CW_exit, CW_ret, thenF_n, thenF_nK, thenF_r, thenF_x, blockF_n, blockF_nK, blockF_r, blockF_x, condF_t, condF_f, Rn_nil, Rn_ng, Rn_g, oneStep_g, os_move, os_assign, os_pick, os_bin, os_un, os_fieldAddr, os_field, os_indexAddr, os_index, os_slice, os_extract, os_nilCheck, os_makeFunc, os_build, os_len, os_cap, os_convert, os_min, os_max, on_load, on_buildSlice, on_alloc, on_box, on_makeSlice, on_lookup, mn_convert, mn_bin, optP_n, on_append, on_copy, on_store, on_call, ev, updo, upd, optP_s, resP_ok, resU_ok, ↓reduceIte, Nat.reduceEqDiff, List.map_cons, List.map_nil, List.map_toArray, argU, Nat.reduceAdd, gval_slot, gslot, List.getElem?_toArray, List.getElem?_cons_zero, List.getElem?_cons_succ, Option.bind_some, Option.some.injEq, reduceCtorEq, Bool.false_eq_true, Bool.true_eq_false, Option.map_some, Option.map_none, Int.toNat_zero, Option.isNone_none, Option.isNone_some, add_zero', binV, binI, unV, fieldV, extV, idxV, indexV, sliceV, lenV, capV, convV, min2V, max2V, TY, Option.isSome_some, Bool.true_and, Bool.and_true, Nat.mul_one, Int.toNat_natCast, le0n, Flat.val, Int.reduceToNat, Int.reduceLE, Int.reduceLT, Int.cast_ofNat_Int, decide_true, add_lit, Nat.zero_add, Nat.zero_mul, Nat.one_mul, Bool.not_true, Bool.not_false, ha, h19, e17, e18, e5, hSs, hins, d1, hlds, hbs', s1, p1, p2, Value.cells]
          refine ⟨(td ++ [a], sn.set a.toNat true, k + 1), by simp only []; omega, by simp only []; rw [i64s k (by omega)], by simp only []; omega, p3, s2.mod p4 (fun b hb hb2 => hds b hb hb2), ?_, hot3.ext2 hx3 p4, ?_⟩
          · intro c hc1 hc2
            rcases p5 c hc2 with h1 | h1
            · exact hds c hc1 h1
            · have := s2.lt hc1; omega
          · simp only []
            rw [htk]
            exact hi.new ha hbf
      · have ha' : okN nx.length a = false := by simpa using ha
        simp only [CW_seq, CW_skip, CW_cond, CW_block, CW_loop, CW_reg, CW_draw, CW_exit, CW_ret, thenF_n, thenF_nK, thenF_r, thenF_x, blockF_n, blockF_nK, blockF_r, blockF_x, condF_t, condF_f, Rn_nil, Rn_ng, Rn_g, oneStep_g, os_move, os_assign, os_pick, os_bin, os_un, os_fieldAddr, os_field, os_indexAddr, os_index, os_slice, os_extract, os_nilCheck, os_makeFunc, os_build, os_len, os_cap, os_convert, os_min, os_max, on_load, on_buildSlice, on_alloc, on_box, on_makeSlice, on_lookup, mn_convert, mn_bin, optP_n, on_append, on_copy, on_store, on_call, ev, updo, upd, optP_s, resP_ok, resU_ok, ↓reduceIte, Nat.reduceEqDiff, List.map_cons, List.map_nil, List.map_toArray, argU, Nat.reduceAdd, gval_slot, gslot, List.getElem?_toArray, List.getElem?_cons_zero, List.getElem?_cons_succ, Option.bind_some, Option.some.injEq, reduceCtorEq, Bool.false_eq_true, Bool.true_eq_false, Option.map_some, Option.map_none, Int.toNat_zero, Option.isNone_none, Option.isNone_some, add_zero', binV, binI, unV, fieldV, extV, idxV, indexV, sliceV, lenV, capV, convV, min2V, max2V, TY, Option.isSome_some, Bool.true_and, Bool.and_true, Nat.mul_one, Int.toNat_natCast, le0n, Flat.val, Int.reduceToNat, Int.reduceLE, Int.reduceLT, Int.cast_ofNat_Int, decide_true, add_lit, Nat.zero_add, Nat.zero_mul, Nat.one_mul, Bool.not_true, Bool.not_false, ha', h19]
        refine ⟨(td, sn, k + 1), by simp only []; omega, by simp only []; rw [i64s k (by omega)], by simp only []; omega, hot, hos, hds, hx, ?_⟩
        simp only []
        rw [htk]
        exact hi.old (.inl ha')
    · have hge : k = l.length := by simp at hc; omega
      subst hge
      rw [List.take_length] at hi
      have hld1 := ld_at (P := Try.prog) (t := 23) h1 (hle_ext hx) tyG23
      simp only [CW_seq, CW_skip, CW_cond, CW_block, CW_loop, CW_reg, CW_draw, CW_exit, CW_ret, thenF_n, thenF_nK, thenF_r, thenF_x, blockF_n, blockF_nK, blockF_r, blockF_x, condF_t, condF_f, Rn_nil, Rn_ng, Rn_g, oneStep_g, os_move, os_assign, os_pick, os_bin, os_un, os_fieldAddr, os_field, os_indexAddr, os_index, os_slice, os_extract, os_nilCheck, os_makeFunc, os_build, os_len, os_cap, os_convert, os_min, os_max, on_load, on_buildSlice, on_alloc, on_box, on_makeSlice, on_lookup, mn_convert, mn_bin, optP_n, on_append, on_copy, on_store, on_call, ev, updo, upd, optP_s, resP_ok, resU_ok, ↓reduceIte, Nat.reduceEqDiff, List.map_cons, List.map_nil, List.map_toArray, argU, Nat.reduceAdd, gval_slot, gslot, List.getElem?_toArray, List.getElem?_cons_zero, List.getElem?_cons_succ, Option.bind_some, Option.some.injEq, reduceCtorEq, Bool.false_eq_true, Bool.true_eq_false, Option.map_some, Option.map_none, Int.toNat_zero, Option.isNone_none, Option.isNone_some, add_zero', binV, binI, unV, fieldV, extV, idxV, indexV, sliceV, lenV, capV, convV, min2V, max2V, TY, Option.isSome_some, Bool.true_and, Bool.and_true, Nat.mul_one, Int.toNat_natCast, le0n, Flat.val, Int.reduceToNat, Int.reduceLE, Int.reduceLT, Int.cast_ofNat_Int, decide_true, add_lit, Nat.zero_add, Nat.zero_mul, Nat.one_mul, Bool.not_true, Bool.not_false, e0, e5, hld1]
      refine callP (by kernel_rfl : hasBody Try.prog 46 = true) (walk_any (hpOf w) vn u0 (f 6) nx sn td w1 (hle_ext hx) h3 hg hos hot hds hi.len (fun a ha => (hi.mark a).2 ha) hn5 (by omega)) ?_
      rintro u w2 ⟨td2, sn2, hot2, hos2, hds2, hm2, hmv2, hok⟩
      have hx2 : Ext w w2 := Mod.ext_of hx hm2 fun b hb => by
        rcases Nat.lt_or_ge b w.heap.size with hlt | hge
        · have : (hpOf w) b = none := hb.elim hos.free hot.free
          simp [hpOf, hlt] at this
        · exact hge
      have hl2 : sn2.length = nx.length := by rw [hok.len, hi.len]
      simp only [CW_seq, CW_skip, CW_cond, CW_block, CW_loop, CW_reg, CW_draw, CW_exit, CW_ret, thenF_n, thenF_nK, thenF_r, thenF_x, blockF_n, blockF_nK, blockF_r, blockF_x, condF_t, condF_f, Rn_nil, Rn_ng, Rn_g, oneStep_g, os_move, os_assign, os_pick, os_bin, os_un, os_fieldAddr, os_field, os_indexAddr, os_index, os_slice, os_extract, os_nilCheck, os_makeFunc, os_build, os_len, os_cap, os_convert, os_min, os_max, on_load, on_buildSlice, on_alloc, on_box, on_makeSlice, on_lookup, mn_convert, mn_bin, optP_n, on_append, on_copy, on_store, on_call, ev, updo, upd, optP_s, resP_ok, resU_ok, ↓reduceIte, Nat.reduceEqDiff, List.map_cons, List.map_nil, List.map_toArray, argU, Nat.reduceAdd, gval_slot, gslot, List.getElem?_toArray, List.getElem?_cons_zero, List.getElem?_cons_succ, Option.bind_some, Option.some.injEq, reduceCtorEq, Bool.false_eq_true, Bool.true_eq_false, Option.map_some, Option.map_none, Int.toNat_zero, Option.isNone_none, Option.isNone_some, add_zero', binV, binI, unV, fieldV, extV, idxV, indexV, sliceV, lenV, capV, convV, min2V, max2V, TY, Option.isSome_some, Bool.true_and, Bool.and_true, Nat.mul_one, Int.toNat_natCast, le0n, Flat.val, Int.reduceToNat, Int.reduceLE, Int.reduceLT, Int.cast_ofNat_Int, decide_true, add_lit, Nat.zero_add, Nat.zero_mul, Nat.one_mul, Bool.not_true, Bool.not_false, e5]
      refine callP (by kernel_rfl : hasBody Try.prog 47 = true) (listed_any u0 sn2 w2 (hos2.rw_ (hle_ext hx2)) (by omega)) ?_
      rintro r w3 ⟨hr, hx3⟩
      simp only [CW_seq, CW_skip, CW_cond, CW_block, CW_loop, CW_reg, CW_draw, CW_exit, CW_ret, thenF_n, thenF_nK, thenF_r, thenF_x, blockF_n, blockF_nK, blockF_r, blockF_x, condF_t, condF_f, Rn_nil, Rn_ng, Rn_g, oneStep_g, os_move, os_assign, os_pick, os_bin, os_un, os_fieldAddr, os_field, os_indexAddr, os_index, os_slice, os_extract, os_nilCheck, os_makeFunc, os_build, os_len, os_cap, os_convert, os_min, os_max, on_load, on_buildSlice, on_alloc, on_box, on_makeSlice, on_lookup, mn_convert, mn_bin, optP_n, on_append, on_copy, on_store, on_call, ev, updo, upd, optP_s, resP_ok, resU_ok, ↓reduceIte, Nat.reduceEqDiff, List.map_cons, List.map_nil, List.map_toArray, argU, Nat.reduceAdd, gval_slot, gslot, List.getElem?_toArray, List.getElem?_cons_zero, List.getElem?_cons_succ, Option.bind_some, Option.some.injEq, reduceCtorEq, Bool.false_eq_true, Bool.true_eq_false, Option.map_some, Option.map_none, Int.toNat_zero, Option.isNone_none, Option.isNone_some, add_zero', binV, binI, unV, fieldV, extV, idxV, indexV, sliceV, lenV, capV, convV, min2V, max2V, TY, Option.isSome_some, Bool.true_and, Bool.and_true, Nat.mul_one, Int.toNat_natCast, le0n, Flat.val, Int.reduceToNat, Int.reduceLE, Int.reduceLT, Int.cast_ofNat_Int, decide_true, add_lit, Nat.zero_add, Nat.zero_mul, Nat.one_mul, Bool.not_true, Bool.not_false]
      refine retq1 Try.results27 ?_
      simp only [upd, ↓reduceIte, Nat.reduceEqDiff]
      refine ⟨⟨_, hr.back hx2, listedF_sorted _ _, fun b => ?_⟩, hx2.trans hx3⟩
      rw [mem_listedF, hok.mark, ← via_rch hi.mark hi.mem]
      constructor
      · rintro (hb | hb)
        · exact .base ((hi.mark b).1 hb)
        · exact (hok.via b).1 hb
      · exact fun hb => .inr ((hok.via b).2 hb)
end Go.Proofs.Ytldmnnloakpjlaa
