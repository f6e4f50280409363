/- Contracts: graph.walk, Reach. -/
import Derived.Test.YtldmnnloakpjlaaB10
import Derived.Test.YtldmnnloakpjlaaC2
set_option linter.unusedSimpArgs false
set_option linter.unusedVariables false
set_option maxRecDepth 100000
set_option linter.unnecessarySimpa false
namespace Go.Proofs.Ytldmnnloakpjlaa
open Go

theorem walk_any (h : Hp) (vn vs vt : Value) (nx : List (List Int)) (seen : List Bool) (todo : List Int) (w : World) (hw : hle h (hpOf w)) (hn : R h vn nx) (hg : GoodRows nx.length nx) (hs : Own h w 4 vs seen) (ht : Own h w 3 vt todo)
    (hd : ∀ b, blk vs b → ¬ blk vt b) (hlen : seen.length = nx.length) (hto : ∀ a ∈ todo, bitAt seen a = true) (hb1 : nx.length ≤ 5000) (hb2 : todo.length ≤ 1000000) :
    Calls Try.prog 46 #[vn, vs, vt] w fun e w' => ∃ u, e = .returned u ∧ ∃ todo' seen', Own h w' 3 u todo' ∧ Own h w' 4 vs seen' ∧ (∀ b, blk vs b → ¬ blk u b) ∧ Mod (fun b => blk vs b ∨ blk vt b) w w' ∧ movedTo w vt u ∧ WalkOk nx seen todo seen' todo' := by
  refine calls_of_CW (args := [vn, vs, vt]) hm Try.func46 rfl (by kernel_rfl) (by show 3 ≤ _; decide +kernel) ?_
  simp only [CW_seq, CW_skip, CW_cond, CW_block, CW_loop, CW_reg, CW_draw, CW_exit, CW_ret, thenF_n, thenF_nK, thenF_r, thenF_x, blockF_n, blockF_nK, blockF_r, blockF_x, condF_t, condF_f, Rn_nil, Rn_ng, Rn_g, oneStep_g, os_move, os_assign, os_pick, os_bin, os_un, os_fieldAddr, os_field, os_indexAddr, os_index, os_slice, os_extract, os_nilCheck, os_makeFunc, os_build, os_len, os_cap, os_convert, os_min, os_max, on_load, on_buildSlice, on_alloc, on_box, on_makeSlice, on_lookup, mn_convert, mn_bin, optP_n, on_append, on_copy, on_store, on_call, ev, updo, upd, optP_s, resP_ok, resU_ok, ↓reduceIte, Nat.reduceEqDiff, List.map_cons, List.map_nil, List.map_toArray, argU, Nat.reduceAdd, gval_slot, gslot, List.getElem?_toArray, List.getElem?_cons_zero, List.getElem?_cons_succ, Option.bind_some, Option.some.injEq, reduceCtorEq, Bool.false_eq_true, Bool.true_eq_false, Option.map_some, Option.map_none, Int.toNat_zero, Option.isNone_none, Option.isNone_some, add_zero', binV, binI, unV, fieldV, extV, idxV, indexV, sliceV, lenV, capV, convV, min2V, max2V, TY, Option.isSome_some, Bool.true_and, Bool.and_true, Nat.mul_one, Int.toNat_natCast, le0n, Flat.val, Int.reduceToNat, Int.reduceLE, Int.reduceLT, Int.cast_ofNat_Int, decide_true, add_lit, Nat.zero_add, Nat.zero_mul, Nat.one_mul, Bool.not_true, Bool.not_false]
  have hSn := hn.isS
  refine loop_rule [0, 1] (σ := List Int × List Bool × Nat) (fun s f w' => f 7 = .int .i64 s.2.2 ∧ Own h w' 3 (f 2) s.1 ∧ Own h w' 4 vs s.2.1 ∧ (∀ b, blk vs b → ¬ blk (f 2) b) ∧ Mod (fun b => blk vs b ∨ blk vt b) w w' ∧ movedTo w vt (f 2) ∧ WI nx seen todo s.1 s.2.1 s.2.2)
    (fun s => todo.length + seen.count false - s.2.2) (todo, seen, 0) (by decide +kernel) ?_ ?_
  · simp only [upd, ↓reduceIte, Nat.reduceEqDiff]
    exact ⟨by trivial, ht, hs, hd, Mod.refl _, fun b hb => .inl hb, WI.start hto⟩
  · rintro ⟨td, sn, i⟩ f w1 hk ⟨h7, hot, hos, hds, hm, hmv, hi⟩
    simp only at h7 hot hos hi
    simp only [List.forall_mem_cons, upd, ↓reduceIte, Nat.reduceEqDiff] at hk
    obtain ⟨e0, e1, _⟩ := hk
    have hStd := hot.isS
    have hltd := hot.vlen
    have hcnt := hi.count
    have hsc := List.count_le_length (a := false) (l := seen)
    have hmh : ∀ b, (blk vs b ∨ blk vt b) → h b = none := fun b hb => hb.elim hs.free ht.free
    simp only [CW_seq, CW_skip, CW_cond, CW_block, CW_loop, CW_reg, CW_draw, CW_exit, CW_ret, thenF_n, thenF_nK, thenF_r, thenF_x, blockF_n, blockF_nK, blockF_r, blockF_x, condF_t, condF_f, Rn_nil, Rn_ng, Rn_g, oneStep_g, os_move, os_assign, os_pick, os_bin, os_un, os_fieldAddr, os_field, os_indexAddr, os_index, os_slice, os_extract, os_nilCheck, os_makeFunc, os_build, os_len, os_cap, os_convert, os_min, os_max, on_load, on_buildSlice, on_alloc, on_box, on_makeSlice, on_lookup, mn_convert, mn_bin, optP_n, on_append, on_copy, on_store, on_call, ev, updo, upd, optP_s, resP_ok, resU_ok, ↓reduceIte, Nat.reduceEqDiff, List.map_cons, List.map_nil, List.map_toArray, argU, Nat.reduceAdd, gval_slot, gslot, List.getElem?_toArray, List.getElem?_cons_zero, List.getElem?_cons_succ, Option.bind_some, Option.some.injEq, reduceCtorEq, Bool.false_eq_true, Bool.true_eq_false, Option.map_some, Option.map_none, Int.toNat_zero, Option.isNone_none, Option.isNone_some, add_zero', binV, binI, unV, fieldV, extV, idxV, indexV, sliceV, lenV, capV, convV, min2V, max2V, TY, Option.isSome_some, Bool.true_and, Bool.and_true, Nat.mul_one, Int.toNat_natCast, le0n, Flat.val, Int.reduceToNat, Int.reduceLE, Int.reduceLT, Int.cast_ofNat_Int, decide_true, add_lit, Nat.zero_add, Nat.zero_mul, Nat.one_mul, Bool.not_true, Bool.not_false, h7, hStd, hltd]
    refine condF_split (fun hc => ?_) (fun hc => ?_)
    · have hlt : i < td.length := by simpa using hc
      have hint := hot.inS hlt
      have hldt := own_ld_flat (P := Try.prog) (t := 3) hot (List.getElem?_eq_getElem hlt) tyG3
      generalize hta : td[i] = a at hldt
      have hta' : td[i]? = some a := by rw [List.getElem?_eq_getElem hlt, hta]
      have ham : a ∈ td := List.mem_of_getElem? hta'
      have hak : okN nx.length a = true := by
        have := bitAt_true ((hi.mark a).2 (.inr ham))
        rw [hi.len, hlen] at this
        exact this
      obtain ⟨hx1, hx2⟩ := rowF_at hak
      have hina := hn.inS hx2
      have d0 : decide (0 ≤ a) = true := by simpa using (okN_iff.1 hak).1
      obtain ⟨x, hx3, hx4⟩ := hn.row hx1
      have hww : hle h (hpOf w1) := hle_mod hw hm hmh
      have hldx := ld_at (P := Try.prog) (t := 37) hx4 hww tyG37
      have hxS := hx3.isS
      have hxn := hx3.vlen
      have hxm := rowF_mem hak
      have hxl := hg.row_len hxm
      simp only [CW_seq, CW_skip, CW_cond, CW_block, CW_loop, CW_reg, CW_draw, CW_exit, CW_ret, thenF_n, thenF_nK, thenF_r, thenF_x, blockF_n, blockF_nK, blockF_r, blockF_x, condF_t, condF_f, Rn_nil, Rn_ng, Rn_g, oneStep_g, os_move, os_assign, os_pick, os_bin, os_un, os_fieldAddr, os_field, os_indexAddr, os_index, os_slice, os_extract, os_nilCheck, os_makeFunc, os_build, os_len, os_cap, os_convert, os_min, os_max, on_load, on_buildSlice, on_alloc, on_box, on_makeSlice, on_lookup, mn_convert, mn_bin, optP_n, on_append, on_copy, on_store, on_call, ev, updo, upd, optP_s, resP_ok, resU_ok, ↓reduceIte, Nat.reduceEqDiff, List.map_cons, List.map_nil, List.map_toArray, argU, Nat.reduceAdd, gval_slot, gslot, List.getElem?_toArray, List.getElem?_cons_zero, List.getElem?_cons_succ, Option.bind_some, Option.some.injEq, reduceCtorEq, Bool.false_eq_true, Bool.true_eq_false, Option.map_some, Option.map_none, Int.toNat_zero, Option.isNone_none, Option.isNone_some, add_zero', binV, binI, unV, fieldV, extV, idxV, indexV, sliceV, lenV, capV, convV, min2V, max2V, TY, Option.isSome_some, Bool.true_and, Bool.and_true, Nat.mul_one, Int.toNat_natCast, le0n, Flat.val, Int.reduceToNat, Int.reduceLE, Int.reduceLT, Int.cast_ofNat_Int, decide_true, add_lit, Nat.zero_add, Nat.zero_mul, Nat.one_mul, Bool.not_true, Bool.not_false, h7, e0, hStd, hltd, hint, hldt, hSn, hina, d0, hldx, hxS, hxn]
      refine loop_rule [0, 1, 7, 22, 23] (σ := List Int × List Bool × Nat) (fun s f w' => f 24 = .int .i64 s.2.2 ∧ s.2.2 ≤ (rowF nx a).length ∧ Own h w' 3 (f 2) s.1 ∧ Own h w' 4 vs s.2.1 ∧ (∀ b, blk vs b → ¬ blk (f 2) b) ∧ Mod (fun b => blk vs b ∨ blk vt b) w w' ∧ movedTo w vt (f 2) ∧ WI nx seen todo s.1 s.2.1 i ∧ s.1[i]? = some a ∧ ∀ b ∈ (rowF nx a).take s.2.2, bitAt s.2.1 b = true)
        (fun s => (rowF nx a).length - s.2.2) (td, sn, 0) (by decide +kernel) ?_ ?_
      · simp only [upd, ↓reduceIte, Nat.reduceEqDiff]
        exact ⟨by trivial, Nat.zero_le _, hot, hos, hds, hm, hmv, hi, hta', fun b hb => by simp at hb⟩
      · rintro ⟨td2, sn2, j⟩ f2 w2 hk2 ⟨h24, hjl, hot2, hos2, hds2, hm2, hmv2, hi2, hta2, hrow⟩
        simp only at h24 hjl hot2 hos2 hi2 hta2 hrow
        simp only [List.forall_mem_cons, upd, ↓reduceIte, Nat.reduceEqDiff] at hk2
        obtain ⟨g0, g1, g7, g22, g23, _⟩ := hk2
        rw [e0] at g0
        rw [e1] at g1
        rw [h7] at g7
        simp only [CW_seq, CW_skip, CW_cond, CW_block, CW_loop, CW_reg, CW_draw, CW_exit, CW_ret, thenF_n, thenF_nK, thenF_r, thenF_x, blockF_n, blockF_nK, blockF_r, blockF_x, condF_t, condF_f, Rn_nil, Rn_ng, Rn_g, oneStep_g, os_move, os_assign, os_pick, os_bin, os_un, os_fieldAddr, os_field, os_indexAddr, os_index, os_slice, os_extract, os_nilCheck, os_makeFunc, os_build, os_len, os_cap, os_convert, os_min, os_max, on_load, on_buildSlice, on_alloc, on_box, on_makeSlice, on_lookup, mn_convert, mn_bin, optP_n, on_append, on_copy, on_store, on_call, ev, updo, upd, optP_s, resP_ok, resU_ok, ↓reduceIte, Nat.reduceEqDiff, List.map_cons, List.map_nil, List.map_toArray, argU, Nat.reduceAdd, gval_slot, gslot, List.getElem?_toArray, List.getElem?_cons_zero, List.getElem?_cons_succ, Option.bind_some, Option.some.injEq, reduceCtorEq, Bool.false_eq_true, Bool.true_eq_false, Option.map_some, Option.map_none, Int.toNat_zero, Option.isNone_none, Option.isNone_some, add_zero', binV, binI, unV, fieldV, extV, idxV, indexV, sliceV, lenV, capV, convV, min2V, max2V, TY, Option.isSome_some, Bool.true_and, Bool.and_true, Nat.mul_one, Int.toNat_natCast, le0n, Flat.val, Int.reduceToNat, Int.reduceLE, Int.reduceLT, Int.cast_ofNat_Int, decide_true, add_lit, Nat.zero_add, Nat.zero_mul, Nat.one_mul, Bool.not_true, Bool.not_false, h24, g22, g23]
        refine condF_split (fun hc2 => ?_) (fun hc2 => ?_)
        · have hj : j < (rowF nx a).length := by simpa using hc2
          have hinx := hx3.inS hj
          have hww2 : hle h (hpOf w2) := hle_mod hw hm2 hmh
          have hldb := ld_flat (P := Try.prog) (t := 3) hx3 hww2 (List.getElem?_eq_getElem hj) tyG3
          have hbm : (rowF nx a)[j] ∈ rowF nx a := List.getElem_mem hj
          have htk := List.take_succ_eq_append_getElem hj
          generalize hbb : (rowF nx a)[j] = b at hldb hbm htk
          have hbk : okN nx.length b = true := hg.ok _ hxm b hbm
          have hbk2 : okN sn2.length b = true := by rw [hi2.len, hlen]; exact hbk
          obtain ⟨hblt, hbg⟩ := bitAt_ok hbk2
          have hins := hos2.inS hblt
          have d1 : decide (0 ≤ b) = true := by simpa using (okN_iff.1 hbk).1
          have hlds := own_ld_flat (P := Try.prog) (t := 4) hos2 (k := b.toNat) (x := bitAt sn2 b) (by rw [hbg]; simp [List.getD, hblt]) tyG4
          have hSs := hos2.isS
          by_cases hbs : bitAt sn2 b = true
          · have hbs' : (!bitAt sn2 b) = false := by rw [hbs]; rfl
            simp only [CW_seq, CW_skip, CW_cond, CW_block, CW_loop, CW_reg, CW_draw, CW_exit, CW_ret, thenF_n, thenF_nK, thenF_r, thenF_x, blockF_n, blockF_nK, blockF_r, blockF_x, condF_t, condF_f, Rn_nil, Rn_ng, Rn_g, oneStep_g, os_move, os_assign, os_pick, os_bin, os_un, os_fieldAddr, os_field, os_indexAddr, os_index, os_slice, os_extract, os_nilCheck, os_makeFunc, os_build, os_len, os_cap, os_convert, os_min, os_max, on_load, on_buildSlice, on_alloc, on_box, on_makeSlice, on_lookup, mn_convert, mn_bin, optP_n, on_append, on_copy, on_store, on_call, ev, updo, upd, optP_s, resP_ok, resU_ok, ↓reduceIte, Nat.reduceEqDiff, List.map_cons, List.map_nil, List.map_toArray, argU, Nat.reduceAdd, gval_slot, gslot, List.getElem?_toArray, List.getElem?_cons_zero, List.getElem?_cons_succ, Option.bind_some, Option.some.injEq, reduceCtorEq, Bool.false_eq_true, Bool.true_eq_false, Option.map_some, Option.map_none, Int.toNat_zero, Option.isNone_none, Option.isNone_some, add_zero', binV, binI, unV, fieldV, extV, idxV, indexV, sliceV, lenV, capV, convV, min2V, max2V, TY, Option.isSome_some, Bool.true_and, Bool.and_true, Nat.mul_one, Int.toNat_natCast, le0n, Flat.val, Int.reduceToNat, Int.reduceLE, Int.reduceLT, Int.cast_ofNat_Int, decide_true, add_lit, Nat.zero_add, Nat.zero_mul, Nat.one_mul, Bool.not_true, Bool.not_false, h24, g22, g23, g1, hinx, hldb, hSs, hins, d1, hlds, hbs']
            refine ⟨(td2, sn2, j + 1), by simp only []; omega, by simp only []; rw [i64s j (by omega)], by simp only []; omega, hot2, hos2, hds2, hm2, hmv2, hi2, hta2, ?_⟩
            simp only []
            rw [htk]
            intro c hc
            rcases List.mem_append.1 hc with hc | hc
            · exact hrow c hc
            · simp at hc; subst hc; exact hbs
          · have hbf : bitAt sn2 b = false := by simpa using hbs
            have hbs' : (!bitAt sn2 b) = true := by rw [hbf]; rfl
            have hcnt2 := hi2.count
            obtain ⟨w3, s1, s2, s3, s4⟩ := own_store (P := Try.prog) (t := 4) hos2 rfl (k := b.toNat) hblt (x := .bool true) (y := true) rfl rfl (zeroT_info tyZ4).choose_spec.1 (by rw [← szT_info (zeroT_info tyZ4).choose_spec.1]; exact tyS4)
            have hot3 := hot2.mod s3 fun b hb hb2 => hds2 b hb2 hb
            have hm3 : Mod (fun b => blk vs b ∨ blk vt b) w w3 := hm2.trans (s3.weaken fun b _ hb => .inl hb)
            have hww3 : hle h (hpOf w3) := hle_mod hw hm3 hmh
            obtain ⟨p1, u', w4, p2, p3, p4, p5⟩ := push (e := 37) sokI rfl hot3 (x := .int .i64 b) (y := b) rfl (by omega) (by omega) hww3
            simp only [Value.cells] at p1 p2
            simp only [CW_seq, CW_skip, CW_cond, CW_block, CW_loop, CW_reg, CW_draw, CW_exit, CW_ret, thenF_n, thenF_nK, thenF_r, thenF_x, blockF_n, blockF_nK, blockF_r, blockF_x, condF_t, condF_f, Rn_nil, Rn_ng, Rn_g, oneStep_g, os_move, os_assign, os_pick, os_bin, os_un, os_fieldAddr, os_field, os_indexAddr, os_index, os_slice, os_extract, os_nilCheck, os_makeFunc, os_build, os_len, os_cap, os_convert, os_min, os_max, on_load, on_buildSlice, on_alloc, on_box, on_makeSlice, on_lookup, mn_convert, mn_bin, optP_n, on_append, on_copy, on_store, on_call, ev, updo, upd, optP_s, resP_ok, resU_ok, ↓reduceIte, Nat.reduceEqDiff, List.map_cons, List.map_nil, List.map_toArray, argU, Nat.reduceAdd, gval_slot, gslot, List.getElem?_toArray, List.getElem?_cons_zero, List.getElem?_cons_succ, Option.bind_some, Option.some.injEq, reduceCtorEq, Bool.false_eq_true, Bool.true_eq_false, Option.map_some, Option.map_none, Int.toNat_zero, Option.isNone_none, Option.isNone_some, add_zero', binV, binI, unV, fieldV, extV, idxV, indexV, sliceV, lenV, capV, convV, min2V, max2V, TY, Option.isSome_some, Bool.true_and, Bool.and_true, Nat.mul_one, Int.toNat_natCast, le0n, Flat.val, Int.reduceToNat, Int.reduceLE, Int.reduceLT, Int.cast_ofNat_Int, decide_true, add_lit, Nat.zero_add, Nat.zero_mul, Nat.one_mul, Bool.not_true, Bool.not_false, h24, g22, g23, g1, hinx, hldb, hSs, hins, d1, hlds, hbs', s1, p1, p2, Value.cells]
            have hsz : w.heap.size ≤ w3.heap.size := hm3.size
            have hfresh : ∀ b, blk (f2 2) b → blk vt b ∨ w.heap.size ≤ b := hmv2
            refine ⟨(td2 ++ [b], sn2.set b.toNat true, j + 1), by simp only []; omega, by simp only []; rw [i64s j (by omega)], by simp only []; omega, p3, s2.mod p4 (fun b hb hb2 => hds2 b hb hb2), ?_, ?_, ?_, ?_, ?_, ?_⟩
            · intro c hc1 hc2
              rcases p5 c hc2 with h1 | h1
              · exact hds2 c hc1 h1
              · have := s2.lt hc1; omega
            · refine ⟨p4.os.trans hm3.os, p4.tape.trans hm3.tape, p4.output.trans hm3.output, Nat.le_trans hm3.size p4.size, fun k hk hn => ?_⟩
              refine (p4.block k (Nat.lt_of_lt_of_le hk hm3.size) fun hb => ?_).trans (hm3.block k hk hn)
              rcases hmv2 k hb with h1 | h1
              · exact hn (.inr h1)
              · omega
            · intro c hc
              rcases p5 c hc with h1 | h1
              · exact hmv2 c h1
              · exact .inr (by omega)
            · refine hi2.push (by rw [hlen]; exact hbk) hbf (.step (hi2.via a (List.mem_of_getElem? hta2)) hbm ?_)
              rw [Bool.eq_false_iff]
              intro hh
              rw [(hi2.mark b).2 (.inl hh)] at hbf
              cases hbf
            · simp only []
              rw [List.getElem?_append_left (List.getElem?_eq_some_iff.1 hta2).1]
              exact hta2
            · simp only []
              rw [htk]
              intro c hc
              rcases List.mem_append.1 hc with hc | hc
              · exact push_mono hbk2 (hrow c hc)
              · simp at hc; subst hc
                rw [bitAt_set hbk2, if_pos rfl]
        · have hge : j = (rowF nx a).length := by simp at hc2; omega
          subst hge
          rw [List.take_length] at hrow
          simp only [CW_seq, CW_skip, CW_cond, CW_block, CW_loop, CW_reg, CW_draw, CW_exit, CW_ret, thenF_n, thenF_nK, thenF_r, thenF_x, blockF_n, blockF_nK, blockF_r, blockF_x, condF_t, condF_f, Rn_nil, Rn_ng, Rn_g, oneStep_g, os_move, os_assign, os_pick, os_bin, os_un, os_fieldAddr, os_field, os_indexAddr, os_index, os_slice, os_extract, os_nilCheck, os_makeFunc, os_build, os_len, os_cap, os_convert, os_min, os_max, on_load, on_buildSlice, on_alloc, on_box, on_makeSlice, on_lookup, mn_convert, mn_bin, optP_n, on_append, on_copy, on_store, on_call, ev, updo, upd, optP_s, resP_ok, resU_ok, ↓reduceIte, Nat.reduceEqDiff, List.map_cons, List.map_nil, List.map_toArray, argU, Nat.reduceAdd, gval_slot, gslot, List.getElem?_toArray, List.getElem?_cons_zero, List.getElem?_cons_succ, Option.bind_some, Option.some.injEq, reduceCtorEq, Bool.false_eq_true, Bool.true_eq_false, Option.map_some, Option.map_none, Int.toNat_zero, Option.isNone_none, Option.isNone_some, add_zero', binV, binI, unV, fieldV, extV, idxV, indexV, sliceV, lenV, capV, convV, min2V, max2V, TY, Option.isSome_some, Bool.true_and, Bool.and_true, Nat.mul_one, Int.toNat_natCast, le0n, Flat.val, Int.reduceToNat, Int.reduceLE, Int.reduceLT, Int.cast_ofNat_Int, decide_true, add_lit, Nat.zero_add, Nat.zero_mul, Nat.one_mul, Bool.not_true, Bool.not_false, g7]
          have hcnt2 := hi2.count
          have hlt2 := (List.getElem?_eq_some_iff.1 hta2).1
          refine ⟨(td2, sn2, i + 1), by simp only []; omega, by simp only []; rw [i64s i (by omega)], hot2, hos2, hds2, hm2, hmv2, hi2.next hta2 hrow⟩
    · have hge : i = td.length := by have := hi.le; simp at hc; omega
      subst hge
      simp only [CW_seq, CW_skip, CW_cond, CW_block, CW_loop, CW_reg, CW_draw, CW_exit, CW_ret, thenF_n, thenF_nK, thenF_r, thenF_x, blockF_n, blockF_nK, blockF_r, blockF_x, condF_t, condF_f, Rn_nil, Rn_ng, Rn_g, oneStep_g, os_move, os_assign, os_pick, os_bin, os_un, os_fieldAddr, os_field, os_indexAddr, os_index, os_slice, os_extract, os_nilCheck, os_makeFunc, os_build, os_len, os_cap, os_convert, os_min, os_max, on_load, on_buildSlice, on_alloc, on_box, on_makeSlice, on_lookup, mn_convert, mn_bin, optP_n, on_append, on_copy, on_store, on_call, ev, updo, upd, optP_s, resP_ok, resU_ok, ↓reduceIte, Nat.reduceEqDiff, List.map_cons, List.map_nil, List.map_toArray, argU, Nat.reduceAdd, gval_slot, gslot, List.getElem?_toArray, List.getElem?_cons_zero, List.getElem?_cons_succ, Option.bind_some, Option.some.injEq, reduceCtorEq, Bool.false_eq_true, Bool.true_eq_false, Option.map_some, Option.map_none, Int.toNat_zero, Option.isNone_none, Option.isNone_some, add_zero', binV, binI, unV, fieldV, extV, idxV, indexV, sliceV, lenV, capV, convV, min2V, max2V, TY, Option.isSome_some, Bool.true_and, Bool.and_true, Nat.mul_one, Int.toNat_natCast, le0n, Flat.val, Int.reduceToNat, Int.reduceLE, Int.reduceLT, Int.cast_ofNat_Int, decide_true, add_lit, Nat.zero_add, Nat.zero_mul, Nat.one_mul, Bool.not_true, Bool.not_false]
      refine retq1 Try.results46 ?_
      simp only [upd, ↓reduceIte, Nat.reduceEqDiff]
      exact ⟨td, sn, hot, hos, hds, hm, hmv, hi.fin⟩
end Go.Proofs.Ytldmnnloakpjlaa
