/- Contract: the graph's ends. -/
import Derived.Test.YtldmnnloakpjlaaB12
import Derived.Test.YtldmnnloakpjlaaC4
set_option linter.unusedSimpArgs false
set_option linter.unusedVariables false
set_option maxRecDepth 100000
set_option linter.unnecessarySimpa false
namespace Go.Proofs.Ytldmnnloakpjlaa
open Go

/-- Two values lie apart. -/
def Dj (u v : Value) : Prop := ∀ b, blk u b → ¬ blk v b
theorem Dj.symm {u v : Value} (h : Dj u v) : Dj v u := fun b h1 h2 => h b h2 h1
theorem Dj.nil (u : Value) : Dj u (.slice none 0 0) := fun b _ h => blk_nil h
section
variable {α : Type} [Rep α] {h : Hp} {w : World} {T : TypeId} {x y y' v : Value} {xs : List α}
theorem Dj.move (h1 : Dj x y) (hx : Own h w T x xs) (hm : movedTo w y y') : Dj x y' := fun b hb hb2 => by
  rcases hm b hb2 with h2 | h2
  · exact h1 b hb h2
  · have := hx.lt hb; omega
theorem Dj.fresh (hx : Own h w T x xs) (hf : ∀ b, blk y b → w.heap.size ≤ b) : Dj x y := fun b hb hb2 => by
  have := hx.lt hb; have := hf b hb2; omega
theorem Own.apart {w' : World} (hx : Own h w T x xs) (hm : Mod (blk y) w w') (hd : Dj x y) : Own h w' T x xs := hx.mod hm fun b hb hb2 => hd b hb hb2
theorem reS_pre {v : Value} {k sz : Nat} (hS : isS v = true) (hc : 0 < vcap v) : ∃ a n c, v = .slice a n c ∧ reS v 0 k sz = .slice a k c := by
  cases v <;> simp [Go.Proofs.Ytldmnnloakpjlaa.isS] at hS
  rename_i a n c
  refine ⟨a, n, c, rfl, ?_⟩
  simp only [vcap] at hc
  have hc0 : ¬ c = 0 := by omega
  cases a <;> simp [reS, add_zero', hc0]
/-- v[:k] -/
theorem Own.pre (ho : Own h w T v xs) {k : Nat} (hk : k ≤ xs.length) (h0 : 0 < xs.length) : Own h w T (reS v 0 k (Rep.sz α)) (xs.take k) ∧ ∀ b, blk (reS v 0 k (Rep.sz α)) b ↔ blk v b := by
  rcases ho with ⟨rfl, rfl⟩ | ⟨b, c, cur, rfl, h1, h2, h3, h4, h5, h6⟩
  · simp at h0
  · obtain ⟨a, n, c', e, er⟩ := reS_pre (v := .slice (some ⟨b, 0, none⟩) xs.length c) (k := k) (sz := Rep.sz α) rfl (by show 0 < c; omega)
    cases e
    rw [er]
    refine ⟨.inr ⟨b, c, cur, by rw [List.length_take, Nat.min_eq_left hk], h1, h2, by rw [List.length_take]; omega, h4, h5, ?_⟩, fun b' => by simp [blk, Value.ownBlock]⟩
    rw [List.length_take, Nat.min_eq_left hk]
    have hx : xs = xs.take k ++ xs.drop k := (List.take_append_drop k xs).symm
    rw [hx] at h6
    obtain ⟨c1, c2, e1, e2, e3⟩ := encs_split _ _ h6
    have hl := encs_len e2
    rw [List.length_take, Nat.min_eq_left hk] at hl
    rw [← hx] at e1
    have : cur.toList.take (k * Rep.sz α) = c1 := by
      have h7 := congrArg (List.take (k * Rep.sz α)) e1
      rw [List.take_take, Nat.min_eq_left (Nat.mul_le_mul_right _ hk), ← hl, List.take_left] at h7
      rw [← hl]
      exact h7
    rw [this]
    exact e2
end

theorem nil_or_snoc {α : Type} (l : List α) : l = [] ∨ ∃ s a, l = s ++ [a] := by
  rcases List.eq_nil_or_concat l with h | ⟨s, a, h⟩
  · exact .inl h
  · exact .inr ⟨s, a, by rw [h, List.concat_eq_append]⟩
theorem ends2_any (pg : Value) (nx pv : List (List Int)) (w : World) (hgr : GR (hpOf w) pg nx pv) (hg : GoodRows nx.length nx) (hn5 : nx.length ≤ 5000) :
    Calls Try.prog 49 #[pg] w fun e w' => ∃ u, e = .returned u ∧ ((∃ r, Own (hpOf w) w' 3 u r ∧ OrderOk nx nx.length r) ∧ Ext w w') := by
  have hgr' := hgr
  obtain ⟨gb, vn, vp, rfl, h1, h2, h3, h4⟩ := hgr
  refine calls_of_CW (args := [.pointer (some ⟨gb, 0, none⟩)]) hm Try.func49 rfl (by kernel_rfl) (by show 1 ≤ _; decide +kernel) ?_
  have hld := ld_at (P := Try.prog) (t := 23) h1 (hle_refl _) tyG23
  have hSn := h3.isS
  have hnn := h3.vlen
  obtain ⟨u0, w0, hmk, ho0, hx0, hf0, _⟩ := mk (P := Try.prog) (w := w) (h := hpOf w) sokB tyZ4 (α := Bool) (y := false) rfl (n := nx.length) (by omega) (by omega) (hle_refl _)
  have hld0 := ld_at (P := Try.prog) (t := 23) h1 (hle_ext hx0) tyG23
  obtain ⟨u1, w1, hmk1, ho1, hx1, hf1, _⟩ := mk (P := Try.prog) (w := w0) (h := hpOf w) sokI tyZ3 (α := Int) (y := 0) rfl (n := nx.length) (by omega) (by omega) (hle_ext hx0)
  have hx01 := hx0.trans hx1
  have hld1 := ld_at (P := Try.prog) (t := 23) h1 (hle_ext hx01) tyG23
  have hd01 : Dj u0 u1 := Dj.fresh ho0 hf1
  have hstore : Try.prog.info? 4 = some _ := (zeroT_info tyZ4).choose_spec.1
  simp only [CW_seq, CW_skip, CW_cond, CW_block, CW_loop, CW_reg, CW_draw, CW_exit, CW_ret, thenF_n, thenF_nK, thenF_r, thenF_x, blockF_n, blockF_nK, blockF_r, blockF_x, condF_t, condF_f, Rn_nil, Rn_ng, Rn_g, oneStep_g, os_move, os_assign, os_pick, os_bin, os_un, os_fieldAddr, os_field, os_indexAddr, os_index, os_slice, os_extract, os_nilCheck, os_makeFunc, os_build, os_len, os_cap, os_convert, os_min, os_max, on_load, on_buildSlice, on_alloc, on_box, on_makeSlice, on_lookup, mn_convert, mn_bin, optP_n, on_append, on_copy, on_store, on_call, ev, updo, upd, optP_s, resP_ok, resU_ok, ↓reduceIte, Nat.reduceEqDiff, List.map_cons, List.map_nil, List.map_toArray, argU, Nat.reduceAdd, gval_slot, gslot, List.getElem?_toArray, List.getElem?_cons_zero, List.getElem?_cons_succ, Option.bind_some, Option.some.injEq, reduceCtorEq, Bool.false_eq_true, Bool.true_eq_false, Option.map_some, Option.map_none, Int.toNat_zero, Option.isNone_none, Option.isNone_some, add_zero', binV, binI, unV, fieldV, extV, idxV, indexV, sliceV, lenV, capV, convV, min2V, max2V, TY, Option.isSome_some, Bool.true_and, Bool.and_true, Nat.mul_one, Int.toNat_natCast, le0n, Flat.val, Int.reduceToNat, Int.reduceLE, Int.reduceLT, Int.cast_ofNat_Int, decide_true, add_lit, Nat.zero_add, Nat.zero_mul, Nat.one_mul, Bool.not_true, Bool.not_false, hld, hSn, hnn, hmk, hld0, hmk1, hld1]
  refine loop_rule [0, 5, 6, 26] (σ := List Int × List Bool × List Int × Nat) (fun s f w' => f 27 = .int .i64 s.2.2.2 ∧ s.2.2.2 ≤ nx.length ∧ Own (hpOf w) w' 3 (f 3) s.1 ∧ Own (hpOf w) w' 3 (f 4) ([] : List Int) ∧ Own (hpOf w) w' 4 u0 s.2.1 ∧ Own (hpOf w) w' 3 u1 s.2.2.1 ∧
      Dj (f 3) (f 4) ∧ Dj u0 (f 3) ∧ Dj u0 (f 4) ∧ Dj u1 (f 3) ∧ Dj u1 (f 4) ∧ Ext w w' ∧ DI nx nx.length s.1 [] s.2.1 s.2.2.1 ∧ ∀ r : Nat, r < s.2.2.2 → bitAt s.2.1 r = true)
    (fun s => nx.length - s.2.2.2) ([], List.replicate nx.length false, List.replicate nx.length 0, 0) (by decide +kernel) ?_ ?_
  · simp only [upd, ↓reduceIte, Nat.reduceEqDiff]
    exact ⟨by trivial, Nat.zero_le _, Own.nil _ _ _, Own.nil _ _ _, ho0.ext hx1, ho1, Dj.nil _, Dj.nil _, Dj.nil _, Dj.nil _, Dj.nil _, hx01, DI.start rfl, fun r hr => by omega⟩
  · rintro ⟨out, sn, at_, r⟩ f w2 hk ⟨h27, hrl, hoo, hst, hos, hoa, d34, d03, d04, d13, d14, hx, hi, hlow⟩
    simp only at h27 hrl hoo hst hos hoa hi hlow
    simp only [List.forall_mem_cons, upd, ↓reduceIte, Nat.reduceEqDiff] at hk
    obtain ⟨e0, e5, e6, e26, _⟩ := hk
    simp only [CW_seq, CW_skip, CW_cond, CW_block, CW_loop, CW_reg, CW_draw, CW_exit, CW_ret, thenF_n, thenF_nK, thenF_r, thenF_x, blockF_n, blockF_nK, blockF_r, blockF_x, condF_t, condF_f, Rn_nil, Rn_ng, Rn_g, oneStep_g, os_move, os_assign, os_pick, os_bin, os_un, os_fieldAddr, os_field, os_indexAddr, os_index, os_slice, os_extract, os_nilCheck, os_makeFunc, os_build, os_len, os_cap, os_convert, os_min, os_max, on_load, on_buildSlice, on_alloc, on_box, on_makeSlice, on_lookup, mn_convert, mn_bin, optP_n, on_append, on_copy, on_store, on_call, ev, updo, upd, optP_s, resP_ok, resU_ok, ↓reduceIte, Nat.reduceEqDiff, List.map_cons, List.map_nil, List.map_toArray, argU, Nat.reduceAdd, gval_slot, gslot, List.getElem?_toArray, List.getElem?_cons_zero, List.getElem?_cons_succ, Option.bind_some, Option.some.injEq, reduceCtorEq, Bool.false_eq_true, Bool.true_eq_false, Option.map_some, Option.map_none, Int.toNat_zero, Option.isNone_none, Option.isNone_some, add_zero', binV, binI, unV, fieldV, extV, idxV, indexV, sliceV, lenV, capV, convV, min2V, max2V, TY, Option.isSome_some, Bool.true_and, Bool.and_true, Nat.mul_one, Int.toNat_natCast, le0n, Flat.val, Int.reduceToNat, Int.reduceLE, Int.reduceLT, Int.cast_ofNat_Int, decide_true, add_lit, Nat.zero_add, Nat.zero_mul, Nat.one_mul, Bool.not_true, Bool.not_false, h27, e26]
    refine condF_split (fun hc => ?_) (fun hc => ?_)
    · have hlt : r < nx.length := by simpa using hc
      have hrk : okN nx.length (r : Int) = true := okN_iff.2 ⟨by omega, by omega⟩
      have hrk2 : okN sn.length (r : Int) = true := by rw [hi.slen]; exact hrk
      obtain ⟨hrlt, hrg⟩ := bitAt_ok hrk2
      simp only [Int.toNat_natCast] at hrlt hrg
      have hins := hos.inS hrlt
      have hlds := own_ld_flat (P := Try.prog) (t := 4) hos (k := r) (x := bitAt sn r) (by rw [hrg]; simp [List.getD, hrlt]) tyG4
      have hSs := hos.isS
      rcases Bool.eq_false_or_eq_true (bitAt sn r) with hbs | hbs
      case' inl =>
        have hbs' : (!bitAt sn r) = false := by rw [hbs]; rfl
        simp only [CW_seq, CW_skip, CW_cond, CW_block, CW_loop, CW_reg, CW_draw, CW_exit, CW_ret, thenF_n, thenF_nK, thenF_r, thenF_x, blockF_n, blockF_nK, blockF_r, blockF_x, condF_t, condF_f, Rn_nil, Rn_ng, Rn_g, oneStep_g, os_move, os_assign, os_pick, os_bin, os_un, os_fieldAddr, os_field, os_indexAddr, os_index, os_slice, os_extract, os_nilCheck, os_makeFunc, os_build, os_len, os_cap, os_convert, os_min, os_max, on_load, on_buildSlice, on_alloc, on_box, on_makeSlice, on_lookup, mn_convert, mn_bin, optP_n, on_append, on_copy, on_store, on_call, ev, updo, upd, optP_s, resP_ok, resU_ok, ↓reduceIte, Nat.reduceEqDiff, List.map_cons, List.map_nil, List.map_toArray, argU, Nat.reduceAdd, gval_slot, gslot, List.getElem?_toArray, List.getElem?_cons_zero, List.getElem?_cons_succ, Option.bind_some, Option.some.injEq, reduceCtorEq, Bool.false_eq_true, Bool.true_eq_false, Option.map_some, Option.map_none, Int.toNat_zero, Option.isNone_none, Option.isNone_some, add_zero', binV, binI, unV, fieldV, extV, idxV, indexV, sliceV, lenV, capV, convV, min2V, max2V, TY, Option.isSome_some, Bool.true_and, Bool.and_true, Nat.mul_one, Int.toNat_natCast, le0n, Flat.val, Int.reduceToNat, Int.reduceLE, Int.reduceLT, Int.cast_ofNat_Int, decide_true, add_lit, Nat.zero_add, Nat.zero_mul, Nat.one_mul, Bool.not_true, Bool.not_false, h27, e26, e5, hSs, hins, hlds, hbs']
        refine loop_rule [0, 5, 6, 26, 27] (σ := List Int × List Int × List Bool × List Int) (fun s f w' => Own (hpOf w) w' 3 (f 3) s.1 ∧ Own (hpOf w) w' 3 (f 4) s.2.1 ∧ Own (hpOf w) w' 4 u0 s.2.2.1 ∧ Own (hpOf w) w' 3 u1 s.2.2.2 ∧
            Dj (f 3) (f 4) ∧ Dj u0 (f 3) ∧ Dj u0 (f 4) ∧ Dj u1 (f 3) ∧ Dj u1 (f 4) ∧ Ext w w' ∧ DI nx nx.length s.1 s.2.1 s.2.2.1 s.2.2.2 ∧ ∀ r' : Nat, r' < r + 1 → bitAt s.2.2.1 r' = true)
          (fun s => leftN nx s.2.2.2 nx.length + (nx.length - s.1.length)) (out, [], sn, at_) (by decide +kernel) ?_ ?_
        · simp only [upd, ↓reduceIte, Nat.reduceEqDiff]
          refine ⟨hoo, hst, hos, hoa, d34, d03, d04, d13, d14, hx, hi, fun r' hr' => ?_⟩
          by_cases hrr : r' = r
          · subst hrr; exact hbs
          · exact hlow r' (by omega)
      case' inr =>
        have hbs' : (!bitAt sn r) = true := by rw [hbs]; rfl
        obtain ⟨w3, s1, s2, s3, s4⟩ := own_store (P := Try.prog) (t := 4) hos rfl (k := r) hrlt (x := .bool true) (y := true) rfl rfl (zeroT_info tyZ4).choose_spec.1 (by rw [← szT_info (zeroT_info tyZ4).choose_spec.1]; exact tyS4)
        have hx3 := hos.ext2 hx s3
        have hoo3 := hoo.apart s3 d03.symm
        have hst3 := hst.apart s3 d04.symm
        have hoa3 := hoa.apart s3 hd01.symm
        obtain ⟨p1, u', w4, p2, p3, p4, p5⟩ := push (e := 37) sokI rfl hst3 (x := .int .i64 r) (y := (r : Int)) rfl (by simp) (by simp) (hle_ext hx3)
        simp only [Value.cells] at p1 p2
        have hx4 := hst3.ext2 hx3 p4
        simp only [CW_seq, CW_skip, CW_cond, CW_block, CW_loop, CW_reg, CW_draw, CW_exit, CW_ret, thenF_n, thenF_nK, thenF_r, thenF_x, blockF_n, blockF_nK, blockF_r, blockF_x, condF_t, condF_f, Rn_nil, Rn_ng, Rn_g, oneStep_g, os_move, os_assign, os_pick, os_bin, os_un, os_fieldAddr, os_field, os_indexAddr, os_index, os_slice, os_extract, os_nilCheck, os_makeFunc, os_build, os_len, os_cap, os_convert, os_min, os_max, on_load, on_buildSlice, on_alloc, on_box, on_makeSlice, on_lookup, mn_convert, mn_bin, optP_n, on_append, on_copy, on_store, on_call, ev, updo, upd, optP_s, resP_ok, resU_ok, ↓reduceIte, Nat.reduceEqDiff, List.map_cons, List.map_nil, List.map_toArray, argU, Nat.reduceAdd, gval_slot, gslot, List.getElem?_toArray, List.getElem?_cons_zero, List.getElem?_cons_succ, Option.bind_some, Option.some.injEq, reduceCtorEq, Bool.false_eq_true, Bool.true_eq_false, Option.map_some, Option.map_none, Int.toNat_zero, Option.isNone_none, Option.isNone_some, add_zero', binV, binI, unV, fieldV, extV, idxV, indexV, sliceV, lenV, capV, convV, min2V, max2V, TY, Option.isSome_some, Bool.true_and, Bool.and_true, Nat.mul_one, Int.toNat_natCast, le0n, Flat.val, Int.reduceToNat, Int.reduceLE, Int.reduceLT, Int.cast_ofNat_Int, decide_true, add_lit, Nat.zero_add, Nat.zero_mul, Nat.one_mul, Bool.not_true, Bool.not_false, h27, e26, e5, hSs, hins, hlds, hbs', s1, p1, p2, Value.cells]
        refine loop_rule [0, 5, 6, 26, 27] (σ := List Int × List Int × List Bool × List Int) (fun s f w' => Own (hpOf w) w' 3 (f 3) s.1 ∧ Own (hpOf w) w' 3 (f 4) s.2.1 ∧ Own (hpOf w) w' 4 u0 s.2.2.1 ∧ Own (hpOf w) w' 3 u1 s.2.2.2 ∧
            Dj (f 3) (f 4) ∧ Dj u0 (f 3) ∧ Dj u0 (f 4) ∧ Dj u1 (f 3) ∧ Dj u1 (f 4) ∧ Ext w w' ∧ DI nx nx.length s.1 s.2.1 s.2.2.1 s.2.2.2 ∧ ∀ r' : Nat, r' < r + 1 → bitAt s.2.2.1 r' = true)
          (fun s => leftN nx s.2.2.2 nx.length + (nx.length - s.1.length)) (out, [(r : Int)], sn.set r true, at_) (by decide +kernel) ?_ ?_
        · simp only [upd, ↓reduceIte, Nat.reduceEqDiff]
          have hset : ∀ c, bitAt (sn.set r true) c = if c = (r : Int) then true else bitAt sn c := fun c => by
            have := bitAt_set (v := true) (b := c) hrk2
            simpa only [Int.toNat_natCast] using this
          refine ⟨hoo3.apart p4 d34, by simpa using p3, s2.apart p4 d04, hoa3.apart p4 d14, d34.move hoo3 p5, d03, d04.move s2 p5, d13, d14.move hoa3 p5, hx4, ?_, fun r' hr' => ?_⟩
          · have := hi.push hrk hbs (fun g hg => by cases hg)
            simpa using this
          · rw [hset]
            by_cases hrr : r' = r
            · subst hrr; simp
            · rw [if_neg (by omega)]; exact hlow r' (by omega)
      all_goals
        rintro ⟨out2, st2, sn2, at2⟩ f2 w5 hk2 ⟨hoo, hst, hos, hoa, d34, d03, d04, d13, d14, hx, hi, hlow⟩
        simp only at hoo hst hos hoa hi hlow
        simp only [List.forall_mem_cons, upd, ↓reduceIte, Nat.reduceEqDiff] at hk2
        obtain ⟨g0, g5, g6, g26, g27, _⟩ := hk2
        rw [e0] at g0
        rw [h27] at g27
        rw [e5] at g5
        rw [e6] at g6
        rw [e26] at g26
        have hSst := hst.isS
        have hlst := hst.vlen
        have hcnt := hi.count
        simp only [CW_seq, CW_skip, CW_cond, CW_block, CW_loop, CW_reg, CW_draw, CW_exit, CW_ret, thenF_n, thenF_nK, thenF_r, thenF_x, blockF_n, blockF_nK, blockF_r, blockF_x, condF_t, condF_f, Rn_nil, Rn_ng, Rn_g, oneStep_g, os_move, os_assign, os_pick, os_bin, os_un, os_fieldAddr, os_field, os_indexAddr, os_index, os_slice, os_extract, os_nilCheck, os_makeFunc, os_build, os_len, os_cap, os_convert, os_min, os_max, on_load, on_buildSlice, on_alloc, on_box, on_makeSlice, on_lookup, mn_convert, mn_bin, optP_n, on_append, on_copy, on_store, on_call, ev, updo, upd, optP_s, resP_ok, resU_ok, ↓reduceIte, Nat.reduceEqDiff, List.map_cons, List.map_nil, List.map_toArray, argU, Nat.reduceAdd, gval_slot, gslot, List.getElem?_toArray, List.getElem?_cons_zero, List.getElem?_cons_succ, Option.bind_some, Option.some.injEq, reduceCtorEq, Bool.false_eq_true, Bool.true_eq_false, Option.map_some, Option.map_none, Int.toNat_zero, Option.isNone_none, Option.isNone_some, add_zero', binV, binI, unV, fieldV, extV, idxV, indexV, sliceV, lenV, capV, convV, min2V, max2V, TY, Option.isSome_some, Bool.true_and, Bool.and_true, Nat.mul_one, Int.toNat_natCast, le0n, Flat.val, Int.reduceToNat, Int.reduceLE, Int.reduceLT, Int.cast_ofNat_Int, decide_true, add_lit, Nat.zero_add, Nat.zero_mul, Nat.one_mul, Bool.not_true, Bool.not_false, hSst, hlst]
        refine condF_split (fun hc2 => ?_) (fun hc2 => ?_)
        · rcases nil_or_snoc st2 with rfl | ⟨s, a, rfl⟩
          · simp at hc2
          rw [show (s ++ [a]).length = s.length + 1 by simp] at hlst hcnt
          have hw1 : IntKind.i64.wrap (((s.length + 1 : Nat) : Int) - 1) = (s.length : Int) := by rw [i64w _ (by omega)]; omega
          have hins2 := hst.inS (k := s.length) (by simp)
          have hlda := own_ld_flat (P := Try.prog) (t := 3) hst (k := s.length) (x := a) (by simp) tyG3
          have hak : okN nx.length a = true := hi.ok (.inr (by simp))
          have hak' := okN_iff.1 hak
          have d0 : decide (0 ≤ a) = true := by simpa using hak'.1
          obtain ⟨hx1, hx2⟩ := rowF_at hak
          have hat := hi.atok a hak
          have hSa := hoa.isS
          have hina := hoa.inS (k := a.toNat) (by rw [hi.alen]; exact hx2)
          have hldk := own_ld_flat (P := Try.prog) (t := 3) hoa (k := a.toNat) (x := ai at2 a) (by simp [ai, List.getD, hi.alen, hx2]) tyG3
          obtain ⟨k, hkk⟩ : ∃ k : Nat, ai at2 a = k := ⟨(ai at2 a).toNat, by omega⟩
          rw [hkk] at hldk hat
          have hkl : k ≤ (rowF nx a).length := by omega
          have hinr := h3.inS hx2
          obtain ⟨x, hx3, hx4⟩ := h3.row hx1
          have hxS := hx3.isS
          have hxn := hx3.vlen
          have hrl2 := hg.row_len (rowF_mem hak)
          simp only [CW_seq, CW_skip, CW_cond, CW_block, CW_loop, CW_reg, CW_draw, CW_exit, CW_ret, thenF_n, thenF_nK, thenF_r, thenF_x, blockF_n, blockF_nK, blockF_r, blockF_x, condF_t, condF_f, Rn_nil, Rn_ng, Rn_g, oneStep_g, os_move, os_assign, os_pick, os_bin, os_un, os_fieldAddr, os_field, os_indexAddr, os_index, os_slice, os_extract, os_nilCheck, os_makeFunc, os_build, os_len, os_cap, os_convert, os_min, os_max, on_load, on_buildSlice, on_alloc, on_box, on_makeSlice, on_lookup, mn_convert, mn_bin, optP_n, on_append, on_copy, on_store, on_call, ev, updo, upd, optP_s, resP_ok, resU_ok, ↓reduceIte, Nat.reduceEqDiff, List.map_cons, List.map_nil, List.map_toArray, argU, Nat.reduceAdd, gval_slot, gslot, List.getElem?_toArray, List.getElem?_cons_zero, List.getElem?_cons_succ, Option.bind_some, Option.some.injEq, reduceCtorEq, Bool.false_eq_true, Bool.true_eq_false, Option.map_some, Option.map_none, Int.toNat_zero, Option.isNone_none, Option.isNone_some, add_zero', binV, binI, unV, fieldV, extV, idxV, indexV, sliceV, lenV, capV, convV, min2V, max2V, TY, Option.isSome_some, Bool.true_and, Bool.and_true, Nat.mul_one, Int.toNat_natCast, le0n, Flat.val, Int.reduceToNat, Int.reduceLE, Int.reduceLT, Int.cast_ofNat_Int, decide_true, add_lit, Nat.zero_add, Nat.zero_mul, Nat.one_mul, Bool.not_true, Bool.not_false, hSst, hlst, hw1, hins2, hlda]
          refine drawR (fun w2 => w2 = w5.drew) 12 (ordL [0, 1, 2, 3, 4, 5, 6, 7, 8, 9, 10, 11]) (by decide +kernel) rfl ?_
          have hxd := hx.trans (Ext.drew w5)
          have hldk' := own_ld_flat (P := Try.prog) (t := 3) (hoa.ext (Ext.drew w5)) (k := a.toNat) (x := (k : Int)) (by rw [← hkk]; simp [ai, List.getD, hi.alen, hx2]) tyG3
          simp only [RnF_nil, RnF_op, ordL, of_load, of_lookup, mf_convert, mf_bin, of_buildSlice, of_alloc, of_box, of_makeSlice, of_append, of_copy, of_store, of_call, List.drop_succ_cons, List.drop_zero, CW_seq, CW_skip, CW_cond, CW_block, CW_loop, CW_reg, CW_draw, CW_exit, CW_ret, thenF_n, thenF_nK, thenF_r, thenF_x, blockF_n, blockF_nK, blockF_r, blockF_x, condF_t, condF_f, Rn_nil, Rn_ng, Rn_g, oneStep_g, os_move, os_assign, os_pick, os_bin, os_un, os_fieldAddr, os_field, os_indexAddr, os_index, os_slice, os_extract, os_nilCheck, os_makeFunc, os_build, os_len, os_cap, os_convert, os_min, os_max, on_load, on_buildSlice, on_alloc, on_box, on_makeSlice, on_lookup, mn_convert, mn_bin, optP_n, on_append, on_copy, on_store, on_call, ev, updo, upd, optP_s, resP_ok, resU_ok, ↓reduceIte, Nat.reduceEqDiff, List.map_cons, List.map_nil, List.map_toArray, argU, Nat.reduceAdd, gval_slot, gslot, List.getElem?_toArray, List.getElem?_cons_zero, List.getElem?_cons_succ, Option.bind_some, Option.some.injEq, reduceCtorEq, Bool.false_eq_true, Bool.true_eq_false, Option.map_some, Option.map_none, Int.toNat_zero, Option.isNone_none, Option.isNone_some, add_zero', binV, binI, unV, fieldV, extV, idxV, indexV, sliceV, lenV, capV, convV, min2V, max2V, TY, Option.isSome_some, Bool.true_and, Bool.and_true, Nat.mul_one, Int.toNat_natCast, le0n, Flat.val, Int.reduceToNat, Int.reduceLE, Int.reduceLT, Int.cast_ofNat_Int, decide_true, add_lit, Nat.zero_add, Nat.zero_mul, Nat.one_mul, Bool.not_true, Bool.not_false, g6, hSa, hina, d0]
          refine ⟨.int .i64 k, fun w2 e => by subst e; exact hldk', ?_⟩
          simp only [RnF_nil, RnF_op, ordL, of_load, of_lookup, mf_convert, mf_bin, of_buildSlice, of_alloc, of_box, of_makeSlice, of_append, of_copy, of_store, of_call, List.drop_succ_cons, List.drop_zero, CW_seq, CW_skip, CW_cond, CW_block, CW_loop, CW_reg, CW_draw, CW_exit, CW_ret, thenF_n, thenF_nK, thenF_r, thenF_x, blockF_n, blockF_nK, blockF_r, blockF_x, condF_t, condF_f, Rn_nil, Rn_ng, Rn_g, oneStep_g, os_move, os_assign, os_pick, os_bin, os_un, os_fieldAddr, os_field, os_indexAddr, os_index, os_slice, os_extract, os_nilCheck, os_makeFunc, os_build, os_len, os_cap, os_convert, os_min, os_max, on_load, on_buildSlice, on_alloc, on_box, on_makeSlice, on_lookup, mn_convert, mn_bin, optP_n, on_append, on_copy, on_store, on_call, ev, updo, upd, optP_s, resP_ok, resU_ok, ↓reduceIte, Nat.reduceEqDiff, List.map_cons, List.map_nil, List.map_toArray, argU, Nat.reduceAdd, gval_slot, gslot, List.getElem?_toArray, List.getElem?_cons_zero, List.getElem?_cons_succ, Option.bind_some, Option.some.injEq, reduceCtorEq, Bool.false_eq_true, Bool.true_eq_false, Option.map_some, Option.map_none, Int.toNat_zero, Option.isNone_none, Option.isNone_some, add_zero', binV, binI, unV, fieldV, extV, idxV, indexV, sliceV, lenV, capV, convV, min2V, max2V, TY, Option.isSome_some, Bool.true_and, Bool.and_true, Nat.mul_one, Int.toNat_natCast, le0n, Flat.val, Int.reduceToNat, Int.reduceLE, Int.reduceLT, Int.cast_ofNat_Int, decide_true, add_lit, Nat.zero_add, Nat.zero_mul, Nat.one_mul, Bool.not_true, Bool.not_false, g0]
          refine ⟨vn, fun w2 e => by subst e; exact ld_at h1 (hle_ext hxd) tyG23, ?_⟩
          simp only [RnF_nil, RnF_op, ordL, of_load, of_lookup, mf_convert, mf_bin, of_buildSlice, of_alloc, of_box, of_makeSlice, of_append, of_copy, of_store, of_call, List.drop_succ_cons, List.drop_zero, CW_seq, CW_skip, CW_cond, CW_block, CW_loop, CW_reg, CW_draw, CW_exit, CW_ret, thenF_n, thenF_nK, thenF_r, thenF_x, blockF_n, blockF_nK, blockF_r, blockF_x, condF_t, condF_f, Rn_nil, Rn_ng, Rn_g, oneStep_g, os_move, os_assign, os_pick, os_bin, os_un, os_fieldAddr, os_field, os_indexAddr, os_index, os_slice, os_extract, os_nilCheck, os_makeFunc, os_build, os_len, os_cap, os_convert, os_min, os_max, on_load, on_buildSlice, on_alloc, on_box, on_makeSlice, on_lookup, mn_convert, mn_bin, optP_n, on_append, on_copy, on_store, on_call, ev, updo, upd, optP_s, resP_ok, resU_ok, ↓reduceIte, Nat.reduceEqDiff, List.map_cons, List.map_nil, List.map_toArray, argU, Nat.reduceAdd, gval_slot, gslot, List.getElem?_toArray, List.getElem?_cons_zero, List.getElem?_cons_succ, Option.bind_some, Option.some.injEq, reduceCtorEq, Bool.false_eq_true, Bool.true_eq_false, Option.map_some, Option.map_none, Int.toNat_zero, Option.isNone_none, Option.isNone_some, add_zero', binV, binI, unV, fieldV, extV, idxV, indexV, sliceV, lenV, capV, convV, min2V, max2V, TY, Option.isSome_some, Bool.true_and, Bool.and_true, Nat.mul_one, Int.toNat_natCast, le0n, Flat.val, Int.reduceToNat, Int.reduceLE, Int.reduceLT, Int.cast_ofNat_Int, decide_true, add_lit, Nat.zero_add, Nat.zero_mul, Nat.one_mul, Bool.not_true, Bool.not_false, hSn, hinr, d0]
          refine ⟨x, fun w2 e => by subst e; exact ld_at hx4 (hle_ext hxd) tyG37, ?_⟩
          have hoo5 := hoo.ext (Ext.drew w5)
          have hst5 := hst.ext (Ext.drew w5)
          have hos5 := hos.ext (Ext.drew w5)
          have hoa5 := hoa.ext (Ext.drew w5)
          by_cases hke : k = (rowF nx a).length
          · have hke' : ((k : Int) == ((rowF nx a).length : Int)) = true := by simp [hke]
            obtain ⟨p1, u', w6, p2, p3, p4, p5⟩ := push (e := 37) sokI rfl hoo5 (x := .int .i64 a) (y := a) rfl (by omega) (by omega) (hle_ext hxd)
            simp only [Value.cells] at p1 p2
            have hvc := hst.vcap
            simp only [List.length_append, List.length_singleton] at hvc
            have hcap : decide ((s.length : Int) ≤ ((vcap (f2 4) : Nat) : Int)) = true := by simp; omega
            simp only [RnF_nil, RnF_op, ordL, of_load, of_lookup, mf_convert, mf_bin, of_buildSlice, of_alloc, of_box, of_makeSlice, of_append, of_copy, of_store, of_call, List.drop_succ_cons, List.drop_zero, CW_seq, CW_skip, CW_cond, CW_block, CW_loop, CW_reg, CW_draw, CW_exit, CW_ret, thenF_n, thenF_nK, thenF_r, thenF_x, blockF_n, blockF_nK, blockF_r, blockF_x, condF_t, condF_f, Rn_nil, Rn_ng, Rn_g, oneStep_g, os_move, os_assign, os_pick, os_bin, os_un, os_fieldAddr, os_field, os_indexAddr, os_index, os_slice, os_extract, os_nilCheck, os_makeFunc, os_build, os_len, os_cap, os_convert, os_min, os_max, on_load, on_buildSlice, on_alloc, on_box, on_makeSlice, on_lookup, mn_convert, mn_bin, optP_n, on_append, on_copy, on_store, on_call, ev, updo, upd, optP_s, resP_ok, resU_ok, ↓reduceIte, Nat.reduceEqDiff, List.map_cons, List.map_nil, List.map_toArray, argU, Nat.reduceAdd, gval_slot, gslot, List.getElem?_toArray, List.getElem?_cons_zero, List.getElem?_cons_succ, Option.bind_some, Option.some.injEq, reduceCtorEq, Bool.false_eq_true, Bool.true_eq_false, Option.map_some, Option.map_none, Int.toNat_zero, Option.isNone_none, Option.isNone_some, add_zero', binV, binI, unV, fieldV, extV, idxV, indexV, sliceV, lenV, capV, convV, min2V, max2V, TY, Option.isSome_some, Bool.true_and, Bool.and_true, Nat.mul_one, Int.toNat_natCast, le0n, Flat.val, Int.reduceToNat, Int.reduceLE, Int.reduceLT, Int.cast_ofNat_Int, decide_true, add_lit, Nat.zero_add, Nat.zero_mul, Nat.one_mul, Bool.not_true, Bool.not_false, hxS, hxn, hke', p1, p2, Value.cells, hSst, hlst, hw1, hcap, tyI3]
            obtain ⟨q1, q2⟩ := (hst5.apart p4 d34.symm).pre (k := s.length) (by simp) (by simp)
            have q1' : Own (hpOf w) w6 3 (reS (f2 4) 0 s.length 1) s := by
              have h9 : (s ++ [a]).take s.length = s := List.take_left
              rw [h9] at q1
              exact q1
            have hmove : ∀ v : Value, Dj v (f2 4) → Dj v (reS (f2 4) 0 s.length 1) := fun v hd b hb hb2 => hd b hb ((q2 b).1 hb2)
            refine ⟨(out2 ++ [a], s, sn2, at2), ?_, p3, q1', hos5.apart p4 d03, hoa5.apart p4 d13, (hmove _ (d34.symm.move hst5 p5).symm), d03.move hos5 p5, hmove _ d04, d13.move hoa5 p5, hmove _ d14, hoo5.ext2 hxd p4, hi.pop (by rw [hkk, hke]), hlow⟩
            simp only [List.length_append, List.length_singleton]
            omega
          · have hke' : ((k : Int) == ((rowF nx a).length : Int)) = false := by simp; omega
            have hklt : k < (rowF nx a).length := by omega
            simp only [RnF_nil, RnF_op, ordL, of_load, of_lookup, mf_convert, mf_bin, of_buildSlice, of_alloc, of_box, of_makeSlice, of_append, of_copy, of_store, of_call, List.drop_succ_cons, List.drop_zero, CW_seq, CW_skip, CW_cond, CW_block, CW_loop, CW_reg, CW_draw, CW_exit, CW_ret, thenF_n, thenF_nK, thenF_r, thenF_x, blockF_n, blockF_nK, blockF_r, blockF_x, condF_t, condF_f, Rn_nil, Rn_ng, Rn_g, oneStep_g, os_move, os_assign, os_pick, os_bin, os_un, os_fieldAddr, os_field, os_indexAddr, os_index, os_slice, os_extract, os_nilCheck, os_makeFunc, os_build, os_len, os_cap, os_convert, os_min, os_max, on_load, on_buildSlice, on_alloc, on_box, on_makeSlice, on_lookup, mn_convert, mn_bin, optP_n, on_append, on_copy, on_store, on_call, ev, updo, upd, optP_s, resP_ok, resU_ok, ↓reduceIte, Nat.reduceEqDiff, List.map_cons, List.map_nil, List.map_toArray, argU, Nat.reduceAdd, gval_slot, gslot, List.getElem?_toArray, List.getElem?_cons_zero, List.getElem?_cons_succ, Option.bind_some, Option.some.injEq, reduceCtorEq, Bool.false_eq_true, Bool.true_eq_false, Option.map_some, Option.map_none, Int.toNat_zero, Option.isNone_none, Option.isNone_some, add_zero', binV, binI, unV, fieldV, extV, idxV, indexV, sliceV, lenV, capV, convV, min2V, max2V, TY, Option.isSome_some, Bool.true_and, Bool.and_true, Nat.mul_one, Int.toNat_natCast, le0n, Flat.val, Int.reduceToNat, Int.reduceLE, Int.reduceLT, Int.cast_ofNat_Int, decide_true, add_lit, Nat.zero_add, Nat.zero_mul, Nat.one_mul, Bool.not_true, Bool.not_false, hxS, hxn, hke']
            refine drawR (fun w2 => w2 = w5.drew.drew) 11 (ordL [0, 1, 2, 3, 4, 5, 6, 7, 8, 9, 10]) (by decide +kernel) rfl ?_
            have hxd2 := hxd.trans (Ext.drew w5.drew)
            have hoo6 := hoo5.ext (Ext.drew w5.drew)
            have hst6 := hst5.ext (Ext.drew w5.drew)
            have hos6 := hos5.ext (Ext.drew w5.drew)
            have hoa6 := hoa5.ext (Ext.drew w5.drew)
            have hldk2 := own_ld_flat (P := Try.prog) (t := 3) hoa6 (k := a.toNat) (x := (k : Int)) (by rw [← hkk]; simp [ai, List.getD, hi.alen, hx2]) tyG3
            simp only [RnF_nil, RnF_op, ordL, of_load, of_lookup, mf_convert, mf_bin, of_buildSlice, of_alloc, of_box, of_makeSlice, of_append, of_copy, of_store, of_call, List.drop_succ_cons, List.drop_zero, CW_seq, CW_skip, CW_cond, CW_block, CW_loop, CW_reg, CW_draw, CW_exit, CW_ret, thenF_n, thenF_nK, thenF_r, thenF_x, blockF_n, blockF_nK, blockF_r, blockF_x, condF_t, condF_f, Rn_nil, Rn_ng, Rn_g, oneStep_g, os_move, os_assign, os_pick, os_bin, os_un, os_fieldAddr, os_field, os_indexAddr, os_index, os_slice, os_extract, os_nilCheck, os_makeFunc, os_build, os_len, os_cap, os_convert, os_min, os_max, on_load, on_buildSlice, on_alloc, on_box, on_makeSlice, on_lookup, mn_convert, mn_bin, optP_n, on_append, on_copy, on_store, on_call, ev, updo, upd, optP_s, resP_ok, resU_ok, ↓reduceIte, Nat.reduceEqDiff, List.map_cons, List.map_nil, List.map_toArray, argU, Nat.reduceAdd, gval_slot, gslot, List.getElem?_toArray, List.getElem?_cons_zero, List.getElem?_cons_succ, Option.bind_some, Option.some.injEq, reduceCtorEq, Bool.false_eq_true, Bool.true_eq_false, Option.map_some, Option.map_none, Int.toNat_zero, Option.isNone_none, Option.isNone_some, add_zero', binV, binI, unV, fieldV, extV, idxV, indexV, sliceV, lenV, capV, convV, min2V, max2V, TY, Option.isSome_some, Bool.true_and, Bool.and_true, Nat.mul_one, Int.toNat_natCast, le0n, Flat.val, Int.reduceToNat, Int.reduceLE, Int.reduceLT, Int.cast_ofNat_Int, decide_true, add_lit, Nat.zero_add, Nat.zero_mul, Nat.one_mul, Bool.not_true, Bool.not_false, g0]
            refine ⟨vn, fun w2 e => by subst e; exact ld_at h1 (hle_ext hxd2) tyG23, ?_⟩
            simp only [RnF_nil, RnF_op, ordL, of_load, of_lookup, mf_convert, mf_bin, of_buildSlice, of_alloc, of_box, of_makeSlice, of_append, of_copy, of_store, of_call, List.drop_succ_cons, List.drop_zero, CW_seq, CW_skip, CW_cond, CW_block, CW_loop, CW_reg, CW_draw, CW_exit, CW_ret, thenF_n, thenF_nK, thenF_r, thenF_x, blockF_n, blockF_nK, blockF_r, blockF_x, condF_t, condF_f, Rn_nil, Rn_ng, Rn_g, oneStep_g, os_move, os_assign, os_pick, os_bin, os_un, os_fieldAddr, os_field, os_indexAddr, os_index, os_slice, os_extract, os_nilCheck, os_makeFunc, os_build, os_len, os_cap, os_convert, os_min, os_max, on_load, on_buildSlice, on_alloc, on_box, on_makeSlice, on_lookup, mn_convert, mn_bin, optP_n, on_append, on_copy, on_store, on_call, ev, updo, upd, optP_s, resP_ok, resU_ok, ↓reduceIte, Nat.reduceEqDiff, List.map_cons, List.map_nil, List.map_toArray, argU, Nat.reduceAdd, gval_slot, gslot, List.getElem?_toArray, List.getElem?_cons_zero, List.getElem?_cons_succ, Option.bind_some, Option.some.injEq, reduceCtorEq, Bool.false_eq_true, Bool.true_eq_false, Option.map_some, Option.map_none, Int.toNat_zero, Option.isNone_none, Option.isNone_some, add_zero', binV, binI, unV, fieldV, extV, idxV, indexV, sliceV, lenV, capV, convV, min2V, max2V, TY, Option.isSome_some, Bool.true_and, Bool.and_true, Nat.mul_one, Int.toNat_natCast, le0n, Flat.val, Int.reduceToNat, Int.reduceLE, Int.reduceLT, Int.cast_ofNat_Int, decide_true, add_lit, Nat.zero_add, Nat.zero_mul, Nat.one_mul, Bool.not_true, Bool.not_false, hSn, hinr, d0]
            refine ⟨x, fun w2 e => by subst e; exact ld_at hx4 (hle_ext hxd2) tyG37, ?_⟩
            simp only [RnF_nil, RnF_op, ordL, of_load, of_lookup, mf_convert, mf_bin, of_buildSlice, of_alloc, of_box, of_makeSlice, of_append, of_copy, of_store, of_call, List.drop_succ_cons, List.drop_zero, CW_seq, CW_skip, CW_cond, CW_block, CW_loop, CW_reg, CW_draw, CW_exit, CW_ret, thenF_n, thenF_nK, thenF_r, thenF_x, blockF_n, blockF_nK, blockF_r, blockF_x, condF_t, condF_f, Rn_nil, Rn_ng, Rn_g, oneStep_g, os_move, os_assign, os_pick, os_bin, os_un, os_fieldAddr, os_field, os_indexAddr, os_index, os_slice, os_extract, os_nilCheck, os_makeFunc, os_build, os_len, os_cap, os_convert, os_min, os_max, on_load, on_buildSlice, on_alloc, on_box, on_makeSlice, on_lookup, mn_convert, mn_bin, optP_n, on_append, on_copy, on_store, on_call, ev, updo, upd, optP_s, resP_ok, resU_ok, ↓reduceIte, Nat.reduceEqDiff, List.map_cons, List.map_nil, List.map_toArray, argU, Nat.reduceAdd, gval_slot, gslot, List.getElem?_toArray, List.getElem?_cons_zero, List.getElem?_cons_succ, Option.bind_some, Option.some.injEq, reduceCtorEq, Bool.false_eq_true, Bool.true_eq_false, Option.map_some, Option.map_none, Int.toNat_zero, Option.isNone_none, Option.isNone_some, add_zero', binV, binI, unV, fieldV, extV, idxV, indexV, sliceV, lenV, capV, convV, min2V, max2V, TY, Option.isSome_some, Bool.true_and, Bool.and_true, Nat.mul_one, Int.toNat_natCast, le0n, Flat.val, Int.reduceToNat, Int.reduceLE, Int.reduceLT, Int.cast_ofNat_Int, decide_true, add_lit, Nat.zero_add, Nat.zero_mul, Nat.one_mul, Bool.not_true, Bool.not_false, g6, hSa, hina, d0]
            refine ⟨.int .i64 k, fun w2 e => by subst e; exact hldk2, ?_⟩
            have hinx := hx3.inS hklt
            have hldy := ld_flat (P := Try.prog) (t := 3) hx3 (hle_ext hxd2) (List.getElem?_eq_getElem hklt) tyG3
            have hyk : (rowF nx a)[k]? = some (rowF nx a)[k] := List.getElem?_eq_getElem hklt
            have hym : (rowF nx a)[k] ∈ rowF nx a := List.getElem_mem hklt
            generalize (rowF nx a)[k] = y at hldy hyk hym
            have hyo : okN nx.length y = true := hg.ok _ (rowF_mem hak) y hym
            have hyo2 : okN sn2.length y = true := by rw [hi.slen]; exact hyo
            obtain ⟨hylt, hyg⟩ := bitAt_ok hyo2
            have dy : decide (0 ≤ y) = true := by simpa using (okN_iff.1 hyo).1
            have hwk : IntKind.i64.wrap ((k : Int) + 1) = ((k + 1 : Nat) : Int) := i64s k (by omega)
            obtain ⟨w7, t1, t2, t3, t4⟩ := own_store (P := Try.prog) (t := 3) hoa6 rfl (k := a.toNat) (by rw [hi.alen]; exact hx2) (x := .int .i64 ((k + 1 : Nat) : Int)) (y := ((k + 1 : Nat) : Int)) rfl rfl (zeroT_info tyZ3).choose_spec.1 (by rw [← szT_info (zeroT_info tyZ3).choose_spec.1]; exact tyS3)
            have hx7 := hoa6.ext2 hxd2 t3
            have hoo7 := hoo6.apart t3 d13.symm
            have hst7 := hst6.apart t3 d14.symm
            have hos7 := hos6.apart t3 hd01
            have hiny := hos7.inS hylt
            have hldS := own_ld_flat (P := Try.prog) (t := 4) hos7 (k := y.toNat) (x := bitAt sn2 y) (by rw [hyg]; simp [List.getD, hylt]) tyG4
            have hlf := leftN_adv (nx := nx) hi.alen hak hkk hklt
            have hsa : bitAt sn2 a = true := (hi.mark a).2 (.inr (by simp))
            have hrk3 : y ∈ rowF nx a := hym
            rcases Bool.eq_false_or_eq_true (bitAt sn2 y) with hby | hby
            · have hby' : (!bitAt sn2 y) = false := by rw [hby]; rfl
              simp only [RnF_nil, RnF_op, ordL, of_load, of_lookup, mf_convert, mf_bin, of_buildSlice, of_alloc, of_box, of_makeSlice, of_append, of_copy, of_store, of_call, List.drop_succ_cons, List.drop_zero, CW_seq, CW_skip, CW_cond, CW_block, CW_loop, CW_reg, CW_draw, CW_exit, CW_ret, thenF_n, thenF_nK, thenF_r, thenF_x, blockF_n, blockF_nK, blockF_r, blockF_x, condF_t, condF_f, Rn_nil, Rn_ng, Rn_g, oneStep_g, os_move, os_assign, os_pick, os_bin, os_un, os_fieldAddr, os_field, os_indexAddr, os_index, os_slice, os_extract, os_nilCheck, os_makeFunc, os_build, os_len, os_cap, os_convert, os_min, os_max, on_load, on_buildSlice, on_alloc, on_box, on_makeSlice, on_lookup, mn_convert, mn_bin, optP_n, on_append, on_copy, on_store, on_call, ev, updo, upd, optP_s, resP_ok, resU_ok, ↓reduceIte, Nat.reduceEqDiff, List.map_cons, List.map_nil, List.map_toArray, argU, Nat.reduceAdd, gval_slot, gslot, List.getElem?_toArray, List.getElem?_cons_zero, List.getElem?_cons_succ, Option.bind_some, Option.some.injEq, reduceCtorEq, Bool.false_eq_true, Bool.true_eq_false, Option.map_some, Option.map_none, Int.toNat_zero, Option.isNone_none, Option.isNone_some, add_zero', binV, binI, unV, fieldV, extV, idxV, indexV, sliceV, lenV, capV, convV, min2V, max2V, TY, Option.isSome_some, Bool.true_and, Bool.and_true, Nat.mul_one, Int.toNat_natCast, le0n, Flat.val, Int.reduceToNat, Int.reduceLE, Int.reduceLT, Int.cast_ofNat_Int, decide_true, add_lit, Nat.zero_add, Nat.zero_mul, Nat.one_mul, Bool.not_true, Bool.not_false, hxS, hinx, hldy, g6, g5, hSa, hina, d0, hldk2, hwk, t1, hSs, hiny, dy, hldS, hby']
              exact ⟨(out2, s ++ [a], sn2, at2.set a.toNat ((k + 1 : Nat) : Int)), by simp only []; omega, hoo7, hst7, hos7, t2, d34, d03, d04, d13, d14, hx7, hi.adv hak hkk hyk hby hsa, hlow⟩
            · have hby' : (!bitAt sn2 y) = true := by rw [hby]; rfl
              obtain ⟨w8, v1, v2, v3, v4⟩ := own_store (P := Try.prog) (t := 4) hos7 rfl (k := y.toNat) hylt (x := .bool true) (y := true) rfl rfl (zeroT_info tyZ4).choose_spec.1 (by rw [← szT_info (zeroT_info tyZ4).choose_spec.1]; exact tyS4)
              have hx8 := hos7.ext2 hx7 v3
              have hoo8 := hoo7.apart v3 d03.symm
              have hst8 := hst7.apart v3 d04.symm
              have hoa8 := t2.apart v3 hd01.symm
              obtain ⟨p1, u', w9, p2, p3, p4, p5⟩ := push (e := 37) sokI rfl hst8 (x := .int .i64 y) (y := y) rfl (by simp; omega) (by simp; omega) (hle_ext hx8)
              simp only [Value.cells] at p1 p2
              simp only [RnF_nil, RnF_op, ordL, of_load, of_lookup, mf_convert, mf_bin, of_buildSlice, of_alloc, of_box, of_makeSlice, of_append, of_copy, of_store, of_call, List.drop_succ_cons, List.drop_zero, CW_seq, CW_skip, CW_cond, CW_block, CW_loop, CW_reg, CW_draw, CW_exit, CW_ret, thenF_n, thenF_nK, thenF_r, thenF_x, blockF_n, blockF_nK, blockF_r, blockF_x, condF_t, condF_f, Rn_nil, Rn_ng, Rn_g, oneStep_g, os_move, os_assign, os_pick, os_bin, os_un, os_fieldAddr, os_field, os_indexAddr, os_index, os_slice, os_extract, os_nilCheck, os_makeFunc, os_build, os_len, os_cap, os_convert, os_min, os_max, on_load, on_buildSlice, on_alloc, on_box, on_makeSlice, on_lookup, mn_convert, mn_bin, optP_n, on_append, on_copy, on_store, on_call, ev, updo, upd, optP_s, resP_ok, resU_ok, ↓reduceIte, Nat.reduceEqDiff, List.map_cons, List.map_nil, List.map_toArray, argU, Nat.reduceAdd, gval_slot, gslot, List.getElem?_toArray, List.getElem?_cons_zero, List.getElem?_cons_succ, Option.bind_some, Option.some.injEq, reduceCtorEq, Bool.false_eq_true, Bool.true_eq_false, Option.map_some, Option.map_none, Int.toNat_zero, Option.isNone_none, Option.isNone_some, add_zero', binV, binI, unV, fieldV, extV, idxV, indexV, sliceV, lenV, capV, convV, min2V, max2V, TY, Option.isSome_some, Bool.true_and, Bool.and_true, Nat.mul_one, Int.toNat_natCast, le0n, Flat.val, Int.reduceToNat, Int.reduceLE, Int.reduceLT, Int.cast_ofNat_Int, decide_true, add_lit, Nat.zero_add, Nat.zero_mul, Nat.one_mul, Bool.not_true, Bool.not_false, hxS, hinx, hldy, g6, g5, hSa, hina, d0, hldk2, hwk, t1, hSs, hiny, dy, hldS, hby', v1, p1, p2, Value.cells]
              refine ⟨(out2, (s ++ [a]) ++ [y], sn2.set y.toNat true, at2.set a.toNat ((k + 1 : Nat) : Int)), by simp only []; omega, hoo8.apart p4 d34, p3, v2.apart p4 d04, hoa8.apart p4 d14, d34.move hoo8 p5, d03, d04.move v2 p5, d13, d14.move hoa8 p5, hst8.ext2 hx8 p4, ?_, fun r' hr' => ?_⟩
              · have hpu := hi.push hyo hby fun g hgs => by
                  rcases List.mem_append.1 hgs with h9 | h9
                  · exact .step ((List.pairwise_append.1 hi.path).2.2 g h9 a (by simp)) hym
                  · simp at h9; subst h9; exact Way.one hym
                refine hpu.adv hak hkk hyk ?_ (push_mono hyo2 hsa)
                rw [bitAt_set hyo2, if_pos rfl]
              · exact push_mono hyo2 (hlow r' hr')
        · have hst0 : st2 = [] := by
            simp at hc2
            exact hc2
          subst hst0
          simp only [CW_seq, CW_skip, CW_cond, CW_block, CW_loop, CW_reg, CW_draw, CW_exit, CW_ret, thenF_n, thenF_nK, thenF_r, thenF_x, blockF_n, blockF_nK, blockF_r, blockF_x, condF_t, condF_f, Rn_nil, Rn_ng, Rn_g, oneStep_g, os_move, os_assign, os_pick, os_bin, os_un, os_fieldAddr, os_field, os_indexAddr, os_index, os_slice, os_extract, os_nilCheck, os_makeFunc, os_build, os_len, os_cap, os_convert, os_min, os_max, on_load, on_buildSlice, on_alloc, on_box, on_makeSlice, on_lookup, mn_convert, mn_bin, optP_n, on_append, on_copy, on_store, on_call, ev, updo, upd, optP_s, resP_ok, resU_ok, ↓reduceIte, Nat.reduceEqDiff, List.map_cons, List.map_nil, List.map_toArray, argU, Nat.reduceAdd, gval_slot, gslot, List.getElem?_toArray, List.getElem?_cons_zero, List.getElem?_cons_succ, Option.bind_some, Option.some.injEq, reduceCtorEq, Bool.false_eq_true, Bool.true_eq_false, Option.map_some, Option.map_none, Int.toNat_zero, Option.isNone_none, Option.isNone_some, add_zero', binV, binI, unV, fieldV, extV, idxV, indexV, sliceV, lenV, capV, convV, min2V, max2V, TY, Option.isSome_some, Bool.true_and, Bool.and_true, Nat.mul_one, Int.toNat_natCast, le0n, Flat.val, Int.reduceToNat, Int.reduceLE, Int.reduceLT, Int.cast_ofNat_Int, decide_true, add_lit, Nat.zero_add, Nat.zero_mul, Nat.one_mul, Bool.not_true, Bool.not_false, g27]
          refine ⟨(out2, sn2, at2, r + 1), by simp only []; omega, by simp only []; rw [i64s r (by omega)], by simp only []; omega, hoo, hst, hos, hoa, d34, d03, d04, d13, d14, hx, hi, hlow⟩
    · have hge : r = nx.length := by simp at hc; omega
      subst hge
      simp only [CW_seq, CW_skip, CW_cond, CW_block, CW_loop, CW_reg, CW_draw, CW_exit, CW_ret, thenF_n, thenF_nK, thenF_r, thenF_x, blockF_n, blockF_nK, blockF_r, blockF_x, condF_t, condF_f, Rn_nil, Rn_ng, Rn_g, oneStep_g, os_move, os_assign, os_pick, os_bin, os_un, os_fieldAddr, os_field, os_indexAddr, os_index, os_slice, os_extract, os_nilCheck, os_makeFunc, os_build, os_len, os_cap, os_convert, os_min, os_max, on_load, on_buildSlice, on_alloc, on_box, on_makeSlice, on_lookup, mn_convert, mn_bin, optP_n, on_append, on_copy, on_store, on_call, ev, updo, upd, optP_s, resP_ok, resU_ok, ↓reduceIte, Nat.reduceEqDiff, List.map_cons, List.map_nil, List.map_toArray, argU, Nat.reduceAdd, gval_slot, gslot, List.getElem?_toArray, List.getElem?_cons_zero, List.getElem?_cons_succ, Option.bind_some, Option.some.injEq, reduceCtorEq, Bool.false_eq_true, Bool.true_eq_false, Option.map_some, Option.map_none, Int.toNat_zero, Option.isNone_none, Option.isNone_some, add_zero', binV, binI, unV, fieldV, extV, idxV, indexV, sliceV, lenV, capV, convV, min2V, max2V, TY, Option.isSome_some, Bool.true_and, Bool.and_true, Nat.mul_one, Int.toNat_natCast, le0n, Flat.val, Int.reduceToNat, Int.reduceLE, Int.reduceLT, Int.cast_ofNat_Int, decide_true, add_lit, Nat.zero_add, Nat.zero_mul, Nat.one_mul, Bool.not_true, Bool.not_false]
      refine retq1 Try.results49 ?_
      simp only [upd, ↓reduceIte, Nat.reduceEqDiff]
      refine ⟨⟨out, hoo, hi.fin fun b hb => ?_⟩, hx⟩
      have hb' := okN_iff.1 hb
      have := hlow b.toNat (by omega)
      rwa [show ((b.toNat : Nat) : Int) = b by omega] at this
end Go.Proofs.Ytldmnnloakpjlaa
