/- Contract: solve.solve. -/
import Derived.Test.YtldmnnloakpjlaaB21
import Derived.Test.YtldmnnloakpjlaaA13
set_option linter.unusedSimpArgs false
set_option linter.unusedVariables false
set_option maxRecDepth 100000
namespace Go.Proofs.Ytldmnnloakpjlaa
open Go

theorem alloc_sol (w : World) : (Instr.alloc 27 true (.tuple #[])).run Try.prog w = .ok (.pointer (some ⟨w.heap.size, 0, none⟩)) (w.alloc (.cells #[.slice none 0 0, .int .i64 0] 27)) :=
  (locV (P := Try.prog) (T := 27) tyZ27 (by rw [tyS27]; rfl) (cs := #[.slice none 0 0, .int .i64 0]) (by rw [tyS27]; rfl) (by simp [Value.oneCell'])).1

/-- What goes on, the first words of it. -/
def goW (g r k : List W) (i : Nat) : W := g.getD i 0#64 ||| (r.getD i 0#64 &&& ~~~(k.getD i 0#64))
def goHalf (g r k : List W) (m i : Nat) : List W := (List.range m).map fun j => if j < i then goW g r k j else 0#64
theorem goHalf_zero (g r k : List W) (m : Nat) : goHalf g r k m 0 = List.replicate m 0#64 := by
  unfold goHalf
  apply List.ext_getElem (by simp)
  intro i h1 h2
  simp
theorem goHalf_len (g r k : List W) (m i : Nat) : (goHalf g r k m i).length = m := by simp [goHalf]
theorem goHalf_get (g r k : List W) (m i j : Nat) : (goHalf g r k m i)[j]? = if j < m then some (if j < i then goW g r k j else 0#64) else none := by
  unfold goHalf
  rw [List.getElem?_map]
  by_cases hj : j < m
  · rw [List.getElem?_range hj, if_pos hj]; rfl
  · rw [List.getElem?_eq_none (by simp; omega), if_neg hj]; rfl
theorem goHalf_succ (g r k : List W) {m i : Nat} (hi : i < m) : (goHalf g r k m i).set i (goW g r k i) = goHalf g r k m (i + 1) := by
  apply List.ext_getElem?
  intro j
  rw [List.getElem?_set, goHalf_get, goHalf_get, goHalf_len]
  by_cases e : i = j
  · subst e; rw [if_pos rfl, if_pos hi, if_pos hi, if_pos (by omega)]
  · rw [if_neg e]
    by_cases h3 : j < i
    · rw [if_pos h3, if_pos (show j < i + 1 by omega)]
    · rw [if_neg h3, if_neg (show ¬ j < i + 1 by omega)]
theorem goHalf_has (g r k : List W) {m : Nat} (hg : g.length = m) (hr : r.length = m) (hk : k.length = m) (f : Nat) : hasB (goHalf g r k m m) f = (hasB g f || (hasB r f && !hasB k f)) := by
  unfold hasB
  by_cases hi : f / 64 < m
  · have h1 : (goHalf g r k m m).getD (f / 64) 0#64 = goW g r k (f / 64) := by
      unfold goHalf
      simp only [List.getD, List.getElem?_map, List.getElem?_range hi, Option.map_some, Option.getD_some]
      rw [if_pos hi]
    rw [h1]
    unfold goW
    rw [BitVec.getLsbD_or, BitVec.getLsbD_and, BitVec.getLsbD_not]
    have : f % 64 < 64 := Nat.mod_lt _ (by decide)
    simp [this]
  · have h0 : ∀ l : List W, l.length = m → l.getD (f / 64) 0#64 = 0#64 := fun l hl => by
      simp only [List.getD]; rw [List.getElem?_eq_none (by omega)]; rfl
    rw [h0 _ (goHalf_len g r k m m), h0 g hg, h0 r hr]
    simp

theorem ST.ge' {w0 w : World} {rb gb : Nat} {ui uw vt : Value} {us : List Raw} {ins : List (List W)} {waits : List Bool} {todo : List Int} {T : Int} (s : ST w0 w rb gb ui uw vt us ins waits todo T) {w1 : World} {b : Nat} (hb : hpOf w1 b = none) : w1.heap.size ≤ b :=
  Nat.le_of_not_lt fun hlt => by simp [hpOf, hlt] at hb
theorem solve_any (pg : Value) (nx pv : List (List Int)) (vg vk : Value) (gs ks : List (List W)) (gl kl : List (List Int)) (most : Nat) (w : World)
    (hgr : GR (hpOf w) pg nx pv) (hgg : Graph nx.length (nx, pv)) (hvg : R (hpOf w) vg gs) (hvk : R (hpOf w) vk ks) (hsg : SetsB most gl gs) (hsk : SetsB most kl ks) (hgn : gl.length = nx.length) (hkn : kl.length = nx.length) (hfg : factsOk gl most) (hn5 : nx.length ≤ 5000) (hm5 : most ≤ 5000) :
    Calls Try.prog 41 #[pg, vg, vk, .int .i64 most] w fun e w' => ∃ u, e = .returned u ∧ ((∃ vi sol T, u = .agg #[vi, .int .i64 (T : Nat)] ∧ R (hpNo w' (fun b => b < w.heap.size)) vi sol ∧ sol.length = nx.length ∧ (∀ b, okN nx.length b = true → ∃ f : Nat → Bool, rowF sol b = ((List.range most).filter f).map (fun (i : Nat) => (i : Int)) ∧ ∀ i, f i = true ↔ Comes nx gl kl b i) ∧ nx.length ≤ T ∧ T ≤ nx.length + nx.length * most) ∧ Ext w w') := by
  refine calls_of_CW (args := [pg, vg, vk, .int .i64 most]) hm Try.func41 rfl (by kernel_rfl) (by show 4 ≤ _; decide +kernel) ?_
  have hal := alloc_sol
  simp only [CW_seq, CW_skip, CW_cond, CW_block, CW_loop, CW_reg, CW_draw, CW_exit, CW_ret, thenF_n, thenF_nK, thenF_r, thenF_x, blockF_n, blockF_nK, blockF_r, blockF_x, condF_t, condF_f, Rn_nil, Rn_ng, Rn_g, oneStep_g, os_move, os_assign, os_pick, os_bin, os_un, os_fieldAddr, os_field, os_indexAddr, os_index, os_slice, os_extract, os_nilCheck, os_makeFunc, os_build, os_len, os_cap, os_convert, os_min, os_max, on_load, on_buildSlice, on_alloc, on_box, on_makeSlice, on_lookup, mn_convert, mn_bin, optP_n, on_append, on_copy, on_store, on_call, ev, updo, upd, optP_p, resP_ok, resU_ok, ↓reduceIte, Nat.reduceEqDiff, List.map_cons, List.map_nil, List.map_toArray, argU, Nat.reduceAdd, gval_slot, gslot, List.getElem?_toArray, List.getElem?_cons_zero, List.getElem?_cons_succ, Option.bind_some, Option.some.injEq, reduceCtorEq, Bool.false_eq_true, Bool.true_eq_false, Option.map_some, Option.map_none, Int.toNat_zero, Option.isNone_none, Option.isNone_some, add_zero', unV, fieldV, extV, idxV, indexV, sliceV, lenV, capV, convV, min2V, max2V, TY, Option.isSome_some, Bool.true_and, Bool.and_true, Nat.mul_one, Int.toNat_natCast, le0n, Flat.val, Int.reduceToNat, Int.reduceLE, Int.reduceLT, Int.cast_ofNat_Int, decide_true, add_lit, Nat.zero_add, Nat.zero_mul, Nat.one_mul, Bool.not_true, Bool.not_false, hal]
  have c1 : (w.alloc (.cells #[.slice none 0 0, .int .i64 0] 27)).heap[w.heap.size]? = some (.cells #[.slice none 0 0, .int .i64 0] 27 (0, 0)) := heap_alloc_new w _
  have x1 := Ext.alloc w (.cells #[.slice none 0 0, .int .i64 0] 27)
  have sz1 : (w.alloc (.cells #[.slice none 0 0, .int .i64 0] 27)).heap.size = w.heap.size + 1 := by simp
  generalize w.alloc (.cells #[.slice none 0 0, .int .i64 0] 27) = w1 at *
  have c2 : (w1.alloc (.cells #[.slice none 0 0, .int .i64 0] 27)).heap[w1.heap.size]? = some (.cells #[.slice none 0 0, .int .i64 0] 27 (0, 0)) := heap_alloc_new w1 _
  have x2 := Ext.alloc w1 (.cells #[.slice none 0 0, .int .i64 0] 27)
  have sz2 : (w1.alloc (.cells #[.slice none 0 0, .int .i64 0] 27)).heap.size = w1.heap.size + 1 := by simp
  generalize w1.alloc (.cells #[.slice none 0 0, .int .i64 0] 27) = w2 at *
  have x02 := x1.trans x2
  have hgr2 := hgr.mono (hle_ext x02)
  refine callP (by kernel_rfl : hasBody Try.prog 32 = true) (Len_any pg nx pv w2 hgr2) ?_
  rintro u w2' ⟨hu, hw2⟩
  subst hw2; subst hu
  have hz : Rep.enc (hpOf w) (Value.slice none 0 0).cells.toList nilRaw := ⟨rfl, rfl⟩
  obtain ⟨ui, w3, m1, o1, x3, f1, s1⟩ := mk (P := Try.prog) (w := w2') (h := hpOf w) sokWW tyZ79 (α := Raw) (y := nilRaw) hz (n := nx.length) (by omega) (by omega) (hle_ext x02)
  obtain ⟨ut, w4, m2, o2, x4, f2, s2⟩ := mk (P := Try.prog) (w := w3) (h := hpOf w) sokI tyZ3 (α := Int) (y := 0) rfl (n := nx.length) (by omega) (by omega) (hle_ext (x02.trans x3))
  obtain ⟨uw, w5, m3, o3, x5, f3, s3⟩ := mk (P := Try.prog) (w := w4) (h := hpOf w) sokB tyZ4 (α := Bool) (y := false) rfl (n := nx.length) (by omega) (by omega) (hle_ext ((x02.trans x3).trans x4))
  have x35 := (x3.trans x4).trans x5
  have l1 : w.heap.size < w2'.heap.size := by omega
  have l2 : w1.heap.size < w2'.heap.size := by omega
  have hcr : w5.heap[w.heap.size]? = some (.cells #[.slice none 0 0, .int .i64 0] 27 (0, 0)) := (x35.block _ l1 id).trans ((x2.block _ (by omega) id).trans c1)
  have hcg : w5.heap[w1.heap.size]? = some (.cells #[.slice none 0 0, .int .i64 0] 27 (0, 0)) := (x35.block _ l2 id).trans c2
  have z3 := x3.size
  have z4 := x4.size
  have st0 : ST w w5 w.heap.size w1.heap.size ui uw ut (List.replicate nx.length nilRaw) (List.replicate nx.length []) (List.replicate nx.length false) (List.replicate nx.length 0) 0 := by
    refine ⟨rows_nilW ((o1.ext x4).ext x5), o3, (o2.ext x5).toQ, hcg, hcr, fun b hb => ?_, fun b hb => ⟨fun h => ?_, ?_, ?_⟩, fun b hb => ⟨?_, ?_⟩, by omega, ((x02.trans x3).trans x4).trans x5, by omega, Nat.le_refl _⟩
    · have hb' := rblk_nil hb
      have k1 := f1 b hb'
      have k2 := o1.lt hb'
      exact ⟨fun h => by have := f2 b h; omega, fun h => by have := f3 b h; omega, by omega, by omega⟩
    · have := o2.lt hb; have := f3 b h; omega
    · have := f2 b hb; omega
    · have := f2 b hb; omega
    · have := f3 b hb; omega
    · have := f3 b hb; omega
  have Si := o1.isS
  have ni := o1.vlen
  rw [List.length_replicate] at ni
  have hgood := hgg.nx
  generalize hrb : w.heap.size = rb at *
  generalize hgb : w1.heap.size = gb at *
  have q1 := bv_quo (P := Try.prog) (t := 3) most (by omega)
  have q2 : binV Try.prog .add 3 (.int .i64 ((most / 64 : Nat) : Int)) (.int .i64 1) = some (.int .i64 ((most / 64 + 1 : Nat) : Int)) := by
    simp only [binV, binI, if_true]; rw [i64s _ (by omega)]
  have hm64 : most / 64 + 1 ≤ 100 := by omega
  obtain ⟨hsg1, hsg2⟩ := hsg
  obtain ⟨hsk1, hsk2⟩ := hsk
  generalize hmm : most / 64 + 1 = m at *
  generalize hm6 : most / 64 = m6 at *
  simp only [CW_seq, CW_skip, CW_cond, CW_block, CW_loop, CW_reg, CW_draw, CW_exit, CW_ret, thenF_n, thenF_nK, thenF_r, thenF_x, blockF_n, blockF_nK, blockF_r, blockF_x, condF_t, condF_f, Rn_nil, Rn_ng, Rn_g, oneStep_g, os_move, os_assign, os_pick, os_bin, os_un, os_fieldAddr, os_field, os_indexAddr, os_index, os_slice, os_extract, os_nilCheck, os_makeFunc, os_build, os_len, os_cap, os_convert, os_min, os_max, on_load, on_buildSlice, on_alloc, on_box, on_makeSlice, on_lookup, mn_convert, mn_bin, optP_n, on_append, on_copy, on_store, on_call, ev, updo, upd, optP_p, resP_ok, resU_ok, ↓reduceIte, Nat.reduceEqDiff, List.map_cons, List.map_nil, List.map_toArray, argU, Nat.reduceAdd, gval_slot, gslot, List.getElem?_toArray, List.getElem?_cons_zero, List.getElem?_cons_succ, Option.bind_some, Option.some.injEq, reduceCtorEq, Bool.false_eq_true, Bool.true_eq_false, Option.map_some, Option.map_none, Int.toNat_zero, Option.isNone_none, Option.isNone_some, add_zero', binV, binI, unV, fieldV, extV, idxV, indexV, sliceV, lenV, capV, convV, min2V, max2V, TY, Option.isSome_some, Bool.true_and, Bool.and_true, Nat.mul_one, Int.toNat_natCast, le0n, Flat.val, Int.reduceToNat, Int.reduceLE, Int.reduceLT, Int.cast_ofNat_Int, decide_true, add_lit, Nat.zero_add, Nat.zero_mul, Nat.one_mul, Bool.not_true, Bool.not_false, m1, m2, m3, Si, ni]
  refine loop_rule [0, 1, 2, 3, 8, 9, 10, 11, 12, 13, 29, 30] (σ := Nat) (fun k f w' => f 31 = .int .i64 k ∧ k ≤ nx.length ∧ ∃ us ins waits todo, ST w w' rb gb ui uw ut us ins waits todo 0 ∧ ins.length = nx.length ∧ waits.length = nx.length ∧ todo.length = nx.length ∧ ∀ j : Nat, j < k → ins[j]? = some (List.replicate m 0#64) ∧ waits[j]? = some true ∧ todo[j]? = some (j : Int)) (fun k => nx.length - k) 0 (by decide +kernel) ?_ ?_
  · simp only [upd, ↓reduceIte, Nat.reduceEqDiff]
    exact ⟨rfl, Nat.zero_le _, _, _, _, _, st0, by simp, by simp, by simp, fun j hj => by omega⟩
  · rintro k f w6 hk ⟨h31, hkl, us, ins, waits, todo, st, li, lw, lt, hdone⟩
    simp only [List.forall_mem_cons, upd, ↓reduceIte, Nat.reduceEqDiff] at hk
    obtain ⟨e0, e1, e2, e3, e8, e9, e10, e11, e12, e13, e29, e30, _⟩ := hk
    simp only [CW_seq, CW_skip, CW_cond, CW_block, CW_loop, CW_reg, CW_draw, CW_exit, CW_ret, thenF_n, thenF_nK, thenF_r, thenF_x, blockF_n, blockF_nK, blockF_r, blockF_x, condF_t, condF_f, Rn_nil, Rn_ng, Rn_g, oneStep_g, os_move, os_assign, os_pick, os_bin, os_un, os_fieldAddr, os_field, os_indexAddr, os_index, os_slice, os_extract, os_nilCheck, os_makeFunc, os_build, os_len, os_cap, os_convert, os_min, os_max, on_load, on_buildSlice, on_alloc, on_box, on_makeSlice, on_lookup, mn_convert, mn_bin, optP_n, on_append, on_copy, on_store, on_call, ev, updo, upd, optP_p, resP_ok, resU_ok, ↓reduceIte, Nat.reduceEqDiff, List.map_cons, List.map_nil, List.map_toArray, argU, Nat.reduceAdd, gval_slot, gslot, List.getElem?_toArray, List.getElem?_cons_zero, List.getElem?_cons_succ, Option.bind_some, Option.some.injEq, reduceCtorEq, Bool.false_eq_true, Bool.true_eq_false, Option.map_some, Option.map_none, Int.toNat_zero, Option.isNone_none, Option.isNone_some, add_zero', binV, binI, unV, fieldV, extV, idxV, indexV, sliceV, lenV, capV, convV, min2V, max2V, TY, Option.isSome_some, Bool.true_and, Bool.and_true, Nat.mul_one, Int.toNat_natCast, le0n, Flat.val, Int.reduceToNat, Int.reduceLE, Int.reduceLT, Int.cast_ofNat_Int, decide_true, add_lit, Nat.zero_add, Nat.zero_mul, Nat.one_mul, Bool.not_true, Bool.not_false, h31, e30]
    refine condF_split (fun hc => ?_) (fun hc => ?_)
    · have hlt : k < nx.length := by simpa using hc
      have q6 : binV Try.prog .add 3 (.int .i64 k) (.int .i64 1) = some (.int .i64 ((k + 1 : Nat) : Int)) := by
        simp only [binV, binI, if_true]; rw [i64s k (by omega)]
      obtain ⟨ur, w7, m4, o4, x7, f4, s4⟩ := mk (P := Try.prog) (w := w6) (h := hpOf w) sokW tyZ80 (α := W) (y := 0#64) rfl (n := m) (by omega) (by omega) (hle_ext st.ext)
      have lus : us.length = nx.length := by rw [st.rows.len, li]
      have hui : us[k]? = some (us[k]'(by omega)) := List.getElem?_eq_getElem _
      generalize us[k]'(by omega) = u at hui
      obtain ⟨w8, t1, st1⟩ := st.put (P := Try.prog) (t := 79) x7 hui o4 f4 (zeroT_info tyZ79).choose_spec.1 (by rw [← szT_info (zeroT_info tyZ79).choose_spec.1]; exact tyS79)
      obtain ⟨w9, t2, st2⟩ := st1.qset (P := Try.prog) (t := 3) (k := k) (by omega) (k : Int) (zeroT_info tyZ3).choose_spec.1 (by rw [← szT_info (zeroT_info tyZ3).choose_spec.1]; exact tyS3)
      obtain ⟨w10, t3, st3⟩ := st2.wait (P := Try.prog) (t := 4) (k := k) (by omega) true (zeroT_info tyZ4).choose_spec.1 (by rw [← szT_info (zeroT_info tyZ4).choose_spec.1]; exact tyS4)
      have in1 := st.rows.outer.inS (k := k) (by omega)
      have in2 := st.q.inS (k := k) (by omega)
      have in3 := st.wts.inS (k := k) (by omega)
      simp only [CW_seq, CW_skip, CW_cond, CW_block, CW_loop, CW_reg, CW_draw, CW_exit, CW_ret, thenF_n, thenF_nK, thenF_r, thenF_x, blockF_n, blockF_nK, blockF_r, blockF_x, condF_t, condF_f, Rn_nil, Rn_ng, Rn_g, oneStep_g, os_move, os_assign, os_pick, os_bin, os_un, os_fieldAddr, os_field, os_indexAddr, os_index, os_slice, os_extract, os_nilCheck, os_makeFunc, os_build, os_len, os_cap, os_convert, os_min, os_max, on_load, on_buildSlice, on_alloc, on_box, on_makeSlice, on_lookup, mn_convert, mn_bin, optP_n, on_append, on_copy, on_store, on_call, ev, updo, upd, optP_p, resP_ok, resU_ok, ↓reduceIte, Nat.reduceEqDiff, List.map_cons, List.map_nil, List.map_toArray, argU, Nat.reduceAdd, gval_slot, gslot, List.getElem?_toArray, List.getElem?_cons_zero, List.getElem?_cons_succ, Option.bind_some, Option.some.injEq, reduceCtorEq, Bool.false_eq_true, Bool.true_eq_false, Option.map_some, Option.map_none, Int.toNat_zero, Option.isNone_none, Option.isNone_some, add_zero', unV, fieldV, extV, idxV, indexV, sliceV, lenV, capV, convV, min2V, max2V, TY, Option.isSome_some, Bool.true_and, Bool.and_true, Nat.mul_one, Int.toNat_natCast, le0n, Flat.val, Int.reduceToNat, Int.reduceLE, Int.reduceLT, Int.cast_ofNat_Int, decide_true, add_lit, Nat.zero_add, Nat.zero_mul, Nat.one_mul, Bool.not_true, Bool.not_false, h31, e11, e12, e13, e3, q1, q2, m4, in1, in2, in3, t1, t2, t3, q6]
      refine ⟨k + 1, by omega, by trivial, by omega, _, _, _, _, st3, by simp [li], by simp [lw], by simp [lt], fun j hj => ?_⟩
      by_cases hjk : j = k
      · subst hjk
        exact ⟨List.getElem?_set_self (by omega), List.getElem?_set_self (by omega), List.getElem?_set_self (by omega)⟩
      · rw [List.getElem?_set_ne (fun e => hjk e.symm), List.getElem?_set_ne (fun e => hjk e.symm), List.getElem?_set_ne (fun e => hjk e.symm)]
        exact hdone j (by omega)
    · have hge : k = nx.length := by simp at hc; omega
      subst hge
      have hins : ins = List.replicate nx.length (List.replicate m 0#64) := by
        apply List.ext_getElem (by simp [li])
        intro j h1 h2
        have := (hdone j (by omega)).1
        rw [List.getElem?_eq_getElem h1] at this
        simpa using this
      have hwts : waits = List.replicate nx.length true := by
        apply List.ext_getElem (by simp [lw])
        intro j h1 h2
        have := (hdone j (by omega)).2.1
        rw [List.getElem?_eq_getElem h1] at this
        simpa using this
      have htd : todo = (List.range nx.length).map fun (i : Nat) => (i : Int) := by
        apply List.ext_getElem (by simp [lt])
        intro j h1 h2
        have := (hdone j (by omega)).2.2
        rw [List.getElem?_eq_getElem h1] at this
        simpa using this
      have si0 : SI nx gl kl most ins todo waits 0 := by
        refine SI.start (by rw [hins, ← hmm, ← hm6]) (fun a => ?_) ?_ lt hwts
        · rw [htd, List.mem_map, okN_iff]
          constructor
          · rintro ⟨i, hi, rfl⟩; have := List.mem_range.1 hi; omega
          · rintro ⟨h1, h2⟩; exact ⟨a.toNat, List.mem_range.2 (by omega), by omega⟩
        · rw [htd]
          refine List.Pairwise.map _ (fun a b h => ?_) (List.nodup_range (n := nx.length))
          omega
      simp only [CW_seq, CW_skip, CW_cond, CW_block, CW_loop, CW_reg, CW_draw, CW_exit, CW_ret, thenF_n, thenF_nK, thenF_r, thenF_x, blockF_n, blockF_nK, blockF_r, blockF_x, condF_t, condF_f, Rn_nil, Rn_ng, Rn_g, oneStep_g, os_move, os_assign, os_pick, os_bin, os_un, os_fieldAddr, os_field, os_indexAddr, os_index, os_slice, os_extract, os_nilCheck, os_makeFunc, os_build, os_len, os_cap, os_convert, os_min, os_max, on_load, on_buildSlice, on_alloc, on_box, on_makeSlice, on_lookup, mn_convert, mn_bin, optP_n, on_append, on_copy, on_store, on_call, ev, updo, upd, optP_p, resP_ok, resU_ok, ↓reduceIte, Nat.reduceEqDiff, List.map_cons, List.map_nil, List.map_toArray, argU, Nat.reduceAdd, gval_slot, gslot, List.getElem?_toArray, List.getElem?_cons_zero, List.getElem?_cons_succ, Option.bind_some, Option.some.injEq, reduceCtorEq, Bool.false_eq_true, Bool.true_eq_false, Option.map_some, Option.map_none, Int.toNat_zero, Option.isNone_none, Option.isNone_some, add_zero', binV, binI, unV, fieldV, extV, idxV, indexV, sliceV, lenV, capV, convV, min2V, max2V, TY, Option.isSome_some, Bool.true_and, Bool.and_true, Nat.mul_one, Int.toNat_natCast, le0n, Flat.val, Int.reduceToNat, Int.reduceLE, Int.reduceLT, Int.cast_ofNat_Int, decide_true, add_lit, Nat.zero_add, Nat.zero_mul, Nat.one_mul, Bool.not_true, Bool.not_false]
      clear hdone hins hwts htd li lw lt st0
      have q3 : ∀ T : Nat, T ≤ 100000000 → binV Try.prog .add 3 (.int .i64 (T : Int)) (.int .i64 1) = some (.int .i64 ((T + 1 : Nat) : Int)) := fun T hT => by
        simp only [binV, binI, if_true]; rw [i64s T (by omega)]
      refine loop_rule [0, 1, 2, 3, 8, 9, 10, 11, 13] (σ := List (List W) × List Int) (fun s f w' => ∃ waits T, ST w w' rb gb ui uw (f 12) us s.1 waits s.2 (T : Nat) ∧ SI nx gl kl most s.1 s.2 waits T) (fun s => leftB nx.length most s.1 s.2) (ins, todo) (by decide +kernel) ?_ ?_
      · simp only [upd, ↓reduceIte, Nat.reduceEqDiff]
        simp only [e12]
        exact ⟨waits, 0, st, si0⟩
      · clear st si0 ins waits todo
        rintro ⟨ins, todo⟩ f w7 hk ⟨waits, T, st, si⟩
        simp only [List.forall_mem_cons, upd, ↓reduceIte, Nat.reduceEqDiff] at hk
        simp only [e0, e1, e2, e3, e8, e9, e10, e11, e13] at hk
        obtain ⟨i0, i1, i2, i3, i8, i9, i10, i11, i13, _⟩ := hk
        simp only at st si
        generalize hvt : f 12 = vt at *
        have Sq := st.q.isS
        have nq := st.q.vlen
        have hpl := potB_le most ins
        rw [si.ilen] at hpl
        have hnm : nx.length * most ≤ 25000000 := Nat.le_trans (Nat.mul_le_mul hn5 hm5) (by decide)
        have hfew := si.few
        simp only [CW_seq, CW_skip, CW_cond, CW_block, CW_loop, CW_reg, CW_draw, CW_exit, CW_ret, thenF_n, thenF_nK, thenF_r, thenF_x, blockF_n, blockF_nK, blockF_r, blockF_x, condF_t, condF_f, Rn_nil, Rn_ng, Rn_g, oneStep_g, os_move, os_assign, os_pick, os_bin, os_un, os_fieldAddr, os_field, os_indexAddr, os_index, os_slice, os_extract, os_nilCheck, os_makeFunc, os_build, os_len, os_cap, os_convert, os_min, os_max, on_load, on_buildSlice, on_alloc, on_box, on_makeSlice, on_lookup, mn_convert, mn_bin, optP_n, on_append, on_copy, on_store, on_call, ev, updo, upd, optP_p, resP_ok, resU_ok, ↓reduceIte, Nat.reduceEqDiff, List.map_cons, List.map_nil, List.map_toArray, argU, Nat.reduceAdd, gval_slot, gslot, List.getElem?_toArray, List.getElem?_cons_zero, List.getElem?_cons_succ, Option.bind_some, Option.some.injEq, reduceCtorEq, Bool.false_eq_true, Bool.true_eq_false, Option.map_some, Option.map_none, Int.toNat_zero, Option.isNone_none, Option.isNone_some, add_zero', binV, binI, unV, fieldV, extV, idxV, indexV, sliceV, lenV, capV, convV, min2V, max2V, TY, Option.isSome_some, Bool.true_and, Bool.and_true, Nat.mul_one, Int.toNat_natCast, le0n, Flat.val, Int.reduceToNat, Int.reduceLE, Int.reduceLT, Int.cast_ofNat_Int, decide_true, add_lit, Nat.zero_add, Nat.zero_mul, Nat.one_mul, Bool.not_true, Bool.not_false, hvt, Sq, nq]
        refine condF_split (fun hc => ?_) (fun hc => ?_)
        · have hpos : 0 < todo.length := by simpa using hc
          obtain ⟨a, rest, rfl⟩ : ∃ a rest, todo = a :: rest := by
            cases todo with
            | nil => simp at hpos
            | cons a rest => exact ⟨a, rest, rfl⟩
          have hka : okN nx.length a = true := si.ok a (by simp)
          have hka' := okN_iff.1 hka
          have d0 : decide (0 ≤ a) = true := by simpa using hka'.1
          have inq := st.q.inS (k := 0) (by simp)
          have ldq := st.q.head (P := Try.prog) (t := 3) tyG3
          have hvc := st.q.vcap
          have d1 : decide ((1 : Int) ≤ (((a :: rest).length : Nat) : Int)) = true := by simp; omega
          have d2 : decide ((((a :: rest).length : Nat) : Int) ≤ (vcap vt : Int)) = true := by
            have h9 := hvc
            simp only [List.length_cons] at h9 ⊢
            simp; omega
          have st1 := st.tail
          have hlr : (a :: rest).length = rest.length + 1 := rfl
          rw [hlr] at nq d1 d2
          obtain ⟨w8, t2, st2⟩ := st1.wait (P := Try.prog) (t := 4) (k := a.toNat) (by rw [si.wlen]; omega) false (zeroT_info tyZ4).choose_spec.1 (by rw [← szT_info (zeroT_info tyZ4).choose_spec.1]; exact tyS4)
          have inw := st.wts.inS (k := a.toNat) (by rw [si.wlen]; omega)
          have ldT := blk_ld (P := Try.prog) (t := 3) (i := 1) (u := .int .i64 (T : Int)) st2.cg rfl tyG3
          have hTle : T ≤ 100000000 := by simp only [List.length_cons] at hfew; omega
          have qT := q3 T hTle
          obtain ⟨w9, t3, st3⟩ := st2.times (P := Try.prog) (t := 3) ((T + 1 : Nat) : Int) (zeroT_info tyZ3).choose_spec.1 (by rw [← szT_info (zeroT_info tyZ3).choose_spec.1]; exact tyS3)
          obtain ⟨ug, w10, m4, o4, x10, f4, s4⟩ := mk (P := Try.prog) (w := w9) (h := hpOf w9) sokW tyZ80 (α := W) (y := 0#64) rfl (n := m) (by omega) (by omega) (hle_refl _)
          have st4 := st3.more x10
          have Sg := o4.isS
          have ng := o4.vlen
          rw [List.length_replicate] at ng
          generalize hrl : rest.length + 1 = rl at *
          generalize hvt2 : reS vt 1 rl 1 = vt2 at *
          generalize hT1 : ((T + 1 : Nat) : Int) = T1 at *
          simp only [CW_seq, CW_skip, CW_cond, CW_block, CW_loop, CW_reg, CW_draw, CW_exit, CW_ret, thenF_n, thenF_nK, thenF_r, thenF_x, blockF_n, blockF_nK, blockF_r, blockF_x, condF_t, condF_f, Rn_nil, Rn_ng, Rn_g, oneStep_g, os_move, os_assign, os_pick, os_bin, os_un, os_fieldAddr, os_field, os_indexAddr, os_index, os_slice, os_extract, os_nilCheck, os_makeFunc, os_build, os_len, os_cap, os_convert, os_min, os_max, on_load, on_buildSlice, on_alloc, on_box, on_makeSlice, on_lookup, mn_convert, mn_bin, optP_n, on_append, on_copy, on_store, on_call, ev, updo, upd, optP_p, resP_ok, resU_ok, ↓reduceIte, Nat.reduceEqDiff, List.map_cons, List.map_nil, List.map_toArray, argU, Nat.reduceAdd, gval_slot, gslot, List.getElem?_toArray, List.getElem?_cons_zero, List.getElem?_cons_succ, Option.bind_some, Option.some.injEq, reduceCtorEq, Bool.false_eq_true, Bool.true_eq_false, Option.map_some, Option.map_none, Int.toNat_zero, Option.isNone_none, Option.isNone_some, add_zero', unV, fieldV, extV, idxV, indexV, sliceV, lenV, capV, convV, min2V, max2V, TY, Option.isSome_some, Bool.true_and, Bool.and_true, Nat.mul_one, Int.toNat_natCast, le0n, Flat.val, Int.reduceToNat, Int.reduceLE, Int.reduceLT, Int.cast_ofNat_Int, decide_true, add_lit, Nat.zero_add, Nat.zero_mul, Nat.one_mul, Bool.not_true, Bool.not_false, hvt, Sq, nq, inq, ldq, d1, d2, hvt2, i13, inw, d0, t2, i9, ldT, qT, t3, i3, q1, q2, m4, Sg, ng]
          have hal : a.toNat < nx.length := by omega
          have hgla : gl[a.toNat]? = some (rowF gl a) := (rowF_at (nx := gl) (by rw [hgn]; exact hka)).1
          have hkla : kl[a.toNat]? = some (rowF kl a) := (rowF_at (nx := kl) (by rw [hkn]; exact hka)).1
          obtain ⟨g, hg1, hg2, hg3⟩ := hsg2 _ _ hgla
          obtain ⟨kk, hk1, hk2, hk3⟩ := hsk2 _ _ hkla
          rw [hm6, hmm] at hg2 hk2
          obtain ⟨xg, hxg, hcg'⟩ := hvg.row hg1
          obtain ⟨xk, hxk, hck'⟩ := hvk.row hk1
          have hra := wAt_get si.ilen hka
          have hrl2 : (wAt ins a).length = m := by rw [← hmm, ← hm6]; exact si.rlen _ (List.mem_of_getElem? hra)
          have lus : us.length = nx.length := by rw [st.rows.len, si.ilen]
          have hua : us[a.toNat]? = some (us[a.toNat]'(by omega)) := List.getElem?_eq_getElem _
          generalize us[a.toNat]'(by omega) = ua at hua
          have ing := hvg.inS (k := a.toNat) (by rw [hsg1, hgn]; exact hal)
          have ink := hvk.inS (k := a.toNat) (by rw [hsk1, hkn]; exact hal)
          have inr := st.rows.outer.inS (k := a.toNat) (by omega)
          have hgoes := goHalf_has g (wAt ins a) kk hg2 hrl2 hk2
          refine loop_rule [0, 1, 2, 3, 8, 9, 10, 11, 12, 13, 15, 16, 68, 69] (σ := Nat) (fun i f w' => f 70 = .int .i64 i ∧ i ≤ m ∧ Own (hpOf w9) w' 80 ug (goHalf g (wAt ins a) kk m i) ∧ Ext w9 w') (fun i => m - i) 0 (by decide +kernel) ?_ ?_
          · simp only [upd, ↓reduceIte, Nat.reduceEqDiff]
            exact ⟨rfl, Nat.zero_le _, by rw [goHalf_zero]; exact o4, x10⟩
          · rintro i f w11 hk ⟨h70, him, hog, hx11⟩
            simp only [List.forall_mem_cons, upd, ↓reduceIte, Nat.reduceEqDiff] at hk
            simp only [i0, i1, i2, i3, i8, i9, i10, i11, i13] at hk
            obtain ⟨j0, j1, j2, j3, j8, j9, j10, j11, j12, j13, j15, j16, j68, j69, _⟩ := hk
            simp only [CW_seq, CW_skip, CW_cond, CW_block, CW_loop, CW_reg, CW_draw, CW_exit, CW_ret, thenF_n, thenF_nK, thenF_r, thenF_x, blockF_n, blockF_nK, blockF_r, blockF_x, condF_t, condF_f, Rn_nil, Rn_ng, Rn_g, oneStep_g, os_move, os_assign, os_pick, os_bin, os_un, os_fieldAddr, os_field, os_indexAddr, os_index, os_slice, os_extract, os_nilCheck, os_makeFunc, os_build, os_len, os_cap, os_convert, os_min, os_max, on_load, on_buildSlice, on_alloc, on_box, on_makeSlice, on_lookup, mn_convert, mn_bin, optP_n, on_append, on_copy, on_store, on_call, ev, updo, upd, optP_p, resP_ok, resU_ok, ↓reduceIte, Nat.reduceEqDiff, List.map_cons, List.map_nil, List.map_toArray, argU, Nat.reduceAdd, gval_slot, gslot, List.getElem?_toArray, List.getElem?_cons_zero, List.getElem?_cons_succ, Option.bind_some, Option.some.injEq, reduceCtorEq, Bool.false_eq_true, Bool.true_eq_false, Option.map_some, Option.map_none, Int.toNat_zero, Option.isNone_none, Option.isNone_some, add_zero', binV, binI, unV, fieldV, extV, idxV, indexV, sliceV, lenV, capV, convV, min2V, max2V, TY, Option.isSome_some, Bool.true_and, Bool.and_true, Nat.mul_one, Int.toNat_natCast, le0n, Flat.val, Int.reduceToNat, Int.reduceLE, Int.reduceLT, Int.cast_ofNat_Int, decide_true, add_lit, Nat.zero_add, Nat.zero_mul, Nat.one_mul, Bool.not_true, Bool.not_false, h70, j69]
            refine condF_split (fun hc => ?_) (fun hc => ?_)
            · have hit : i < m := by simpa using hc
              have q6 : binV Try.prog .add 3 (.int .i64 i) (.int .i64 1) = some (.int .i64 ((i + 1 : Nat) : Int)) := by
                simp only [binV, binI, if_true]; rw [i64s i (by omega)]
              have hd := Ext.drew w11
              have st11 := (st3.more hx11).more hd
              have hld1 := ld_at (P := Try.prog) (t := 79) hcg' (hle_ext st11.ext) tyG79
              have hld2 := ld_at (P := Try.prog) (t := 79) hck' (hle_ext st11.ext) tyG79
              have hld3 := rows_ld (P := Try.prog) (t := 79) st11.rows hua tyG79
              have hrow := st11.rows.row _ _ _ hua hra
              have v1 := ld_flat (P := Try.prog) (t := 80) hxg (hle_ext st11.ext) (ws_get (show i < g.length by omega)) tyG80
              have v2 := ld_flat (P := Try.prog) (t := 80) hxk (hle_ext st11.ext) (ws_get (show i < kk.length by omega)) tyG80
              have v3 := own_ld_flat (P := Try.prog) (t := 80) hrow (ws_get (show i < (wAt ins a).length by omega)) tyG80
              have y1 := hxg.inS (k := i) (by omega)
              have y2 := hxk.inS (k := i) (by omega)
              have y3 := hrow.inS (k := i) (by omega)
              have hgw : goW g (wAt ins a) kk i = g.getD i 0#64 ||| ((wAt ins a).getD i 0#64 &&& ~~~(kk.getD i 0#64)) := rfl
              have hsu := goHalf_succ g (wAt ins a) kk hit
              rw [hgw] at hsu
              simp only [Flat.val] at v1 v2 v3
              generalize g.getD i 0#64 = gi at *
              generalize (wAt ins a).getD i 0#64 = ri at *
              generalize kk.getD i 0#64 = ki at *
              have b1 := bv_andnot (P := Try.prog) (t := 80) ri ki
              have b2 := bv_or (P := Try.prog) (t := 80) gi (ri &&& ~~~ki)
              have ingi := hog.inS (k := i) (by rw [goHalf_len]; exact hit)
              obtain ⟨w12, t4, o5, m5, _⟩ := own_store (P := Try.prog) (t := 80) (hog.ext hd) rfl (k := i) (by rw [goHalf_len]; exact hit) (x := .int .u64 (((gi ||| (ri &&& ~~~ki)).toNat : Nat) : Int)) (y := (gi ||| (ri &&& ~~~ki))) rfl rfl (zeroT_info tyZ80).choose_spec.1 (by rw [← szT_info (zeroT_info tyZ80).choose_spec.1]; exact tyS80)
              rw [hsu] at o5
              simp only [CW_seq, CW_skip, CW_cond, CW_block, CW_loop, CW_reg, CW_draw, CW_exit, CW_ret, thenF_n, thenF_nK, thenF_r, thenF_x, blockF_n, blockF_nK, blockF_r, blockF_x, condF_t, condF_f, Rn_nil, Rn_ng, Rn_g, oneStep_g, os_move, os_assign, os_pick, os_bin, os_un, os_fieldAddr, os_field, os_indexAddr, os_index, os_slice, os_extract, os_nilCheck, os_makeFunc, os_build, os_len, os_cap, os_convert, os_min, os_max, on_load, on_buildSlice, on_alloc, on_box, on_makeSlice, on_lookup, mn_convert, mn_bin, optP_n, on_append, on_copy, on_store, on_call, ev, updo, upd, optP_p, resP_ok, resU_ok, ↓reduceIte, Nat.reduceEqDiff, List.map_cons, List.map_nil, List.map_toArray, argU, Nat.reduceAdd, gval_slot, gslot, List.getElem?_toArray, List.getElem?_cons_zero, List.getElem?_cons_succ, Option.bind_some, Option.some.injEq, reduceCtorEq, Bool.false_eq_true, Bool.true_eq_false, Option.map_some, Option.map_none, Int.toNat_zero, Option.isNone_none, Option.isNone_some, add_zero', unV, fieldV, extV, idxV, indexV, sliceV, lenV, capV, convV, min2V, max2V, TY, Option.isSome_some, Bool.true_and, Bool.and_true, Nat.mul_one, Int.toNat_natCast, le0n, Flat.val, Int.reduceToNat, Int.reduceLE, Int.reduceLT, Int.cast_ofNat_Int, decide_true, add_lit, Nat.zero_add, Nat.zero_mul, Nat.one_mul, Bool.not_true, Bool.not_false, h70]
              refine drawR (fun w3 => w3 = w11.drew) 25 (ordL [0, 1, 2, 3, 4, 5, 6, 7, 8, 9, 10, 11, 12, 13, 14, 15, 16, 17, 18, 19, 20, 21, 22, 23, 24]) (by decide +kernel) rfl ?_
              simp only [RnF_nil, RnF_op, ordL, of_load, of_lookup, mf_convert, mf_bin, of_buildSlice, of_alloc, of_box, of_makeSlice, of_append, of_copy, of_store, of_call, List.drop_succ_cons, List.drop_zero, CW_seq, CW_skip, CW_cond, CW_block, CW_loop, CW_reg, CW_draw, CW_exit, CW_ret, thenF_n, thenF_nK, thenF_r, thenF_x, blockF_n, blockF_nK, blockF_r, blockF_x, condF_t, condF_f, Rn_nil, Rn_ng, Rn_g, oneStep_g, os_move, os_assign, os_pick, os_bin, os_un, os_fieldAddr, os_field, os_indexAddr, os_index, os_slice, os_extract, os_nilCheck, os_makeFunc, os_build, os_len, os_cap, os_convert, os_min, os_max, on_load, on_buildSlice, on_alloc, on_box, on_makeSlice, on_lookup, mn_convert, mn_bin, optP_n, on_append, on_copy, on_store, on_call, ev, updo, upd, optP_p, resP_ok, resU_ok, ↓reduceIte, Nat.reduceEqDiff, List.map_cons, List.map_nil, List.map_toArray, argU, Nat.reduceAdd, gval_slot, gslot, List.getElem?_toArray, List.getElem?_cons_zero, List.getElem?_cons_succ, Option.bind_some, Option.some.injEq, reduceCtorEq, Bool.false_eq_true, Bool.true_eq_false, Option.map_some, Option.map_none, Int.toNat_zero, Option.isNone_none, Option.isNone_some, add_zero', unV, fieldV, extV, idxV, indexV, sliceV, lenV, capV, convV, min2V, max2V, TY, Option.isSome_some, Bool.true_and, Bool.and_true, Nat.mul_one, Int.toNat_natCast, le0n, Flat.val, Int.reduceToNat, Int.reduceLE, Int.reduceLT, Int.cast_ofNat_Int, decide_true, add_lit, Nat.zero_add, Nat.zero_mul, Nat.one_mul, Bool.not_true, Bool.not_false, j16, j1, j15, d0, ing]
              refine ⟨xg, fun w3 e => by subst e; exact hld1, ?_⟩
              simp only [RnF_nil, RnF_op, ordL, of_load, of_lookup, mf_convert, mf_bin, of_buildSlice, of_alloc, of_box, of_makeSlice, of_append, of_copy, of_store, of_call, List.drop_succ_cons, List.drop_zero, CW_seq, CW_skip, CW_cond, CW_block, CW_loop, CW_reg, CW_draw, CW_exit, CW_ret, thenF_n, thenF_nK, thenF_r, thenF_x, blockF_n, blockF_nK, blockF_r, blockF_x, condF_t, condF_f, Rn_nil, Rn_ng, Rn_g, oneStep_g, os_move, os_assign, os_pick, os_bin, os_un, os_fieldAddr, os_field, os_indexAddr, os_index, os_slice, os_extract, os_nilCheck, os_makeFunc, os_build, os_len, os_cap, os_convert, os_min, os_max, on_load, on_buildSlice, on_alloc, on_box, on_makeSlice, on_lookup, mn_convert, mn_bin, optP_n, on_append, on_copy, on_store, on_call, ev, updo, upd, optP_p, resP_ok, resU_ok, ↓reduceIte, Nat.reduceEqDiff, List.map_cons, List.map_nil, List.map_toArray, argU, Nat.reduceAdd, gval_slot, gslot, List.getElem?_toArray, List.getElem?_cons_zero, List.getElem?_cons_succ, Option.bind_some, Option.some.injEq, reduceCtorEq, Bool.false_eq_true, Bool.true_eq_false, Option.map_some, Option.map_none, Int.toNat_zero, Option.isNone_none, Option.isNone_some, add_zero', unV, fieldV, extV, idxV, indexV, sliceV, lenV, capV, convV, min2V, max2V, TY, Option.isSome_some, Bool.true_and, Bool.and_true, Nat.mul_one, Int.toNat_natCast, le0n, Flat.val, Int.reduceToNat, Int.reduceLE, Int.reduceLT, Int.cast_ofNat_Int, decide_true, add_lit, Nat.zero_add, Nat.zero_mul, Nat.one_mul, Bool.not_true, Bool.not_false, y1]
              refine ⟨.int .u64 (gi.toNat : Nat), fun w3 e => by subst e; exact v1, ?_⟩
              simp only [RnF_nil, RnF_op, ordL, of_load, of_lookup, mf_convert, mf_bin, of_buildSlice, of_alloc, of_box, of_makeSlice, of_append, of_copy, of_store, of_call, List.drop_succ_cons, List.drop_zero, CW_seq, CW_skip, CW_cond, CW_block, CW_loop, CW_reg, CW_draw, CW_exit, CW_ret, thenF_n, thenF_nK, thenF_r, thenF_x, blockF_n, blockF_nK, blockF_r, blockF_x, condF_t, condF_f, Rn_nil, Rn_ng, Rn_g, oneStep_g, os_move, os_assign, os_pick, os_bin, os_un, os_fieldAddr, os_field, os_indexAddr, os_index, os_slice, os_extract, os_nilCheck, os_makeFunc, os_build, os_len, os_cap, os_convert, os_min, os_max, on_load, on_buildSlice, on_alloc, on_box, on_makeSlice, on_lookup, mn_convert, mn_bin, optP_n, on_append, on_copy, on_store, on_call, ev, updo, upd, optP_p, resP_ok, resU_ok, ↓reduceIte, Nat.reduceEqDiff, List.map_cons, List.map_nil, List.map_toArray, argU, Nat.reduceAdd, gval_slot, gslot, List.getElem?_toArray, List.getElem?_cons_zero, List.getElem?_cons_succ, Option.bind_some, Option.some.injEq, reduceCtorEq, Bool.false_eq_true, Bool.true_eq_false, Option.map_some, Option.map_none, Int.toNat_zero, Option.isNone_none, Option.isNone_some, add_zero', unV, fieldV, extV, idxV, indexV, sliceV, lenV, capV, convV, min2V, max2V, TY, Option.isSome_some, Bool.true_and, Bool.and_true, Nat.mul_one, Int.toNat_natCast, le0n, Flat.val, Int.reduceToNat, Int.reduceLE, Int.reduceLT, Int.cast_ofNat_Int, decide_true, add_lit, Nat.zero_add, Nat.zero_mul, Nat.one_mul, Bool.not_true, Bool.not_false, j11, j15, d0, inr]
              refine ⟨ua.v, fun w3 e => by subst e; exact hld3, ?_⟩
              simp only [RnF_nil, RnF_op, ordL, of_load, of_lookup, mf_convert, mf_bin, of_buildSlice, of_alloc, of_box, of_makeSlice, of_append, of_copy, of_store, of_call, List.drop_succ_cons, List.drop_zero, CW_seq, CW_skip, CW_cond, CW_block, CW_loop, CW_reg, CW_draw, CW_exit, CW_ret, thenF_n, thenF_nK, thenF_r, thenF_x, blockF_n, blockF_nK, blockF_r, blockF_x, condF_t, condF_f, Rn_nil, Rn_ng, Rn_g, oneStep_g, os_move, os_assign, os_pick, os_bin, os_un, os_fieldAddr, os_field, os_indexAddr, os_index, os_slice, os_extract, os_nilCheck, os_makeFunc, os_build, os_len, os_cap, os_convert, os_min, os_max, on_load, on_buildSlice, on_alloc, on_box, on_makeSlice, on_lookup, mn_convert, mn_bin, optP_n, on_append, on_copy, on_store, on_call, ev, updo, upd, optP_p, resP_ok, resU_ok, ↓reduceIte, Nat.reduceEqDiff, List.map_cons, List.map_nil, List.map_toArray, argU, Nat.reduceAdd, gval_slot, gslot, List.getElem?_toArray, List.getElem?_cons_zero, List.getElem?_cons_succ, Option.bind_some, Option.some.injEq, reduceCtorEq, Bool.false_eq_true, Bool.true_eq_false, Option.map_some, Option.map_none, Int.toNat_zero, Option.isNone_none, Option.isNone_some, add_zero', unV, fieldV, extV, idxV, indexV, sliceV, lenV, capV, convV, min2V, max2V, TY, Option.isSome_some, Bool.true_and, Bool.and_true, Nat.mul_one, Int.toNat_natCast, le0n, Flat.val, Int.reduceToNat, Int.reduceLE, Int.reduceLT, Int.cast_ofNat_Int, decide_true, add_lit, Nat.zero_add, Nat.zero_mul, Nat.one_mul, Bool.not_true, Bool.not_false, y3]
              refine ⟨.int .u64 (ri.toNat : Nat), fun w3 e => by subst e; exact v3, ?_⟩
              simp only [RnF_nil, RnF_op, ordL, of_load, of_lookup, mf_convert, mf_bin, of_buildSlice, of_alloc, of_box, of_makeSlice, of_append, of_copy, of_store, of_call, List.drop_succ_cons, List.drop_zero, CW_seq, CW_skip, CW_cond, CW_block, CW_loop, CW_reg, CW_draw, CW_exit, CW_ret, thenF_n, thenF_nK, thenF_r, thenF_x, blockF_n, blockF_nK, blockF_r, blockF_x, condF_t, condF_f, Rn_nil, Rn_ng, Rn_g, oneStep_g, os_move, os_assign, os_pick, os_bin, os_un, os_fieldAddr, os_field, os_indexAddr, os_index, os_slice, os_extract, os_nilCheck, os_makeFunc, os_build, os_len, os_cap, os_convert, os_min, os_max, on_load, on_buildSlice, on_alloc, on_box, on_makeSlice, on_lookup, mn_convert, mn_bin, optP_n, on_append, on_copy, on_store, on_call, ev, updo, upd, optP_p, resP_ok, resU_ok, ↓reduceIte, Nat.reduceEqDiff, List.map_cons, List.map_nil, List.map_toArray, argU, Nat.reduceAdd, gval_slot, gslot, List.getElem?_toArray, List.getElem?_cons_zero, List.getElem?_cons_succ, Option.bind_some, Option.some.injEq, reduceCtorEq, Bool.false_eq_true, Bool.true_eq_false, Option.map_some, Option.map_none, Int.toNat_zero, Option.isNone_none, Option.isNone_some, add_zero', unV, fieldV, extV, idxV, indexV, sliceV, lenV, capV, convV, min2V, max2V, TY, Option.isSome_some, Bool.true_and, Bool.and_true, Nat.mul_one, Int.toNat_natCast, le0n, Flat.val, Int.reduceToNat, Int.reduceLE, Int.reduceLT, Int.cast_ofNat_Int, decide_true, add_lit, Nat.zero_add, Nat.zero_mul, Nat.one_mul, Bool.not_true, Bool.not_false, j2, j15, d0, ink]
              refine ⟨xk, fun w3 e => by subst e; exact hld2, ?_⟩
              simp only [RnF_nil, RnF_op, ordL, of_load, of_lookup, mf_convert, mf_bin, of_buildSlice, of_alloc, of_box, of_makeSlice, of_append, of_copy, of_store, of_call, List.drop_succ_cons, List.drop_zero, CW_seq, CW_skip, CW_cond, CW_block, CW_loop, CW_reg, CW_draw, CW_exit, CW_ret, thenF_n, thenF_nK, thenF_r, thenF_x, blockF_n, blockF_nK, blockF_r, blockF_x, condF_t, condF_f, Rn_nil, Rn_ng, Rn_g, oneStep_g, os_move, os_assign, os_pick, os_bin, os_un, os_fieldAddr, os_field, os_indexAddr, os_index, os_slice, os_extract, os_nilCheck, os_makeFunc, os_build, os_len, os_cap, os_convert, os_min, os_max, on_load, on_buildSlice, on_alloc, on_box, on_makeSlice, on_lookup, mn_convert, mn_bin, optP_n, on_append, on_copy, on_store, on_call, ev, updo, upd, optP_p, resP_ok, resU_ok, ↓reduceIte, Nat.reduceEqDiff, List.map_cons, List.map_nil, List.map_toArray, argU, Nat.reduceAdd, gval_slot, gslot, List.getElem?_toArray, List.getElem?_cons_zero, List.getElem?_cons_succ, Option.bind_some, Option.some.injEq, reduceCtorEq, Bool.false_eq_true, Bool.true_eq_false, Option.map_some, Option.map_none, Int.toNat_zero, Option.isNone_none, Option.isNone_some, add_zero', unV, fieldV, extV, idxV, indexV, sliceV, lenV, capV, convV, min2V, max2V, TY, Option.isSome_some, Bool.true_and, Bool.and_true, Nat.mul_one, Int.toNat_natCast, le0n, Flat.val, Int.reduceToNat, Int.reduceLE, Int.reduceLT, Int.cast_ofNat_Int, decide_true, add_lit, Nat.zero_add, Nat.zero_mul, Nat.one_mul, Bool.not_true, Bool.not_false, y2]
              refine ⟨.int .u64 (ki.toNat : Nat), fun w3 e => by subst e; exact v2, ?_⟩
              simp only [RnF_nil, RnF_op, ordL, of_load, of_lookup, mf_convert, mf_bin, of_buildSlice, of_alloc, of_box, of_makeSlice, of_append, of_copy, of_store, of_call, List.drop_succ_cons, List.drop_zero, CW_seq, CW_skip, CW_cond, CW_block, CW_loop, CW_reg, CW_draw, CW_exit, CW_ret, thenF_n, thenF_nK, thenF_r, thenF_x, blockF_n, blockF_nK, blockF_r, blockF_x, condF_t, condF_f, Rn_nil, Rn_ng, Rn_g, oneStep_g, os_move, os_assign, os_pick, os_bin, os_un, os_fieldAddr, os_field, os_indexAddr, os_index, os_slice, os_extract, os_nilCheck, os_makeFunc, os_build, os_len, os_cap, os_convert, os_min, os_max, on_load, on_buildSlice, on_alloc, on_box, on_makeSlice, on_lookup, mn_convert, mn_bin, optP_n, on_append, on_copy, on_store, on_call, ev, updo, upd, optP_p, resP_ok, resU_ok, ↓reduceIte, Nat.reduceEqDiff, List.map_cons, List.map_nil, List.map_toArray, argU, Nat.reduceAdd, gval_slot, gslot, List.getElem?_toArray, List.getElem?_cons_zero, List.getElem?_cons_succ, Option.bind_some, Option.some.injEq, reduceCtorEq, Bool.false_eq_true, Bool.true_eq_false, Option.map_some, Option.map_none, Int.toNat_zero, Option.isNone_none, Option.isNone_some, add_zero', unV, fieldV, extV, idxV, indexV, sliceV, lenV, capV, convV, min2V, max2V, TY, Option.isSome_some, Bool.true_and, Bool.and_true, Nat.mul_one, Int.toNat_natCast, le0n, Flat.val, Int.reduceToNat, Int.reduceLE, Int.reduceLT, Int.cast_ofNat_Int, decide_true, add_lit, Nat.zero_add, Nat.zero_mul, Nat.one_mul, Bool.not_true, Bool.not_false, b1, b2, j16, ingi, t4, h70, q6]
              exact ⟨i + 1, by omega, by trivial, by omega, o5, (hog.ext hd).ext2 (hx11.trans hd) m5⟩
            · have hge2 : i = m := by simp at hc; omega
              subst hge2
              clear hua ing ink inr hxg hxk hcg' hck'
              have hgB : ∀ f, hasB (goHalf g (wAt ins a) kk i i) f = true ↔ Goes gl kl ins a f := by
                intro f
                rw [hgoes f, Bool.or_eq_true, Bool.and_eq_true, Bool.not_eq_true', hg3 f]
                have h8 := hk3 f
                unfold Goes hasAt
                constructor
                · rintro (h | ⟨h9, h10⟩)
                  · exact .inl h
                  · exact .inr ⟨h9, fun h11 => by rw [h8.2 h11] at h10; cases h10⟩
                · rintro (h | ⟨h9, h10⟩)
                  · exact .inl h
                  · refine .inr ⟨h9, ?_⟩
                    cases e : hasB kk f
                    · rfl
                    · exact absurd (h8.1 e) h10
              have hgs' : ∀ f, hasB (goHalf g (wAt ins a) kk i i) f = true → f < most ∧ ∀ b ∈ rowF nx a, Comes nx gl kl b f := by
                intro f hf
                rcases (hgB f).1 hf with h | ⟨h1, h2⟩
                · refine ⟨?_, fun b hb => .gen hb h⟩
                  have := hfg _ (rowF_mem (nx := gl) (by rw [hgn]; exact hka)) _ h
                  omega
                · exact ⟨si.low a f hka h1, fun b hb => .step hb (si.sound a f hka h1) h2⟩
              have hglen : (goHalf g (wAt ins a) kk i i).length = most / 64 + 1 := by rw [goHalf_len, hm6, hmm]
              have sj0 := si.pop hgB
              have st11 := st3.more hx11
              have hog0 := hog.down (hle_ext st3.ext)
              have hgr11 := hgr.mono (hle_ext st11.ext)
              have hfo : ∀ b, blk ug b → w9.heap.size ≤ b := fun b hb => f4 b hb
              generalize goHalf g (wAt ins a) kk i i = gw at *
              simp only [CW_seq, CW_skip, CW_cond, CW_block, CW_loop, CW_reg, CW_draw, CW_exit, CW_ret, thenF_n, thenF_nK, thenF_r, thenF_x, blockF_n, blockF_nK, blockF_r, blockF_x, condF_t, condF_f, Rn_nil, Rn_ng, Rn_g, oneStep_g, os_move, os_assign, os_pick, os_bin, os_un, os_fieldAddr, os_field, os_indexAddr, os_index, os_slice, os_extract, os_nilCheck, os_makeFunc, os_build, os_len, os_cap, os_convert, os_min, os_max, on_load, on_buildSlice, on_alloc, on_box, on_makeSlice, on_lookup, mn_convert, mn_bin, optP_n, on_append, on_copy, on_store, on_call, ev, updo, upd, optP_p, resP_ok, resU_ok, ↓reduceIte, Nat.reduceEqDiff, List.map_cons, List.map_nil, List.map_toArray, argU, Nat.reduceAdd, gval_slot, gslot, List.getElem?_toArray, List.getElem?_cons_zero, List.getElem?_cons_succ, Option.bind_some, Option.some.injEq, reduceCtorEq, Bool.false_eq_true, Bool.true_eq_false, Option.map_some, Option.map_none, Int.toNat_zero, Option.isNone_none, Option.isNone_some, add_zero', binV, binI, unV, fieldV, extV, idxV, indexV, sliceV, lenV, capV, convV, min2V, max2V, TY, Option.isSome_some, Bool.true_and, Bool.and_true, Nat.mul_one, Int.toNat_natCast, le0n, Flat.val, Int.reduceToNat, Int.reduceLE, Int.reduceLT, Int.cast_ofNat_Int, decide_true, add_lit, Nat.zero_add, Nat.zero_mul, Nat.one_mul, Bool.not_true, Bool.not_false, j0, j15]
              refine callP (by kernel_rfl : hasBody Try.prog 33 = true) (Next_any pg nx pv a w11 hgr11 (by rw [hgg.pv.len]) (fun x hx => Nat.le_trans (hgood.row_len hx) (by omega))) ?_
              rintro un w12 ⟨hon, hx12⟩
              have Sn := hon.isS
              have nn := hon.vlen
              have st12 := st11.more hx12
              have hog12 := hog0.ext hx12
              have hon0 := hon.down (hle_ext st11.ext)
              have hfn : ∀ b, blk un b → w11.heap.size ≤ b := fun b hb => st12.ge' (hon.free hb)
              have hrowlen : (rowF nx a).length ≤ nx.length := hgood.rowlen a
              simp only [CW_seq, CW_skip, CW_cond, CW_block, CW_loop, CW_reg, CW_draw, CW_exit, CW_ret, thenF_n, thenF_nK, thenF_r, thenF_x, blockF_n, blockF_nK, blockF_r, blockF_x, condF_t, condF_f, Rn_nil, Rn_ng, Rn_g, oneStep_g, os_move, os_assign, os_pick, os_bin, os_un, os_fieldAddr, os_field, os_indexAddr, os_index, os_slice, os_extract, os_nilCheck, os_makeFunc, os_build, os_len, os_cap, os_convert, os_min, os_max, on_load, on_buildSlice, on_alloc, on_box, on_makeSlice, on_lookup, mn_convert, mn_bin, optP_n, on_append, on_copy, on_store, on_call, ev, updo, upd, optP_p, resP_ok, resU_ok, ↓reduceIte, Nat.reduceEqDiff, List.map_cons, List.map_nil, List.map_toArray, argU, Nat.reduceAdd, gval_slot, gslot, List.getElem?_toArray, List.getElem?_cons_zero, List.getElem?_cons_succ, Option.bind_some, Option.some.injEq, reduceCtorEq, Bool.false_eq_true, Bool.true_eq_false, Option.map_some, Option.map_none, Int.toNat_zero, Option.isNone_none, Option.isNone_some, add_zero', binV, binI, unV, fieldV, extV, idxV, indexV, sliceV, lenV, capV, convV, min2V, max2V, TY, Option.isSome_some, Bool.true_and, Bool.and_true, Nat.mul_one, Int.toNat_natCast, le0n, Flat.val, Int.reduceToNat, Int.reduceLE, Int.reduceLT, Int.cast_ofNat_Int, decide_true, add_lit, Nat.zero_add, Nat.zero_mul, Nat.one_mul, Bool.not_true, Bool.not_false, Sn, nn]
              refine loop_rule [0, 1, 2, 3, 8, 9, 10, 11, 13, 15, 16, 102, 103] (σ := Nat) (fun k f w' => f 104 = .int .i64 k ∧ k ≤ (rowF nx a).length ∧ ∃ ins' todo' waits', ST w w' rb gb ui uw (f 12) us ins' waits' todo' T1 ∧ SJ nx gl kl most a gw k ins' todo' waits' (T + 1) ∧ todo'.length + potB most ins ≤ rest.length + potB most ins' ∧ Mod (fun b => rblk ui us b ∨ blk uw b ∨ blk vt2 b ∨ w12.heap.size ≤ b) w12 w' ∧ ∀ b, blk (f 12) b → blk vt2 b ∨ w12.heap.size ≤ b) (fun k => (rowF nx a).length - k) 0 (by decide +kernel) ?_ ?_
              · simp only [upd, ↓reduceIte, Nat.reduceEqDiff]
                simp only [j12]
                exact ⟨by trivial, Nat.zero_le _, ins, rest, _, st12, sj0, Nat.le_refl _, Mod.refl _, fun b hb => .inl hb⟩
              · rintro k f w13 hk ⟨h104, hkl, ins', todo', waits', st', sj, hpot, hmod, hq12⟩
                simp only [List.forall_mem_cons, upd, ↓reduceIte, Nat.reduceEqDiff] at hk
                simp only [j0, j1, j2, j3, j8, j9, j10, j11, j13, j15, j16] at hk
                obtain ⟨k0, k1, k2, k3, k8, k9, k10, k11, k13, k15, k16, k102, k103, _⟩ := hk
                generalize hvk12 : f 12 = vk12 at *
                simp only [CW_seq, CW_skip, CW_cond, CW_block, CW_loop, CW_reg, CW_draw, CW_exit, CW_ret, thenF_n, thenF_nK, thenF_r, thenF_x, blockF_n, blockF_nK, blockF_r, blockF_x, condF_t, condF_f, Rn_nil, Rn_ng, Rn_g, oneStep_g, os_move, os_assign, os_pick, os_bin, os_un, os_fieldAddr, os_field, os_indexAddr, os_index, os_slice, os_extract, os_nilCheck, os_makeFunc, os_build, os_len, os_cap, os_convert, os_min, os_max, on_load, on_buildSlice, on_alloc, on_box, on_makeSlice, on_lookup, mn_convert, mn_bin, optP_n, on_append, on_copy, on_store, on_call, ev, updo, upd, optP_p, resP_ok, resU_ok, ↓reduceIte, Nat.reduceEqDiff, List.map_cons, List.map_nil, List.map_toArray, argU, Nat.reduceAdd, gval_slot, gslot, List.getElem?_toArray, List.getElem?_cons_zero, List.getElem?_cons_succ, Option.bind_some, Option.some.injEq, reduceCtorEq, Bool.false_eq_true, Bool.true_eq_false, Option.map_some, Option.map_none, Int.toNat_zero, Option.isNone_none, Option.isNone_some, add_zero', binV, binI, unV, fieldV, extV, idxV, indexV, sliceV, lenV, capV, convV, min2V, max2V, TY, Option.isSome_some, Bool.true_and, Bool.and_true, Nat.mul_one, Int.toNat_natCast, le0n, Flat.val, Int.reduceToNat, Int.reduceLE, Int.reduceLT, Int.cast_ofNat_Int, decide_true, add_lit, Nat.zero_add, Nat.zero_mul, Nat.one_mul, Bool.not_true, Bool.not_false, h104, k103]
                refine condF_split (fun hc => ?_) (fun hc => ?_)
                · have hkt : k < (rowF nx a).length := by simpa using hc
                  have hNg : ∀ b, blk ug b → ¬ (rblk ui us b ∨ blk uw b ∨ blk vt2 b ∨ w12.heap.size ≤ b) := fun b hb hh => by
                    have h1 := hfo b hb
                    rcases hh with hh | hh | hh | hh
                    · have := st3.rows.lt hh; omega
                    · have := st3.wts.lt hh; omega
                    · have := st3.q.lt hh; omega
                    · have := hog12.lt hb; omega
                  have hNn : ∀ b, blk un b → ¬ (rblk ui us b ∨ blk uw b ∨ blk vt2 b ∨ w12.heap.size ≤ b) := fun b hb hh => by
                    have h1 := hfn b hb
                    have h2 := hx11.size
                    rcases hh with hh | hh | hh | hh
                    · have := st3.rows.lt hh; omega
                    · have := st3.wts.lt hh; omega
                    · have := st3.q.lt hh; omega
                    · have := hon0.lt hb; omega
                  have hog13 := hog12.mod hmod hNg
                  have hon13 := hon0.mod hmod hNn
                  have hrn := hon13.rw_ (hle_ext st'.ext)
                  have ik := hrn.inS hkt
                  have ldk := ld_flat (P := Try.prog) (t := 3) hrn (hle_refl _) (List.getElem?_eq_getElem hkt) tyG3
                  simp only [Flat.val] at ldk
                  have hbat : (rowF nx a)[k]? = some (rowF nx a)[k] := List.getElem?_eq_getElem hkt
                  have hbok := (hgood.row a).2 _ (List.getElem_mem hkt)
                  generalize (rowF nx a)[k] = b at ldk hbat hbok
                  have hbok' := okN_iff.1 hbok
                  have db : decide (0 ≤ b) = true := by simpa using hbok'.1
                  have hbl : b.toNat < nx.length := by omega
                  have lus' : us.length = nx.length := by rw [st'.rows.len, sj.ilen]
                  have hub : us[b.toNat]? = some (us[b.toNat]'(by omega)) := List.getElem?_eq_getElem _
                  generalize us[b.toNat]'(by omega) = ub at hub
                  have inb := st'.rows.outer.inS (k := b.toNat) (by omega)
                  have ldb := rows_ld (P := Try.prog) (t := 79) st'.rows hub tyG79
                  have hrb' := wAt_get sj.ilen hbok
                  have hrow := st'.rows.row _ _ _ hub hrb'
                  have hrlen : (wAt ins' b).length = gw.length := by rw [hglen]; exact sj.rlen _ (List.mem_of_getElem? hrb')
                  have hle0 : hle (hpOf w) (hpBut w13 ub.v) := fun x o e => by
                    have hn : ¬ blk ub.v x := fun hb2 => by rw [hrow.free hb2] at e; cases e
                    rw [hpBut_oth hn]; exact hle_ext st'.ext x o e
                  have hrowB := hrow.rebase (hle_ext st'.ext)
                  have hdj : ∀ x, blk ug x → ¬ blk ub.v x := fun x hx hx2 => hNg x hx (.inl (.inr ⟨ub, List.mem_of_getElem? hub, hx2⟩))
                  have hRg := hog13.beside (v := ub.v) hle0 hdj
                  have q6 : binV Try.prog .add 3 (.int .i64 k) (.int .i64 1) = some (.int .i64 ((k + 1 : Nat) : Int)) := by
                    simp only [binV, binI, if_true]; rw [i64s k (by omega)]
                  simp only [CW_seq, CW_skip, CW_cond, CW_block, CW_loop, CW_reg, CW_draw, CW_exit, CW_ret, thenF_n, thenF_nK, thenF_r, thenF_x, blockF_n, blockF_nK, blockF_r, blockF_x, condF_t, condF_f, Rn_nil, Rn_ng, Rn_g, oneStep_g, os_move, os_assign, os_pick, os_bin, os_un, os_fieldAddr, os_field, os_indexAddr, os_index, os_slice, os_extract, os_nilCheck, os_makeFunc, os_build, os_len, os_cap, os_convert, os_min, os_max, on_load, on_buildSlice, on_alloc, on_box, on_makeSlice, on_lookup, mn_convert, mn_bin, optP_n, on_append, on_copy, on_store, on_call, ev, updo, upd, optP_p, resP_ok, resU_ok, ↓reduceIte, Nat.reduceEqDiff, List.map_cons, List.map_nil, List.map_toArray, argU, Nat.reduceAdd, gval_slot, gslot, List.getElem?_toArray, List.getElem?_cons_zero, List.getElem?_cons_succ, Option.bind_some, Option.some.injEq, reduceCtorEq, Bool.false_eq_true, Bool.true_eq_false, Option.map_some, Option.map_none, Int.toNat_zero, Option.isNone_none, Option.isNone_some, add_zero', binV, binI, unV, fieldV, extV, idxV, indexV, sliceV, lenV, capV, convV, min2V, max2V, TY, Option.isSome_some, Bool.true_and, Bool.and_true, Nat.mul_one, Int.toNat_natCast, le0n, Flat.val, Int.reduceToNat, Int.reduceLE, Int.reduceLT, Int.cast_ofNat_Int, decide_true, add_lit, Nat.zero_add, Nat.zero_mul, Nat.one_mul, Bool.not_true, Bool.not_false, h104, k102, k11, k16, ik, ldk, db, inb, ldb]
                  refine callP (by kernel_rfl : hasBody Try.prog 55 = true) (join_any (hpBut w13 ub.v) ub.v ug (wAt ins' b) gw w13 hrowB (hpBut_le w13 ub.v) hRg hrlen (by rw [hrlen, hglen]; omega)) ?_
                  rintro rj w14 ⟨hrj, ho14, hm14⟩
                  have ho14' := ho14.down hle0
                  have st14 := st'.row hub hm14 ho14'
                  have hN14 : Mod (fun b => rblk ui us b ∨ blk uw b ∨ blk vt2 b ∨ w12.heap.size ≤ b) w12 w14 := hmod.trans (hm14.weaken fun x _ hx => .inl (.inr ⟨ub, List.mem_of_getElem? hub, hx⟩))
                  obtain ⟨hp1, hp2⟩ := sj.pot hglen hgs' hbok
                  have inwb := st14.wts.inS (k := b.toNat) (by rw [sj.wlen]; exact hbl)
                  have hwb := bitAt_ok (l := waits') (b := b) (by rw [sj.wlen]; exact hbok)
                  have hwat : waits'[b.toNat]? = some (bitAt waits' b) := by
                    rw [hwb.2]; simp [List.getD, hwb.1]
                  have ldw := own_ld_flat (P := Try.prog) (t := 4) st14.wts hwat tyG4
                  simp only [Flat.val] at ldw
                  generalize hmo : moreB (wAt ins' b) gw = mo at *
                  generalize hwbb : bitAt waits' b = wb at *
                  subst hrj
                  cases mo
                  · have sj' := sj.old hgood hglen hgs' hbat hbok (.inl hmo)
                    simp only [CW_seq, CW_skip, CW_cond, CW_block, CW_loop, CW_reg, CW_draw, CW_exit, CW_ret, thenF_n, thenF_nK, thenF_r, thenF_x, blockF_n, blockF_nK, blockF_r, blockF_x, condF_t, condF_f, Rn_nil, Rn_ng, Rn_g, oneStep_g, os_move, os_assign, os_pick, os_bin, os_un, os_fieldAddr, os_field, os_indexAddr, os_index, os_slice, os_extract, os_nilCheck, os_makeFunc, os_build, os_len, os_cap, os_convert, os_min, os_max, on_load, on_buildSlice, on_alloc, on_box, on_makeSlice, on_lookup, mn_convert, mn_bin, optP_n, on_append, on_copy, on_store, on_call, ev, updo, upd, optP_p, resP_ok, resU_ok, ↓reduceIte, Nat.reduceEqDiff, List.map_cons, List.map_nil, List.map_toArray, argU, Nat.reduceAdd, gval_slot, gslot, List.getElem?_toArray, List.getElem?_cons_zero, List.getElem?_cons_succ, Option.bind_some, Option.some.injEq, reduceCtorEq, Bool.false_eq_true, Bool.true_eq_false, Option.map_some, Option.map_none, Int.toNat_zero, Option.isNone_none, Option.isNone_some, add_zero', unV, fieldV, extV, idxV, indexV, sliceV, lenV, capV, convV, min2V, max2V, TY, Option.isSome_some, Bool.true_and, Bool.and_true, Nat.mul_one, Int.toNat_natCast, le0n, Flat.val, Int.reduceToNat, Int.reduceLE, Int.reduceLT, Int.cast_ofNat_Int, decide_true, add_lit, Nat.zero_add, Nat.zero_mul, Nat.one_mul, Bool.not_true, Bool.not_false, h104, q6]
                    exact ⟨k + 1, by omega, by trivial, by omega, _, _, _, by simpa only [hvk12] using st14, sj', by omega, hN14, by simpa only [hvk12] using hq12⟩
                  · cases wb
                    · have sj' := sj.new hgood hglen hgs' hbat hbok hmo hwbb
                      obtain ⟨w15, t5, st15, m15⟩ := st14.wait2 (P := Try.prog) (t := 4) (k := b.toNat) (by rw [sj.wlen]; exact hbl) true (zeroT_info tyZ4).choose_spec.1 (by rw [← szT_info (zeroT_info tyZ4).choose_spec.1]; exact tyS4)
                      have htl : todo'.length + 1 ≤ 100000000 := by
                        have := sj.few
                        have h8 := potB_le most ins'
                        rw [sj.ilen] at h8
                        omega
                      obtain ⟨p1, v', w16, p2, st16, m16, mv16⟩ := st15.push2 (P := Try.prog) (t := 37) (e := 37) sokI b (by omega) (by omega)
                      have hN16 : Mod (fun b => rblk ui us b ∨ blk uw b ∨ blk vt2 b ∨ w12.heap.size ≤ b) w12 w16 := (hN14.trans (m15.weaken fun x _ hx => .inr (.inl hx))).trans (m16.weaken fun x _ hx => by
                        rcases hq12 x hx with h | h
                        · exact .inr (.inr (.inl h))
                        · exact .inr (.inr (.inr h)))
                      have hsz15 := (hN14.trans (m15.weaken fun x _ hx => .inr (.inl hx))).size
                      have hq16 : ∀ x, blk v' x → blk vt2 x ∨ w12.heap.size ≤ x := fun x hx => by
                        rcases mv16 x hx with h | h
                        · exact hq12 x h
                        · exact .inr (by omega)
                      simp only [CW_seq, CW_skip, CW_cond, CW_block, CW_loop, CW_reg, CW_draw, CW_exit, CW_ret, thenF_n, thenF_nK, thenF_r, thenF_x, blockF_n, blockF_nK, blockF_r, blockF_x, condF_t, condF_f, Rn_nil, Rn_ng, Rn_g, oneStep_g, os_move, os_assign, os_pick, os_bin, os_un, os_fieldAddr, os_field, os_indexAddr, os_index, os_slice, os_extract, os_nilCheck, os_makeFunc, os_build, os_len, os_cap, os_convert, os_min, os_max, on_load, on_buildSlice, on_alloc, on_box, on_makeSlice, on_lookup, mn_convert, mn_bin, optP_n, on_append, on_copy, on_store, on_call, ev, updo, upd, optP_p, resP_ok, resU_ok, ↓reduceIte, Nat.reduceEqDiff, List.map_cons, List.map_nil, List.map_toArray, argU, Nat.reduceAdd, gval_slot, gslot, List.getElem?_toArray, List.getElem?_cons_zero, List.getElem?_cons_succ, Option.bind_some, Option.some.injEq, reduceCtorEq, Bool.false_eq_true, Bool.true_eq_false, Option.map_some, Option.map_none, Int.toNat_zero, Option.isNone_none, Option.isNone_some, add_zero', unV, fieldV, extV, idxV, indexV, sliceV, lenV, capV, convV, min2V, max2V, TY, Option.isSome_some, Bool.true_and, Bool.and_true, Nat.mul_one, Int.toNat_natCast, le0n, Flat.val, Int.reduceToNat, Int.reduceLE, Int.reduceLT, Int.cast_ofNat_Int, decide_true, add_lit, Nat.zero_add, Nat.zero_mul, Nat.one_mul, Bool.not_true, Bool.not_false, h104, k13, db, inwb, ldw, q6, Bool.not_false, t5, hvk12, p1, p2, Value.cells]
                      exact ⟨k + 1, by omega, by trivial, by omega, _, _, _, st16, sj', by simp only [List.length_append, List.length_cons, List.length_nil]; have := hp2 rfl; omega, hN16, hq16⟩
                    · have sj' := sj.old hgood hglen hgs' hbat hbok (.inr hwbb)
                      simp only [CW_seq, CW_skip, CW_cond, CW_block, CW_loop, CW_reg, CW_draw, CW_exit, CW_ret, thenF_n, thenF_nK, thenF_r, thenF_x, blockF_n, blockF_nK, blockF_r, blockF_x, condF_t, condF_f, Rn_nil, Rn_ng, Rn_g, oneStep_g, os_move, os_assign, os_pick, os_bin, os_un, os_fieldAddr, os_field, os_indexAddr, os_index, os_slice, os_extract, os_nilCheck, os_makeFunc, os_build, os_len, os_cap, os_convert, os_min, os_max, on_load, on_buildSlice, on_alloc, on_box, on_makeSlice, on_lookup, mn_convert, mn_bin, optP_n, on_append, on_copy, on_store, on_call, ev, updo, upd, optP_p, resP_ok, resU_ok, ↓reduceIte, Nat.reduceEqDiff, List.map_cons, List.map_nil, List.map_toArray, argU, Nat.reduceAdd, gval_slot, gslot, List.getElem?_toArray, List.getElem?_cons_zero, List.getElem?_cons_succ, Option.bind_some, Option.some.injEq, reduceCtorEq, Bool.false_eq_true, Bool.true_eq_false, Option.map_some, Option.map_none, Int.toNat_zero, Option.isNone_none, Option.isNone_some, add_zero', unV, fieldV, extV, idxV, indexV, sliceV, lenV, capV, convV, min2V, max2V, TY, Option.isSome_some, Bool.true_and, Bool.and_true, Nat.mul_one, Int.toNat_natCast, le0n, Flat.val, Int.reduceToNat, Int.reduceLE, Int.reduceLT, Int.cast_ofNat_Int, decide_true, add_lit, Nat.zero_add, Nat.zero_mul, Nat.one_mul, Bool.not_true, Bool.not_false, h104, k13, db, inwb, ldw, q6, Bool.not_true]
                      exact ⟨k + 1, by omega, by trivial, by omega, _, _, _, by simpa only [hvk12] using st14, sj', by omega, hN14, by simpa only [hvk12] using hq12⟩
                · have hge3 : k = (rowF nx a).length := by simp at hc; omega
                  subst hge3
                  have si' := sj.fin rfl
                  simp only [CW_seq, CW_skip, CW_cond, CW_block, CW_loop, CW_reg, CW_draw, CW_exit, CW_ret, thenF_n, thenF_nK, thenF_r, thenF_x, blockF_n, blockF_nK, blockF_r, blockF_x, condF_t, condF_f, Rn_nil, Rn_ng, Rn_g, oneStep_g, os_move, os_assign, os_pick, os_bin, os_un, os_fieldAddr, os_field, os_indexAddr, os_index, os_slice, os_extract, os_nilCheck, os_makeFunc, os_build, os_len, os_cap, os_convert, os_min, os_max, on_load, on_buildSlice, on_alloc, on_box, on_makeSlice, on_lookup, mn_convert, mn_bin, optP_n, on_append, on_copy, on_store, on_call, ev, updo, upd, optP_p, resP_ok, resU_ok, ↓reduceIte, Nat.reduceEqDiff, List.map_cons, List.map_nil, List.map_toArray, argU, Nat.reduceAdd, gval_slot, gslot, List.getElem?_toArray, List.getElem?_cons_zero, List.getElem?_cons_succ, Option.bind_some, Option.some.injEq, reduceCtorEq, Bool.false_eq_true, Bool.true_eq_false, Option.map_some, Option.map_none, Int.toNat_zero, Option.isNone_none, Option.isNone_some, add_zero', binV, binI, unV, fieldV, extV, idxV, indexV, sliceV, lenV, capV, convV, min2V, max2V, TY, Option.isSome_some, Bool.true_and, Bool.and_true, Nat.mul_one, Int.toNat_natCast, le0n, Flat.val, Int.reduceToNat, Int.reduceLE, Int.reduceLT, Int.cast_ofNat_Int, decide_true, add_lit, Nat.zero_add, Nat.zero_mul, Nat.one_mul, Bool.not_true, Bool.not_false]
                  have hpl' := potB_le most ins'
                  rw [si'.ilen] at hpl'
                  exact ⟨(ins', todo'), by simp only [leftB, List.length_cons]; omega, waits', T + 1, by rw [hT1]; simpa only [hvk12] using st', si'⟩
        · have hnil : todo = [] := by
            cases todo with
            | nil => rfl
            | cons x rest => simp at hc
          subst hnil
          obtain ⟨hfin, hT1, hT2⟩ := si.fin hgood
          have Si := st.rows.outer.isS
          have lus : us.length = nx.length := by rw [st.rows.len, si.ilen]
          have ni : vlen ui = nx.length := by rw [st.rows.outer.vlen, lus]
          have hgb0 : rb < w7.heap.size := st.lr
          have hgb1 : gb < w7.heap.size := st.lg
          have hRl : ∀ b, rblk ui us b → b < w7.heap.size := fun b hb => st.rows.lt hb
          have hrows7 := st.rows
          have hd1 : ∀ b, rblk ui us b → b ≠ gb ∧ b ≠ rb := fun b hb => (st.d1 b hb).2.2
          have hd4 := st.d4
          have hfg' := st.fg
          have hfr' := st.frb
          simp only [CW_seq, CW_skip, CW_cond, CW_block, CW_loop, CW_reg, CW_draw, CW_exit, CW_ret, thenF_n, thenF_nK, thenF_r, thenF_x, blockF_n, blockF_nK, blockF_r, blockF_x, condF_t, condF_f, Rn_nil, Rn_ng, Rn_g, oneStep_g, os_move, os_assign, os_pick, os_bin, os_un, os_fieldAddr, os_field, os_indexAddr, os_index, os_slice, os_extract, os_nilCheck, os_makeFunc, os_build, os_len, os_cap, os_convert, os_min, os_max, on_load, on_buildSlice, on_alloc, on_box, on_makeSlice, on_lookup, mn_convert, mn_bin, optP_n, on_append, on_copy, on_store, on_call, ev, updo, upd, optP_p, resP_ok, resU_ok, ↓reduceIte, Nat.reduceEqDiff, List.map_cons, List.map_nil, List.map_toArray, argU, Nat.reduceAdd, gval_slot, gslot, List.getElem?_toArray, List.getElem?_cons_zero, List.getElem?_cons_succ, Option.bind_some, Option.some.injEq, reduceCtorEq, Bool.false_eq_true, Bool.true_eq_false, Option.map_some, Option.map_none, Int.toNat_zero, Option.isNone_none, Option.isNone_some, add_zero', binV, binI, unV, fieldV, extV, idxV, indexV, sliceV, lenV, capV, convV, min2V, max2V, TY, Option.isSome_some, Bool.true_and, Bool.and_true, Nat.mul_one, Int.toNat_natCast, le0n, Flat.val, Int.reduceToNat, Int.reduceLE, Int.reduceLT, Int.cast_ofNat_Int, decide_true, add_lit, Nat.zero_add, Nat.zero_mul, Nat.one_mul, Bool.not_true, Bool.not_false, i11, Si, ni]
          refine loop_rule [0, 1, 2, 3, 8, 9, 10, 11, 129, 130] (σ := Nat) (fun k f w' => f 131 = .int .i64 k ∧ k ≤ nx.length ∧ (∃ vin, w'.heap[gb]? = some (.cells #[vin, .int .i64 (T : Nat)] 27 (0, 0)) ∧ Own (hpNo w' (fun b => blk vin b ∨ b < w7.heap.size)) w' 37 vin ((ins.take k).map fun r => listB r most) ∧ ∀ b, blk vin b → w7.heap.size ≤ b) ∧
            w'.heap[rb]? = some (.cells #[.slice none 0 0, .int .i64 0] 27 (0, 0)) ∧ Rows (hpOf w) w' 79 80 ui us ins ∧ Ext w w' ∧ w7.heap.size ≤ w'.heap.size) (fun k => nx.length - k) 0 (by decide +kernel) ?_ ?_
          · simp only [upd, ↓reduceIte, Nat.reduceEqDiff]
            exact ⟨by trivial, Nat.zero_le _, ⟨_, st.cg, Own.nil _ _ _, fun b hb => absurd hb blk_nil⟩, st.cr, hrows7, st.ext, Nat.le_refl _⟩
          · rintro k f w8 hk ⟨h131, hkl, ⟨vin, cg, hov, hfv⟩, cr, hrows, hx, hsz⟩
            simp only [List.forall_mem_cons, upd, ↓reduceIte, Nat.reduceEqDiff] at hk
            simp only [i0, i1, i2, i3, i8, i9, i10, i11] at hk
            obtain ⟨j0, j1, j2, j3, j8, j9, j10, j11, j129, j130, _⟩ := hk
            simp only [CW_seq, CW_skip, CW_cond, CW_block, CW_loop, CW_reg, CW_draw, CW_exit, CW_ret, thenF_n, thenF_nK, thenF_r, thenF_x, blockF_n, blockF_nK, blockF_r, blockF_x, condF_t, condF_f, Rn_nil, Rn_ng, Rn_g, oneStep_g, os_move, os_assign, os_pick, os_bin, os_un, os_fieldAddr, os_field, os_indexAddr, os_index, os_slice, os_extract, os_nilCheck, os_makeFunc, os_build, os_len, os_cap, os_convert, os_min, os_max, on_load, on_buildSlice, on_alloc, on_box, on_makeSlice, on_lookup, mn_convert, mn_bin, optP_n, on_append, on_copy, on_store, on_call, ev, updo, upd, optP_p, resP_ok, resU_ok, ↓reduceIte, Nat.reduceEqDiff, List.map_cons, List.map_nil, List.map_toArray, argU, Nat.reduceAdd, gval_slot, gslot, List.getElem?_toArray, List.getElem?_cons_zero, List.getElem?_cons_succ, Option.bind_some, Option.some.injEq, reduceCtorEq, Bool.false_eq_true, Bool.true_eq_false, Option.map_some, Option.map_none, Int.toNat_zero, Option.isNone_none, Option.isNone_some, add_zero', binV, binI, unV, fieldV, extV, idxV, indexV, sliceV, lenV, capV, convV, min2V, max2V, TY, Option.isSome_some, Bool.true_and, Bool.and_true, Nat.mul_one, Int.toNat_natCast, le0n, Flat.val, Int.reduceToNat, Int.reduceLE, Int.reduceLT, Int.cast_ofNat_Int, decide_true, add_lit, Nat.zero_add, Nat.zero_mul, Nat.one_mul, Bool.not_true, Bool.not_false, h131, j130]
            refine condF_split (fun hc => ?_) (fun hc => ?_)
            · have hkt : k < nx.length := by simpa using hc
              have q6 : binV Try.prog .add 3 (.int .i64 k) (.int .i64 1) = some (.int .i64 ((k + 1 : Nat) : Int)) := by
                simp only [binV, binI, if_true]; rw [i64s k (by omega)]
              have hua : us[k]? = some (us[k]'(by omega)) := List.getElem?_eq_getElem _
              generalize us[k]'(by omega) = ua at hua
              have hra : ins[k]? = some (ins[k]'(by rw [si.ilen]; exact hkt)) := List.getElem?_eq_getElem _
              have htk : (ins.take (k + 1)).map (fun r => listB r most) = (ins.take k).map (fun r => listB r most) ++ [listB (ins[k]'(by rw [si.ilen]; exact hkt)) most] := by
                rw [List.take_succ_eq_append_getElem (by rw [si.ilen]; exact hkt), List.map_append]; rfl
              have hrl := si.rlen _ (List.mem_of_getElem? hra)
              generalize ins[k]'(by rw [si.ilen]; exact hkt) = r at hra htk hrl
              have hd := Ext.drew w8
              have cgd := (hd.block gb (Array.getElem?_eq_some_iff.1 cg).1 id).trans cg
              have crd := (hd.block rb (Array.getElem?_eq_some_iff.1 cr).1 id).trans cr
              have hrowsd := hrows.ext hd
              have hxd := hx.trans hd
              have ink := hrows.outer.inS (k := k) (by omega)
              have gbl := (Array.getElem?_eq_some_iff.1 cgd).1
              have rbl := (Array.getElem?_eq_some_iff.1 crd).1
              have hRrow := (hrowsd.row _ _ _ hua hra).rw_ (hle_ext hxd)
              have hovd := hov.noMod hd (fun b h => h.elim) (fun b _ h => h) (N' := fun b => blk vin b ∨ b < w7.heap.size) (fun b h => .inl h) (fun b h => .inl h)
              generalize hwd : w8.drew = wd at *
              have hszd : w7.heap.size ≤ wd.heap.size := Nat.le_trans hsz hd.size
              simp only [CW_seq, CW_skip, CW_cond, CW_block, CW_loop, CW_reg, CW_draw, CW_exit, CW_ret, thenF_n, thenF_nK, thenF_r, thenF_x, blockF_n, blockF_nK, blockF_r, blockF_x, condF_t, condF_f, Rn_nil, Rn_ng, Rn_g, oneStep_g, os_move, os_assign, os_pick, os_bin, os_un, os_fieldAddr, os_field, os_indexAddr, os_index, os_slice, os_extract, os_nilCheck, os_makeFunc, os_build, os_len, os_cap, os_convert, os_min, os_max, on_load, on_buildSlice, on_alloc, on_box, on_makeSlice, on_lookup, mn_convert, mn_bin, optP_n, on_append, on_copy, on_store, on_call, ev, updo, upd, optP_p, resP_ok, resU_ok, ↓reduceIte, Nat.reduceEqDiff, List.map_cons, List.map_nil, List.map_toArray, argU, Nat.reduceAdd, gval_slot, gslot, List.getElem?_toArray, List.getElem?_cons_zero, List.getElem?_cons_succ, Option.bind_some, Option.some.injEq, reduceCtorEq, Bool.false_eq_true, Bool.true_eq_false, Option.map_some, Option.map_none, Int.toNat_zero, Option.isNone_none, Option.isNone_some, add_zero', binV, binI, unV, fieldV, extV, idxV, indexV, sliceV, lenV, capV, convV, min2V, max2V, TY, Option.isSome_some, Bool.true_and, Bool.and_true, Nat.mul_one, Int.toNat_natCast, le0n, Flat.val, Int.reduceToNat, Int.reduceLE, Int.reduceLT, Int.cast_ofNat_Int, decide_true, add_lit, Nat.zero_add, Nat.zero_mul, Nat.one_mul, Bool.not_true, Bool.not_false, h131]
              refine drawR (fun w2 => Ext wd w2) 9 (ordL [0, 1, 2, 3, 4, 5, 6, 7, 8]) (by decide +kernel) (by rw [hwd]; exact Mod.refl _) ?_
              rw [hwd]
              simp only [RnF_nil, RnF_op, ordL, of_load, of_lookup, mf_convert, mf_bin, of_buildSlice, of_alloc, of_box, of_makeSlice, of_append, of_copy, of_store, of_call, List.drop_succ_cons, List.drop_zero, CW_seq, CW_skip, CW_cond, CW_block, CW_loop, CW_reg, CW_draw, CW_exit, CW_ret, thenF_n, thenF_nK, thenF_r, thenF_x, blockF_n, blockF_nK, blockF_r, blockF_x, condF_t, condF_f, Rn_nil, Rn_ng, Rn_g, oneStep_g, os_move, os_assign, os_pick, os_bin, os_un, os_fieldAddr, os_field, os_indexAddr, os_index, os_slice, os_extract, os_nilCheck, os_makeFunc, os_build, os_len, os_cap, os_convert, os_min, os_max, on_load, on_buildSlice, on_alloc, on_box, on_makeSlice, on_lookup, mn_convert, mn_bin, optP_n, on_append, on_copy, on_store, on_call, ev, updo, upd, optP_p, resP_ok, resU_ok, ↓reduceIte, Nat.reduceEqDiff, List.map_cons, List.map_nil, List.map_toArray, argU, Nat.reduceAdd, gval_slot, gslot, List.getElem?_toArray, List.getElem?_cons_zero, List.getElem?_cons_succ, Option.bind_some, Option.some.injEq, reduceCtorEq, Bool.false_eq_true, Bool.true_eq_false, Option.map_some, Option.map_none, Int.toNat_zero, Option.isNone_none, Option.isNone_some, add_zero', binV, binI, unV, fieldV, extV, idxV, indexV, sliceV, lenV, capV, convV, min2V, max2V, TY, Option.isSome_some, Bool.true_and, Bool.and_true, Nat.mul_one, Int.toNat_natCast, le0n, Flat.val, Int.reduceToNat, Int.reduceLE, Int.reduceLT, Int.cast_ofNat_Int, decide_true, add_lit, Nat.zero_add, Nat.zero_mul, Nat.one_mul, Bool.not_true, Bool.not_false, j9]
              refine ⟨vin, fun w2 e => blk_ld (i := 0) ((e.block gb gbl id).trans cgd) rfl tyG23, ?_⟩
              simp only [RnF_nil, RnF_op, ordL, of_load, of_lookup, mf_convert, mf_bin, of_buildSlice, of_alloc, of_box, of_makeSlice, of_append, of_copy, of_store, of_call, List.drop_succ_cons, List.drop_zero, CW_seq, CW_skip, CW_cond, CW_block, CW_loop, CW_reg, CW_draw, CW_exit, CW_ret, thenF_n, thenF_nK, thenF_r, thenF_x, blockF_n, blockF_nK, blockF_r, blockF_x, condF_t, condF_f, Rn_nil, Rn_ng, Rn_g, oneStep_g, os_move, os_assign, os_pick, os_bin, os_un, os_fieldAddr, os_field, os_indexAddr, os_index, os_slice, os_extract, os_nilCheck, os_makeFunc, os_build, os_len, os_cap, os_convert, os_min, os_max, on_load, on_buildSlice, on_alloc, on_box, on_makeSlice, on_lookup, mn_convert, mn_bin, optP_n, on_append, on_copy, on_store, on_call, ev, updo, upd, optP_p, resP_ok, resU_ok, ↓reduceIte, Nat.reduceEqDiff, List.map_cons, List.map_nil, List.map_toArray, argU, Nat.reduceAdd, gval_slot, gslot, List.getElem?_toArray, List.getElem?_cons_zero, List.getElem?_cons_succ, Option.bind_some, Option.some.injEq, reduceCtorEq, Bool.false_eq_true, Bool.true_eq_false, Option.map_some, Option.map_none, Int.toNat_zero, Option.isNone_none, Option.isNone_some, add_zero', binV, binI, unV, fieldV, extV, idxV, indexV, sliceV, lenV, capV, convV, min2V, max2V, TY, Option.isSome_some, Bool.true_and, Bool.and_true, Nat.mul_one, Int.toNat_natCast, le0n, Flat.val, Int.reduceToNat, Int.reduceLE, Int.reduceLT, Int.cast_ofNat_Int, decide_true, add_lit, Nat.zero_add, Nat.zero_mul, Nat.one_mul, Bool.not_true, Bool.not_false, j11, ink]
              refine ⟨ua.v, fun w2 e => rows_ld (hrowsd.ext e) hua tyG79, ?_⟩
              simp only [RnF_nil, RnF_op, ordL, of_load, of_lookup, mf_convert, mf_bin, of_buildSlice, of_alloc, of_box, of_makeSlice, of_append, of_copy, of_store, of_call, List.drop_succ_cons, List.drop_zero, CW_seq, CW_skip, CW_cond, CW_block, CW_loop, CW_reg, CW_draw, CW_exit, CW_ret, thenF_n, thenF_nK, thenF_r, thenF_x, blockF_n, blockF_nK, blockF_r, blockF_x, condF_t, condF_f, Rn_nil, Rn_ng, Rn_g, oneStep_g, os_move, os_assign, os_pick, os_bin, os_un, os_fieldAddr, os_field, os_indexAddr, os_index, os_slice, os_extract, os_nilCheck, os_makeFunc, os_build, os_len, os_cap, os_convert, os_min, os_max, on_load, on_buildSlice, on_alloc, on_box, on_makeSlice, on_lookup, mn_convert, mn_bin, optP_n, on_append, on_copy, on_store, on_call, ev, updo, upd, optP_p, resP_ok, resU_ok, ↓reduceIte, Nat.reduceEqDiff, List.map_cons, List.map_nil, List.map_toArray, argU, Nat.reduceAdd, gval_slot, gslot, List.getElem?_toArray, List.getElem?_cons_zero, List.getElem?_cons_succ, Option.bind_some, Option.some.injEq, reduceCtorEq, Bool.false_eq_true, Bool.true_eq_false, Option.map_some, Option.map_none, Int.toNat_zero, Option.isNone_none, Option.isNone_some, add_zero', binV, binI, unV, fieldV, extV, idxV, indexV, sliceV, lenV, capV, convV, min2V, max2V, TY, Option.isSome_some, Bool.true_and, Bool.and_true, Nat.mul_one, Int.toNat_natCast, le0n, Flat.val, Int.reduceToNat, Int.reduceLE, Int.reduceLT, Int.cast_ofNat_Int, decide_true, add_lit, Nat.zero_add, Nat.zero_mul, Nat.one_mul, Bool.not_true, Bool.not_false, j3, keepS]
              refine callP (by kernel_rfl : hasBody Try.prog 56 = true) (list_any ua.v r most wd hRrow (by omega) (fun f hf => by rw [hrl]; have := Nat.div_le_div_right (c := 64) (Nat.le_of_lt hf); omega)) ?_
              rintro ul w9 ⟨hol, hx9⟩
              have Sl := hol.isS
              have hNb : ∀ b, blk ul b → ¬ (blk vin b ∨ b < w7.heap.size) := fun b hb hh => by
                have h1 : wd.heap.size ≤ b := by
                  have := hol.free hb
                  exact Nat.le_of_not_lt fun hlt => by simp [hpOf, hlt] at this
                rcases hh with hh | hh
                · have := hovd.lt hh; omega
                · omega
              have hov9 := hovd.noMod hx9 (fun b h => h.elim) (fun b _ h => h) (N' := fun b => blk vin b ∨ b < w7.heap.size) (fun b h => .inl h) (fun b h => .inl h)
              have hRl9 := (hol.down (h := hpNo wd (fun b => blk vin b ∨ b < w7.heap.size)) (hpNo_le _ _)).roNo (hpNo_mod hx9 (fun b h => h.elim) (N' := fun b => blk vin b ∨ b < w7.heap.size) fun b h => .inl h) hNb
              obtain ⟨p1, v', w10, p2, p3, p4, p5⟩ := push (P := Try.prog) (t := 23) (e := 23) sokL rfl hov9 (x := ul) (y := listB r most) (by rw [isS_cells Sl]; exact hRl9) (by simp; omega) (by simp; omega) (hpNo_le _ _)
              rw [isS_cells Sl] at p1 p2
              have hgv : ¬ blk vin gb := fun h => by have := hfv gb h; omega
              have hrv : ¬ blk vin rb := fun h => by have := hfv rb h; omega
              have cg9 := (hx9.block gb gbl id).trans cgd
              have cr9 := (hx9.block rb rbl id).trans crd
              have cg10 := (p4.block gb (Array.getElem?_eq_some_iff.1 cg9).1 hgv).trans cg9
              have cr10 := (p4.block rb (Array.getElem?_eq_some_iff.1 cr9).1 hrv).trans cr9
              have Sv := p3.isS
              obtain ⟨w11, t6, cg11, m11⟩ := blk_st (P := Try.prog) (t := 23) (i := 0) (x := v') cg10 (by simp) (isS_cells Sv) (isS_one Sv) (zeroT_info tyZ23).choose_spec.1 (by rw [← szT_info (zeroT_info tyZ23).choose_spec.1]; exact tyS23)
              have cr11 := (m11.block rb (Array.getElem?_eq_some_iff.1 cr10).1 (fun h => hd4 h.symm)).trans cr10
              have hfv' : ∀ b, blk v' b → w7.heap.size ≤ b := fun b hb => by
                rcases p5 b hb with h | h
                · exact hfv b h
                · have := hx9.size; omega
              have hov11 : Own (hpNo w11 (fun b => blk v' b ∨ b < w7.heap.size)) w11 37 v' ((ins.take k).map (fun r => listB r most) ++ [listB r most]) := by
                have h1 : Own (hpNo w10 (fun b => blk v' b ∨ b < w7.heap.size)) w10 37 v' ((ins.take k).map (fun r => listB r most) ++ [listB r most]) :=
                  p3.reNo (hpNo_mod p4 (fun b h => .inl h) fun b h => by
                    rcases h with h | h
                    · rcases p5 b h with h | h
                      · exact .inl (.inl h)
                      · exact .inr h
                    · exact .inl (.inr h)) fun b h => .inl h
                exact h1.noMod m11 (fun b h => .inr (by subst h; exact hgb1)) (fun b hb h => by subst h; have := hfv' b hb; omega) (fun b h => .inl h) (fun b h => .inl h)
              have hrows11 := ((hrowsd.ext hx9).mod p4 (fun b hb hb2 => by have := hRl b hb; have := hfv b hb2; omega)).mod m11 (fun b hb h => (hd1 b hb).1 h)
              have hx11 : Ext w w11 := Mod.ext_of (Mod.ext_of (hxd.trans hx9) p4 fun b hb => by have := hfv b hb; have := st.ext.size; omega) m11 fun b hb => by subst hb; exact hfg'
              have hsz11 : w7.heap.size ≤ w11.heap.size := Nat.le_trans hszd (Nat.le_trans hx9.size (Nat.le_trans p4.size m11.size))
              simp only [RnF_nil, RnF_op, ordL, of_load, of_lookup, mf_convert, mf_bin, of_buildSlice, of_alloc, of_box, of_makeSlice, of_append, of_copy, of_store, of_call, List.drop_succ_cons, List.drop_zero, CW_seq, CW_skip, CW_cond, CW_block, CW_loop, CW_reg, CW_draw, CW_exit, CW_ret, thenF_n, thenF_nK, thenF_r, thenF_x, blockF_n, blockF_nK, blockF_r, blockF_x, condF_t, condF_f, Rn_nil, Rn_ng, Rn_g, oneStep_g, os_move, os_assign, os_pick, os_bin, os_un, os_fieldAddr, os_field, os_indexAddr, os_index, os_slice, os_extract, os_nilCheck, os_makeFunc, os_build, os_len, os_cap, os_convert, os_min, os_max, on_load, on_buildSlice, on_alloc, on_box, on_makeSlice, on_lookup, mn_convert, mn_bin, optP_n, on_append, on_copy, on_store, on_call, ev, updo, upd, optP_p, resP_ok, resU_ok, ↓reduceIte, Nat.reduceEqDiff, List.map_cons, List.map_nil, List.map_toArray, argU, Nat.reduceAdd, gval_slot, gslot, List.getElem?_toArray, List.getElem?_cons_zero, List.getElem?_cons_succ, Option.bind_some, Option.some.injEq, reduceCtorEq, Bool.false_eq_true, Bool.true_eq_false, Option.map_some, Option.map_none, Int.toNat_zero, Option.isNone_none, Option.isNone_some, add_zero', unV, fieldV, extV, idxV, indexV, sliceV, lenV, capV, convV, min2V, max2V, TY, Option.isSome_some, Bool.true_and, Bool.and_true, Nat.mul_one, Int.toNat_natCast, le0n, Flat.val, Int.reduceToNat, Int.reduceLE, Int.reduceLT, Int.cast_ofNat_Int, decide_true, add_lit, Nat.zero_add, Nat.zero_mul, Nat.one_mul, Bool.not_true, Bool.not_false, keepS, p1]
              refine ⟨hx9, hx9.trans (Ext.alloc w9 _), ?_⟩
              simp only [RnF_nil, RnF_op, ordL, of_load, of_lookup, mf_convert, mf_bin, of_buildSlice, of_alloc, of_box, of_makeSlice, of_append, of_copy, of_store, of_call, List.drop_succ_cons, List.drop_zero, CW_seq, CW_skip, CW_cond, CW_block, CW_loop, CW_reg, CW_draw, CW_exit, CW_ret, thenF_n, thenF_nK, thenF_r, thenF_x, blockF_n, blockF_nK, blockF_r, blockF_x, condF_t, condF_f, Rn_nil, Rn_ng, Rn_g, oneStep_g, os_move, os_assign, os_pick, os_bin, os_un, os_fieldAddr, os_field, os_indexAddr, os_index, os_slice, os_extract, os_nilCheck, os_makeFunc, os_build, os_len, os_cap, os_convert, os_min, os_max, on_load, on_buildSlice, on_alloc, on_box, on_makeSlice, on_lookup, mn_convert, mn_bin, optP_n, on_append, on_copy, on_store, on_call, ev, updo, upd, optP_p, resP_ok, resU_ok, ↓reduceIte, Nat.reduceEqDiff, List.map_cons, List.map_nil, List.map_toArray, argU, Nat.reduceAdd, gval_slot, gslot, List.getElem?_toArray, List.getElem?_cons_zero, List.getElem?_cons_succ, Option.bind_some, Option.some.injEq, reduceCtorEq, Bool.false_eq_true, Bool.true_eq_false, Option.map_some, Option.map_none, Int.toNat_zero, Option.isNone_none, Option.isNone_some, add_zero', unV, fieldV, extV, idxV, indexV, sliceV, lenV, capV, convV, min2V, max2V, TY, Option.isSome_some, Bool.true_and, Bool.and_true, Nat.mul_one, Int.toNat_natCast, le0n, Flat.val, Int.reduceToNat, Int.reduceLE, Int.reduceLT, Int.cast_ofNat_Int, decide_true, add_lit, Nat.zero_add, Nat.zero_mul, Nat.one_mul, Bool.not_true, Bool.not_false, p2, j9, t6, h131, q6]
              refine ⟨k + 1, by omega, by trivial, by omega, ⟨v', ?_, ?_, hfv'⟩, cr11, hrows11, hx11, hsz11⟩
              · simpa using cg11
              · rw [htk]; exact hov11
            · have hge4 : k = nx.length := by simp at hc; omega
              subst hge4
              rw [List.take_of_length_le (by rw [si.ilen]; exact Nat.le_refl _)] at hov
              have hlda := blk_lda (P := Try.prog) cg tyG27 tyU27 tyI27 (by rw [tyS27]; rfl)
              have Sv := hov.isS
              have hone : ∀ u ∈ (#[vin, Value.int .i64 (T : Nat)] : Array Value).toList, u.oneCell' = true := by
                intro u hu
                simp at hu
                rcases hu with rfl | rfl
                · exact isS_one Sv
                · rfl
              obtain ⟨w9, t7, cr9, m9⟩ := blk_sta (P := Try.prog) cr tyZ27 (by rw [tyS27]; rfl) (cs := #[vin, .int .i64 (T : Nat)]) (by rw [tyS27]; rfl) hone
              have hov9 := hov.noMod m9 (fun b h => .inr (by subst h; exact hgb0)) (fun b hb h => by subst h; have := hfv b hb; omega) (N' := fun b => blk vin b ∨ b < w7.heap.size) (fun b h => .inl h) (fun b h => .inl h)
              have hR9 : R (hpNo w9 (fun b => b < w.heap.size)) vin (ins.map fun r => listB r most) := hov9.ro (fun b o e => by
                by_cases h : b < w7.heap.size
                · rw [hpNo_in (.inr h)] at e; cases e
                · by_cases h2 : blk vin b
                  · rw [hpNo_in (.inl h2)] at e; cases e
                  · rw [hpNo_oth (fun hh => hh.elim h2 h)] at e
                    rw [hpNo_oth (by have := st.ext.size; omega)]; exact e) fun b hb => hpNo_oth (by have := hfv b hb; have := st.ext.size; omega)
              have hlda9 := blk_lda (P := Try.prog) cr9 tyG27 tyU27 tyI27 (by rw [tyS27]; rfl)
              have hx9 : Ext w w9 := Mod.ext_of hx m9 fun b hb => by subst hb; exact hfr'
              simp only [CW_seq, CW_skip, CW_cond, CW_block, CW_loop, CW_reg, CW_draw, CW_exit, CW_ret, thenF_n, thenF_nK, thenF_r, thenF_x, blockF_n, blockF_nK, blockF_r, blockF_x, condF_t, condF_f, Rn_nil, Rn_ng, Rn_g, oneStep_g, os_move, os_assign, os_pick, os_bin, os_un, os_fieldAddr, os_field, os_indexAddr, os_index, os_slice, os_extract, os_nilCheck, os_makeFunc, os_build, os_len, os_cap, os_convert, os_min, os_max, on_load, on_buildSlice, on_alloc, on_box, on_makeSlice, on_lookup, mn_convert, mn_bin, optP_n, on_append, on_copy, on_store, on_call, ev, updo, upd, optP_p, resP_ok, resU_ok, ↓reduceIte, Nat.reduceEqDiff, List.map_cons, List.map_nil, List.map_toArray, argU, Nat.reduceAdd, gval_slot, gslot, List.getElem?_toArray, List.getElem?_cons_zero, List.getElem?_cons_succ, Option.bind_some, Option.some.injEq, reduceCtorEq, Bool.false_eq_true, Bool.true_eq_false, Option.map_some, Option.map_none, Int.toNat_zero, Option.isNone_none, Option.isNone_some, add_zero', unV, fieldV, extV, idxV, indexV, sliceV, lenV, capV, convV, min2V, max2V, TY, Option.isSome_some, Bool.true_and, Bool.and_true, Nat.mul_one, Int.toNat_natCast, le0n, Flat.val, Int.reduceToNat, Int.reduceLE, Int.reduceLT, Int.cast_ofNat_Int, decide_true, add_lit, Nat.zero_add, Nat.zero_mul, Nat.one_mul, Bool.not_true, Bool.not_false, j8, j9, hlda, t7]
              refine retqc Try.results41 (ad := ⟨rb, 0, none⟩) (by simp only [upd, ↓reduceIte, Nat.reduceEqDiff]; exact j8) hlda9 ?_
              simp only [hrb] at hR9
              refine ⟨⟨vin, ins.map fun r => listB r most, T, rfl, hR9, by rw [List.length_map, si.ilen], fun b hb => ⟨hasB (wAt ins b), ?_, fun i => hfin b i hb⟩, hT1, hT2⟩, hx9⟩
              have h1 := wAt_get si.ilen hb
              have hlen : (ins.map fun r => listB r most).length = nx.length := by rw [List.length_map, si.ilen]
              have h2 := (rowF_at (nx := ins.map fun r => listB r most) (a := b) (by rw [hlen]; exact hb)).1
              rw [List.getElem?_map, h1] at h2
              exact (Option.some.inj h2).symm
end Go.Proofs.Ytldmnnloakpjlaa
