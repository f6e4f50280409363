/- Contracts: whittlerlaw14.ends. -/
import Derived.Test.YtldmnnloakpjlaaB4
set_option linter.unusedSimpArgs false
set_option maxRecDepth 100000
set_option linter.unusedVariables false
set_option linter.unnecessarySimpa false
namespace Go.Proofs.Ytldmnnloakpjlaa
open Go

/-- 'for _, e := range edges': e in a block of its own. -/
theorem pairV (w : World) (a b : Int) :
    (Instr.alloc 38 true (.tuple #[])).run Try.prog w = .ok (.pointer (some ⟨w.heap.size, 0, none⟩)) (w.alloc (.cells #[.int .i64 0, .int .i64 0] 38)) ∧
    (Instr.storeAt 38 (.pointer (some ⟨w.heap.size, 0, none⟩)) (.agg #[.int .i64 a, .int .i64 b])).run Try.prog (w.alloc (.cells #[.int .i64 0, .int .i64 0] 38)) =
      .ok () (w.alloc (.cells #[.int .i64 a, .int .i64 b] 38)) :=
  locV (P := Try.prog) (T := 38) tyZ38 (by rw [tyS38]; rfl) (cs := #[.int .i64 a, .int .i64 b]) (by rw [tyS38]; rfl) (by simp [Value.oneCell'])
theorem pair0 (w : World) (a b : Int) : (Instr.loadAt 3 (.pointer (some ⟨w.heap.size, 0, none⟩))).run Try.prog (w.alloc (.cells #[.int .i64 a, .int .i64 b] 38)) = .ok (.int .i64 a) (w.alloc (.cells #[.int .i64 a, .int .i64 b] 38)) :=
  ld_new (by rfl) tyG3
theorem pair1 (w : World) (a b : Int) : (Instr.loadAt 3 (.pointer (some ⟨w.heap.size, 1, none⟩))).run Try.prog (w.alloc (.cells #[.int .i64 a, .int .i64 b] 38)) = .ok (.int .i64 b) (w.alloc (.cells #[.int .i64 a, .int .i64 b] 38)) :=
  ld_new (by rfl) tyG3
theorem ldP {h : Hp} {w : World} {v : Value} {xs : List (Int × Int)} (hr : R h v xs) (hw : hle h (hpOf w)) {k : Nat} {x : Int × Int} (hk : xs[k]? = some x) :
    (Instr.loadAt 38 (.pointer (some (sadr v (k * 2))))).run Try.prog w = .ok (.agg #[.int .i64 x.1, .int .i64 x.2]) w :=
  ld_pair hr hw hk tyG38 tyU38 tyI38 tyS38

def validE (n : Nat) (e : Int × Int) : Prop := 0 ≤ e.1 ∧ e.1 < n ∧ 0 ≤ e.2 ∧ e.2 < n
def endF (a : Int) (back : Bool) (m : List Bool) (e : Int × Int) : List Bool :=
  if back then (if e.2 = a then m.set e.1.toNat true else m) else (if e.1 = a then m.set e.2.toNat true else m)
def endsM (n : Nat) (a : Int) (edges : List (Int × Int)) (back : Bool) : List Bool := edges.foldl (endF a back) (List.replicate n false)
theorem endF_len (a : Int) (back : Bool) (m : List Bool) (e : Int × Int) : (endF a back m e).length = m.length := by
  unfold endF; (repeat' split) <;> simp
theorem endsM_len (n : Nat) (a : Int) (back : Bool) : ∀ (edges : List (Int × Int)) (m : List Bool), (edges.foldl (endF a back) m).length = m.length
  | [], m => rfl
  | e :: es, m => by rw [List.foldl_cons, endsM_len n a back es, endF_len]

theorem ends_any (v : Value) (n : Nat) (a : Int) (edges : List (Int × Int)) (back : Bool) (w : World) (hv : R (hpOf w) v edges) (hn : n ≤ 100000) (hl : edges.length ≤ 1000000) (hval : ∀ e ∈ edges, validE n e) :
    Calls Try.prog 34 #[.int .i64 n, .int .i64 a, v, .bool back] w fun e w' => ∃ u, e = .returned u ∧ (Own (hpOf w) w' 3 u (listedF (endsM n a edges back) n) ∧ Ext w w') := by
  refine calls_of_CW (args := [.int .i64 n, .int .i64 a, v, .bool back]) hm Try.func34 rfl (by kernel_rfl) (by show 4 ≤ _; decide +kernel) ?_
  have hS := hv.isS
  have hvn := hv.vlen
  obtain ⟨u0, w0, hmk, ho0, hx0, hf0, _⟩ := mk (P := Try.prog) (w := w) (h := hpOf w) sokB tyZ4 (α := Bool) (y := false) rfl (n := n) (by omega) (by omega) (hle_refl _)
  simp only [CW_seq, CW_skip, CW_cond, CW_block, CW_loop, CW_reg, CW_draw, CW_exit, CW_ret, thenF_n, thenF_nK, thenF_r, thenF_x, blockF_n, blockF_nK, blockF_r, blockF_x, condF_t, condF_f, Rn_nil, Rn_ng, Rn_g, oneStep_g, os_move, os_assign, os_pick, os_bin, os_un, os_fieldAddr, os_field, os_indexAddr, os_index, os_slice, os_extract, os_nilCheck, os_makeFunc, os_build, os_len, os_cap, os_convert, os_min, os_max, on_load, on_buildSlice, on_alloc, on_box, on_makeSlice, on_lookup, mn_convert, mn_bin, optP_n, on_append, on_copy, on_store, on_call, ev, updo, upd, optP_s, resP_ok, resU_ok, ↓reduceIte, Nat.reduceEqDiff, List.map_cons, List.map_nil, List.map_toArray, argU, Nat.reduceAdd, gval_slot, gslot, List.getElem?_toArray, List.getElem?_cons_zero, List.getElem?_cons_succ, Option.bind_some, Option.some.injEq, reduceCtorEq, Bool.false_eq_true, Bool.true_eq_false, Option.map_some, Option.map_none, Int.toNat_zero, Option.isNone_none, Option.isNone_some, add_zero', binV, binI, unV, fieldV, extV, idxV, indexV, sliceV, lenV, capV, convV, min2V, max2V, TY, Option.isSome_some, Bool.true_and, Bool.and_true, Nat.mul_one, Int.toNat_natCast, le0n, Flat.val, Int.reduceToNat, Int.reduceLE, Int.reduceLT, Int.cast_ofNat_Int, decide_true, add_lit, Nat.zero_add, Nat.zero_mul, Nat.one_mul, Bool.not_true, Bool.not_false, hS, hvn, hmk]
  refine loop_rule [1, 3, 9, 14, 15] (σ := Nat) (fun k f w' => f 16 = .int .i64 k ∧ k ≤ edges.length ∧ Own (hpOf w) w' 4 u0 ((edges.take k).foldl (endF a back) (List.replicate n false)) ∧ Ext w w') (fun k => edges.length - k) 0 (by decide +kernel) ?_ ?_
  · simp only [upd, ↓reduceIte, Nat.reduceEqDiff]
    exact ⟨rfl, Nat.zero_le _, ho0, hx0⟩
  · rintro k f w' hk ⟨h16, hkl, ho, hx⟩
    simp only [List.forall_mem_cons, upd, ↓reduceIte, Nat.reduceEqDiff] at hk
    obtain ⟨e1, e3, e9, e14, e15, _⟩ := hk
    have hlen := endsM_len n a back (edges.take k) (List.replicate n false)
    have hstep := foldl_take (endF a back) (List.replicate n false) edges k
    generalize hm' : (edges.take k).foldl (endF a back) (List.replicate n false) = m at ho hlen hstep
    simp only [List.length_replicate] at hlen
    simp only [CW_seq, CW_skip, CW_cond, CW_block, CW_loop, CW_reg, CW_draw, CW_exit, CW_ret, thenF_n, thenF_nK, thenF_r, thenF_x, blockF_n, blockF_nK, blockF_r, blockF_x, condF_t, condF_f, Rn_nil, Rn_ng, Rn_g, oneStep_g, os_move, os_assign, os_pick, os_bin, os_un, os_fieldAddr, os_field, os_indexAddr, os_index, os_slice, os_extract, os_nilCheck, os_makeFunc, os_build, os_len, os_cap, os_convert, os_min, os_max, on_load, on_buildSlice, on_alloc, on_box, on_makeSlice, on_lookup, mn_convert, mn_bin, optP_n, on_append, on_copy, on_store, on_call, ev, updo, upd, optP_s, resP_ok, resU_ok, ↓reduceIte, Nat.reduceEqDiff, List.map_cons, List.map_nil, List.map_toArray, argU, Nat.reduceAdd, gval_slot, gslot, List.getElem?_toArray, List.getElem?_cons_zero, List.getElem?_cons_succ, Option.bind_some, Option.some.injEq, reduceCtorEq, Bool.false_eq_true, Bool.true_eq_false, Option.map_some, Option.map_none, Int.toNat_zero, Option.isNone_none, Option.isNone_some, add_zero', binV, binI, unV, fieldV, extV, idxV, indexV, sliceV, lenV, capV, convV, min2V, max2V, TY, Option.isSome_some, Bool.true_and, Bool.and_true, Nat.mul_one, Int.toNat_natCast, le0n, Flat.val, Int.reduceToNat, Int.reduceLE, Int.reduceLT, Int.cast_ofNat_Int, decide_true, add_lit, Nat.zero_add, Nat.zero_mul, Nat.one_mul, Bool.not_true, Bool.not_false, h16, e14, e15]
    refine condF_split (fun hc => ?_) (fun hc => ?_)
    · have hlt : k < edges.length := by simpa using hc
      have hin := hv.inS hlt
      have hld := ldP hv (hle_ext hx) (List.getElem?_eq_getElem hlt)
      have hve := hval _ (List.getElem_mem hlt)
      have hst := hstep hlt
      generalize edges[k] = e at hld hve hst
      obtain ⟨x, y⟩ := e
      obtain ⟨h1, h2, h3, h4⟩ := hve
      simp only at h1 h2 h3 h4 hld hst
      obtain ⟨p1, p2⟩ := pairV w' x y
      have q0 := pair0 w' x y
      have q1 := pair1 w' x y
      have hx1 := hx.trans (Ext.alloc w' (.cells #[.int .i64 x, .int .i64 y] 38))
      have ho1 := ho.ext (Ext.alloc w' (.cells #[.int .i64 x, .int .i64 y] 38))
      have d0 : decide (0 ≤ x) = true := by simpa using h1
      have d1 : decide (0 ≤ y) = true := by simpa using h3
      have i0 : inS u0 x.toNat = true := ho.inS (by omega)
      have i1 : inS u0 y.toNat = true := ho.inS (by omega)
      generalize w'.alloc (.cells #[.int .i64 x, .int .i64 y] 38) = w1 at *
      cases back
      · by_cases hxa : x = a
        · have hxa' : (x == a) = true := by simpa using hxa
          obtain ⟨w2, s1, s2, s3, s4⟩ := own_store (P := Try.prog) (t := 4) ho1 rfl (k := y.toNat) (by omega) (x := .bool true) (y := true) rfl rfl (zeroT_info tyZ4).choose_spec.1 (by rw [← szT_info (zeroT_info tyZ4).choose_spec.1]; exact tyS4)
          simp only [CW_seq, CW_skip, CW_cond, CW_block, CW_loop, CW_reg, CW_draw, CW_exit, CW_ret, thenF_n, thenF_nK, thenF_r, thenF_x, blockF_n, blockF_nK, blockF_r, blockF_x, condF_t, condF_f, Rn_nil, Rn_ng, Rn_g, oneStep_g, os_move, os_assign, os_pick, os_bin, os_un, os_fieldAddr, os_field, os_indexAddr, os_index, os_slice, os_extract, os_nilCheck, os_makeFunc, os_build, os_len, os_cap, os_convert, os_min, os_max, on_load, on_buildSlice, on_alloc, on_box, on_makeSlice, on_lookup, mn_convert, mn_bin, optP_n, on_append, on_copy, on_store, on_call, ev, updo, upd, optP_s, resP_ok, resU_ok, ↓reduceIte, Nat.reduceEqDiff, List.map_cons, List.map_nil, List.map_toArray, argU, Nat.reduceAdd, gval_slot, gslot, List.getElem?_toArray, List.getElem?_cons_zero, List.getElem?_cons_succ, Option.bind_some, Option.some.injEq, reduceCtorEq, Bool.false_eq_true, Bool.true_eq_false, Option.map_some, Option.map_none, Int.toNat_zero, Option.isNone_none, Option.isNone_some, add_zero', binV, binI, unV, fieldV, extV, idxV, indexV, sliceV, lenV, capV, convV, min2V, max2V, TY, Option.isSome_some, Bool.true_and, Bool.and_true, Nat.mul_one, Int.toNat_natCast, le0n, Flat.val, Int.reduceToNat, Int.reduceLE, Int.reduceLT, Int.cast_ofNat_Int, decide_true, add_lit, Nat.zero_add, Nat.zero_mul, Nat.one_mul, Bool.not_true, Bool.not_false, h16, e14, e15, e1, e3, e9, hin, hld, p1, p2, q0, q1, hxa', d0, d1, i0, i1, s1]
          refine ⟨k + 1, by omega, by rw [i64s k (by omega)], by omega, ?_, ho1.ext2 hx1 s3⟩
          rw [hst]; simp only [endF, hxa, if_true, Bool.false_eq_true, if_false]; exact s2
        · have hxa' : (x == a) = false := by simpa using hxa
          simp only [CW_seq, CW_skip, CW_cond, CW_block, CW_loop, CW_reg, CW_draw, CW_exit, CW_ret, thenF_n, thenF_nK, thenF_r, thenF_x, blockF_n, blockF_nK, blockF_r, blockF_x, condF_t, condF_f, Rn_nil, Rn_ng, Rn_g, oneStep_g, os_move, os_assign, os_pick, os_bin, os_un, os_fieldAddr, os_field, os_indexAddr, os_index, os_slice, os_extract, os_nilCheck, os_makeFunc, os_build, os_len, os_cap, os_convert, os_min, os_max, on_load, on_buildSlice, on_alloc, on_box, on_makeSlice, on_lookup, mn_convert, mn_bin, optP_n, on_append, on_copy, on_store, on_call, ev, updo, upd, optP_s, resP_ok, resU_ok, ↓reduceIte, Nat.reduceEqDiff, List.map_cons, List.map_nil, List.map_toArray, argU, Nat.reduceAdd, gval_slot, gslot, List.getElem?_toArray, List.getElem?_cons_zero, List.getElem?_cons_succ, Option.bind_some, Option.some.injEq, reduceCtorEq, Bool.false_eq_true, Bool.true_eq_false, Option.map_some, Option.map_none, Int.toNat_zero, Option.isNone_none, Option.isNone_some, add_zero', binV, binI, unV, fieldV, extV, idxV, indexV, sliceV, lenV, capV, convV, min2V, max2V, TY, Option.isSome_some, Bool.true_and, Bool.and_true, Nat.mul_one, Int.toNat_natCast, le0n, Flat.val, Int.reduceToNat, Int.reduceLE, Int.reduceLT, Int.cast_ofNat_Int, decide_true, add_lit, Nat.zero_add, Nat.zero_mul, Nat.one_mul, Bool.not_true, Bool.not_false, h16, e14, e15, e1, e3, e9, hin, hld, p1, p2, q0, q1, hxa', d0, d1, i0, i1]
          refine ⟨k + 1, by omega, by rw [i64s k (by omega)], by omega, ?_, hx1⟩
          rw [hst]; simp only [endF, hxa, if_true, Bool.false_eq_true, if_false]; exact ho1
      · by_cases hya : y = a
        · have hya' : (y == a) = true := by simpa using hya
          obtain ⟨w2, s1, s2, s3, s4⟩ := own_store (P := Try.prog) (t := 4) ho1 rfl (k := x.toNat) (by omega) (x := .bool true) (y := true) rfl rfl (zeroT_info tyZ4).choose_spec.1 (by rw [← szT_info (zeroT_info tyZ4).choose_spec.1]; exact tyS4)
          simp only [CW_seq, CW_skip, CW_cond, CW_block, CW_loop, CW_reg, CW_draw, CW_exit, CW_ret, thenF_n, thenF_nK, thenF_r, thenF_x, blockF_n, blockF_nK, blockF_r, blockF_x, condF_t, condF_f, Rn_nil, Rn_ng, Rn_g, oneStep_g, os_move, os_assign, os_pick, os_bin, os_un, os_fieldAddr, os_field, os_indexAddr, os_index, os_slice, os_extract, os_nilCheck, os_makeFunc, os_build, os_len, os_cap, os_convert, os_min, os_max, on_load, on_buildSlice, on_alloc, on_box, on_makeSlice, on_lookup, mn_convert, mn_bin, optP_n, on_append, on_copy, on_store, on_call, ev, updo, upd, optP_s, resP_ok, resU_ok, ↓reduceIte, Nat.reduceEqDiff, List.map_cons, List.map_nil, List.map_toArray, argU, Nat.reduceAdd, gval_slot, gslot, List.getElem?_toArray, List.getElem?_cons_zero, List.getElem?_cons_succ, Option.bind_some, Option.some.injEq, reduceCtorEq, Bool.false_eq_true, Bool.true_eq_false, Option.map_some, Option.map_none, Int.toNat_zero, Option.isNone_none, Option.isNone_some, add_zero', binV, binI, unV, fieldV, extV, idxV, indexV, sliceV, lenV, capV, convV, min2V, max2V, TY, Option.isSome_some, Bool.true_and, Bool.and_true, Nat.mul_one, Int.toNat_natCast, le0n, Flat.val, Int.reduceToNat, Int.reduceLE, Int.reduceLT, Int.cast_ofNat_Int, decide_true, add_lit, Nat.zero_add, Nat.zero_mul, Nat.one_mul, Bool.not_true, Bool.not_false, h16, e14, e15, e1, e3, e9, hin, hld, p1, p2, q0, q1, hya', d0, d1, i0, i1, s1]
          refine ⟨k + 1, by omega, by rw [i64s k (by omega)], by omega, ?_, ho1.ext2 hx1 s3⟩
          rw [hst]; simp only [endF, hya, if_true, Bool.false_eq_true, if_false]; exact s2
        · have hya' : (y == a) = false := by simpa using hya
          simp only [CW_seq, CW_skip, CW_cond, CW_block, CW_loop, CW_reg, CW_draw, CW_exit, CW_ret, thenF_n, thenF_nK, thenF_r, thenF_x, blockF_n, blockF_nK, blockF_r, blockF_x, condF_t, condF_f, Rn_nil, Rn_ng, Rn_g, oneStep_g, os_move, os_assign, os_pick, os_bin, os_un, os_fieldAddr, os_field, os_indexAddr, os_index, os_slice, os_extract, os_nilCheck, os_makeFunc, os_build, os_len, os_cap, os_convert, os_min, os_max, on_load, on_buildSlice, on_alloc, on_box, on_makeSlice, on_lookup, mn_convert, mn_bin, optP_n, on_append, on_copy, on_store, on_call, ev, updo, upd, optP_s, resP_ok, resU_ok, ↓reduceIte, Nat.reduceEqDiff, List.map_cons, List.map_nil, List.map_toArray, argU, Nat.reduceAdd, gval_slot, gslot, List.getElem?_toArray, List.getElem?_cons_zero, List.getElem?_cons_succ, Option.bind_some, Option.some.injEq, reduceCtorEq, Bool.false_eq_true, Bool.true_eq_false, Option.map_some, Option.map_none, Int.toNat_zero, Option.isNone_none, Option.isNone_some, add_zero', binV, binI, unV, fieldV, extV, idxV, indexV, sliceV, lenV, capV, convV, min2V, max2V, TY, Option.isSome_some, Bool.true_and, Bool.and_true, Nat.mul_one, Int.toNat_natCast, le0n, Flat.val, Int.reduceToNat, Int.reduceLE, Int.reduceLT, Int.cast_ofNat_Int, decide_true, add_lit, Nat.zero_add, Nat.zero_mul, Nat.one_mul, Bool.not_true, Bool.not_false, h16, e14, e15, e1, e3, e9, hin, hld, p1, p2, q0, q1, hya', d0, d1, i0, i1]
          refine ⟨k + 1, by omega, by rw [i64s k (by omega)], by omega, ?_, hx1⟩
          rw [hst]; simp only [endF, hya, if_true, Bool.false_eq_true, if_false]; exact ho1
    · have hge : k = edges.length := by simp at hc; omega
      subst hge
      rw [List.take_length] at hm'
      simp only [CW_seq, CW_skip, CW_cond, CW_block, CW_loop, CW_reg, CW_draw, CW_exit, CW_ret, thenF_n, thenF_nK, thenF_r, thenF_x, blockF_n, blockF_nK, blockF_r, blockF_x, condF_t, condF_f, Rn_nil, Rn_ng, Rn_g, oneStep_g, os_move, os_assign, os_pick, os_bin, os_un, os_fieldAddr, os_field, os_indexAddr, os_index, os_slice, os_extract, os_nilCheck, os_makeFunc, os_build, os_len, os_cap, os_convert, os_min, os_max, on_load, on_buildSlice, on_alloc, on_box, on_makeSlice, on_lookup, mn_convert, mn_bin, optP_n, on_append, on_copy, on_store, on_call, ev, updo, upd, optP_s, resP_ok, resU_ok, ↓reduceIte, Nat.reduceEqDiff, List.map_cons, List.map_nil, List.map_toArray, argU, Nat.reduceAdd, gval_slot, gslot, List.getElem?_toArray, List.getElem?_cons_zero, List.getElem?_cons_succ, Option.bind_some, Option.some.injEq, reduceCtorEq, Bool.false_eq_true, Bool.true_eq_false, Option.map_some, Option.map_none, Int.toNat_zero, Option.isNone_none, Option.isNone_some, add_zero', binV, binI, unV, fieldV, extV, idxV, indexV, sliceV, lenV, capV, convV, min2V, max2V, TY, Option.isSome_some, Bool.true_and, Bool.and_true, Nat.mul_one, Int.toNat_natCast, le0n, Flat.val, Int.reduceToNat, Int.reduceLE, Int.reduceLT, Int.cast_ofNat_Int, decide_true, add_lit, Nat.zero_add, Nat.zero_mul, Nat.one_mul, Bool.not_true, Bool.not_false, e9]
      refine callP (by kernel_rfl : hasBody Try.prog 36 = true) (marks_any u0 m w' (ho.rw_ (hle_ext hx)) (by omega)) ?_
      rintro r w2 ⟨hr, hx2⟩
      simp only [CW_seq, CW_skip, CW_cond, CW_block, CW_loop, CW_reg, CW_draw, CW_exit, CW_ret, thenF_n, thenF_nK, thenF_r, thenF_x, blockF_n, blockF_nK, blockF_r, blockF_x, condF_t, condF_f, Rn_nil, Rn_ng, Rn_g, oneStep_g, os_move, os_assign, os_pick, os_bin, os_un, os_fieldAddr, os_field, os_indexAddr, os_index, os_slice, os_extract, os_nilCheck, os_makeFunc, os_build, os_len, os_cap, os_convert, os_min, os_max, on_load, on_buildSlice, on_alloc, on_box, on_makeSlice, on_lookup, mn_convert, mn_bin, optP_n, on_append, on_copy, on_store, on_call, ev, updo, upd, optP_s, resP_ok, resU_ok, ↓reduceIte, Nat.reduceEqDiff, List.map_cons, List.map_nil, List.map_toArray, argU, Nat.reduceAdd, gval_slot, gslot, List.getElem?_toArray, List.getElem?_cons_zero, List.getElem?_cons_succ, Option.bind_some, Option.some.injEq, reduceCtorEq, Bool.false_eq_true, Bool.true_eq_false, Option.map_some, Option.map_none, Int.toNat_zero, Option.isNone_none, Option.isNone_some, add_zero', binV, binI, unV, fieldV, extV, idxV, indexV, sliceV, lenV, capV, convV, min2V, max2V, TY, Option.isSome_some, Bool.true_and, Bool.and_true, Nat.mul_one, Int.toNat_natCast, le0n, Flat.val, Int.reduceToNat, Int.reduceLE, Int.reduceLT, Int.cast_ofNat_Int, decide_true, add_lit, Nat.zero_add, Nat.zero_mul, Nat.one_mul, Bool.not_true, Bool.not_false]
      refine retq1 Try.results34 ?_
      simp only [upd, ↓reduceIte, Nat.reduceEqDiff]
      have e : endsM n a edges back = m := hm'
      rw [e, ← hlen]
      exact ⟨hr.back hx, hx.trans hx2⟩
end Go.Proofs.Ytldmnnloakpjlaa
