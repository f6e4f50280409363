/- Contract: whittlerlaw14.drawn. -/
import Derived.Test.YtldmnnloakpjlaaB15
import Derived.Test.YtldmnnloakpjlaaC6
import Derived.Laws.StructEq
set_option linter.unusedSimpArgs false
set_option linter.unusedVariables false
set_option maxRecDepth 100000
namespace Go.Proofs.Ytldmnnloakpjlaa
open Go

theorem retq3 {P : Program} {fn : Func} {R : Value → World → Prop} {f : Fr} {w : World} {t u v : Nat} (h : fn.results = #[.tmp t, .tmp u, .tmp v]) (hR : R (.tuple #[f t, f u, f v]) w) : RetQ P fn R .ret f w :=
  ⟨[f t, f u, f v], by rw [h]; exact ⟨rfl, rfl, rfl, trivial⟩, hR⟩

theorem run_part1 {P : Program} {t : TypeId} (ht : aggT P t = false) (hu : (P.underlying t).isSome = true) {cs : Array Value} {i : Nat} {v : Value} (h : cs[i]? = some v) (w : World) : (part t cs i).run P w = .ok v w := by
  unfold part
  simp only [Sem.run_bind, run_isAgg t hu, Result.andThen_ok, ht, Bool.false_eq_true, if_false, h, Sem.run_pure]
theorem equal_pair {P : Program} {t e : TypeId} (ht : P.underlying t = some (.array 2 e)) (he : P.underlying e = some (.int .i64)) (ha : aggT P e = false) (hi : (P.info? e).isSome = true) (hs : szT P e = 1) (w : World) (n : Nat) (a b c d : Int) :
    (Op.equalIn (n + 2) t (.agg #[.int .i64 a, .int .i64 b]) (.agg #[.int .i64 c, .int .i64 d])).run P w = .ok ((a, b) == (c, d)) w := by
  have hu : (P.underlying e).isSome = true := by rw [he]; rfl
  have p0 := fun a b => run_part1 (P := P) (t := e) ha hu (cs := #[.int .i64 a, .int .i64 b]) (i := 0) (v := .int .i64 a) rfl
  have p1 := fun a b => run_part1 (P := P) (t := e) ha hu (cs := #[.int .i64 a, .int .i64 b]) (i := 1) (v := .int .i64 b) rfl
  have q := fun a b => run_equalIn_int (P := P) w n e .i64 .i64 a b he
  rw [Op.equalIn]
  simp only [Sem.run_bind, run_underlying ht, Result.andThen_ok, run_szOf hi, hs]
  have hr : List.range' 0 2 = [0, 1] := rfl
  have e0 : ((a, b) == (c, d)) = ((a == c) && (b == d)) := rfl
  rw [e0]
  cases h1 : (a == c) <;> cases h2 : (b == d) <;> simp [h1, h2, p0, p1, q, run_szOf hi, hs, hr]
/-- Two pairs are one. -/
theorem eqPair (w : World) (x y : Operand) (a b c d : Int) : (do eqGuard .eql 38 x y (.agg #[.int .i64 a, .int .i64 b]) (.agg #[.int .i64 c, .int .i64 d]); binOp .eql 38 (.agg #[.int .i64 a, .int .i64 b]) (.agg #[.int .i64 c, .int .i64 d]) : Sem Value).run Try.prog w =
    .ok (.bool ((a, b) == (c, d))) w := by
  have hg := run_eqGuard_agg (P := Try.prog) w .eql 38 x y #[.int .i64 a, .int .i64 b] #[.int .i64 c, .int .i64 d] (by kernel_rfl)
  have he := run_eql_struct (P := Try.prog) w 38 #[.int .i64 a, .int .i64 b] #[.int .i64 c, .int .i64 d]
  simp only [Sem.run_bind, hg, Result.andThen_ok, he, equal_pair (P := Try.prog) (t := 38) (e := 3) Try.underlying38 Try.underlying3 tyG3 tyI3 tyS3 w 9998]

/-- The beginning of a slice that is read. -/
theorem R.pre {α : Type} [Rep α] {h : Hp} {v : Value} {xs : List α} (hr : R h v xs) {k : Nat} (hk : k ≤ xs.length) : R h (reS v 0 k (Rep.sz α)) (xs.take k) := by
  obtain ⟨a, n, c, e, h1, h2, es, h3, h4⟩ := hr
  simp at e; subst e
  have hx : xs = xs.take k ++ xs.drop k := (List.take_append_drop k xs).symm
  rw [hx] at h3
  obtain ⟨c1, c2, e1, e2, e3⟩ := encs_split _ _ h3
  refine ⟨if c = 0 then a else a.map (·.add (0 * Rep.sz α)), k - 0, c - 0, rfl, by rw [List.length_take]; omega, by omega, c1, e2, fun j v hv => ?_⟩
  obtain ⟨ad, e4, e5⟩ := h4 j v (by rw [e1, List.getElem?_append_left (List.getElem?_eq_some_iff.1 hv).1]; exact hv)
  refine ⟨ad, ?_, e5⟩
  subst e4
  split <;> simp [add_zero']

theorem pairLd {w w3 : World} {a b : Int} (h : Ext (w.alloc (.cells #[.int .i64 a, .int .i64 b] 38)) w3) :
    (Instr.loadAt 38 (.pointer (some ⟨w.heap.size, 0, none⟩))).run Try.prog w3 = .ok (.agg #[.int .i64 a, .int .i64 b]) w3 :=
  ld_agg (cs := [.int .i64 a, .int .i64 b]) tyG38 tyU38 tyI38 tyS38 fun j u hj => by
    rw [add_lit, Nat.zero_add]
    exact cellAt_mono (hle_ext h) (cell_new (by simpa using hj))
theorem bad_cases (m x y : Int) : (decide (x < 0) = true ∧ badE m (x, y) = true) ∨ (decide (x < 0) = false ∧ decide (x ≥ m) = true ∧ badE m (x, y) = true) ∨
    (decide (x < 0) = false ∧ decide (x ≥ m) = false ∧ decide (y < 0) = true ∧ badE m (x, y) = true) ∨ (decide (x < 0) = false ∧ decide (x ≥ m) = false ∧ decide (y < 0) = false ∧ decide (y ≥ m) = true ∧ badE m (x, y) = true) ∨
    (decide (x < 0) = false ∧ decide (x ≥ m) = false ∧ decide (y < 0) = false ∧ decide (y ≥ m) = false ∧ badE m (x, y) = false) := by
  unfold badE
  cases decide (x < 0) <;> cases decide (x ≥ m) <;> cases decide (y < 0) <;> cases decide (y ≥ m) <;> simp

theorem drawn_any (n : Int) (v : Value) (es : List (Int × Int)) (w : World) (hv : R (hpOf w) v es) :
    Calls Try.prog 25 #[.int .i64 n, v] w fun e w' => ∃ u, e = .returned u ∧ ((∃ ue ug, u = .tuple #[.int .i64 (modf n 14), ue, ug] ∧ R (hpOf w) ue (es.take 40) ∧ Own (hpOf w) w' 38 ug (goodF (modf n 14) (es.take 40))) ∧ Ext w w') := by
  refine calls_of_CW (args := [.int .i64 n, v]) hm Try.func25 rfl (by kernel_rfl) (by show 2 ≤ _; decide +kernel) ?_
  have hS := hv.isS
  have hn := hv.vlen
  simp only [CW_seq, CW_skip, CW_cond, CW_block, CW_loop, CW_reg, CW_draw, CW_exit, CW_ret, thenF_n, thenF_nK, thenF_r, thenF_x, blockF_n, blockF_nK, blockF_r, blockF_x, condF_t, condF_f, Rn_nil, Rn_ng, Rn_g, oneStep_g, os_move, os_assign, os_pick, os_bin, os_un, os_fieldAddr, os_field, os_indexAddr, os_index, os_slice, os_extract, os_nilCheck, os_makeFunc, os_build, os_len, os_cap, os_convert, os_min, os_max, on_load, on_buildSlice, on_alloc, on_box, on_makeSlice, on_lookup, mn_convert, mn_bin, optP_n, on_append, on_copy, on_store, on_call, ev, updo, upd, optP_s, resP_ok, resU_ok, ↓reduceIte, Nat.reduceEqDiff, List.map_cons, List.map_nil, List.map_toArray, argU, Nat.reduceAdd, gval_slot, gslot, List.getElem?_toArray, List.getElem?_cons_zero, List.getElem?_cons_succ, Option.bind_some, Option.some.injEq, reduceCtorEq, Bool.false_eq_true, Bool.true_eq_false, Option.map_some, Option.map_none, Int.toNat_zero, Option.isNone_none, Option.isNone_some, add_zero', binV, binI, unV, fieldV, extV, idxV, indexV, sliceV, lenV, capV, convV, min2V, max2V, TY, Option.isSome_some, Bool.true_and, Bool.and_true, Nat.mul_one, Int.toNat_natCast, le0n, Flat.val, Int.reduceToNat, Int.reduceLE, Int.reduceLT, Int.cast_ofNat_Int, decide_true, add_lit, Nat.zero_add, Nat.zero_mul, Nat.one_mul, Bool.not_true, Bool.not_false, hS, hn]
  refine callP (by kernel_rfl : hasBody Try.prog 19 = true) (mod_any n 14 w (by omega)) ?_
  rintro u w1 ⟨rfl, rfl⟩
  have hmin : (if (40 : Int) < es.length then 40 else (es.length : Int)) = ((min es.length 40 : Nat) : Int) := by split <;> omega
  have hv2 := hv.pre (k := min es.length 40) (by omega)
  have htk : es.take (min es.length 40) = es.take 40 := by
    rcases Nat.le_total es.length 40 with h | h
    · rw [Nat.min_eq_left h, List.take_length, List.take_of_length_le h]
    · rw [Nat.min_eq_right h]
  rw [htk] at hv2
  have hcap := hv.vcap
  have hle1 : decide (((min es.length 40 : Nat) : Int) ≤ (vcap v : Int)) = true := by simp; omega
  have hS2 := hv2.isS
  have hn2 := hv2.vlen
  have hsz : (Rep.sz (Int × Int)) = 2 := rfl
  rw [hsz] at hS2 hn2 hv2
  have hl40 : (es.take 40).length ≤ 40 := by rw [List.length_take]; omega
  generalize modf n 14 = m
  generalize hue : reS v 0 (min es.length 40) 2 = ue at *
  generalize es.take 40 = fs at *
  simp only [CW_seq, CW_skip, CW_cond, CW_block, CW_loop, CW_reg, CW_draw, CW_exit, CW_ret, thenF_n, thenF_nK, thenF_r, thenF_x, blockF_n, blockF_nK, blockF_r, blockF_x, condF_t, condF_f, Rn_nil, Rn_ng, Rn_g, oneStep_g, os_move, os_assign, os_pick, os_bin, os_un, os_fieldAddr, os_field, os_indexAddr, os_index, os_slice, os_extract, os_nilCheck, os_makeFunc, os_build, os_len, os_cap, os_convert, os_min, os_max, on_load, on_buildSlice, on_alloc, on_box, on_makeSlice, on_lookup, mn_convert, mn_bin, optP_n, on_append, on_copy, on_store, on_call, ev, updo, upd, optP_s, resP_ok, resU_ok, ↓reduceIte, Nat.reduceEqDiff, List.map_cons, List.map_nil, List.map_toArray, argU, Nat.reduceAdd, gval_slot, gslot, List.getElem?_toArray, List.getElem?_cons_zero, List.getElem?_cons_succ, Option.bind_some, Option.some.injEq, reduceCtorEq, Bool.false_eq_true, Bool.true_eq_false, Option.map_some, Option.map_none, Int.toNat_zero, Option.isNone_none, Option.isNone_some, add_zero', binV, binI, unV, fieldV, extV, idxV, indexV, sliceV, lenV, capV, convV, min2V, max2V, TY, Option.isSome_some, Bool.true_and, Bool.and_true, Nat.mul_one, Int.toNat_natCast, le0n, Flat.val, Int.reduceToNat, Int.reduceLE, Int.reduceLT, Int.cast_ofNat_Int, decide_true, add_lit, Nat.zero_add, Nat.zero_mul, Nat.one_mul, Bool.not_true, Bool.not_false, hS, hn, hmin, hle1, hue, hS2, hn2]
  refine loop_rule [0, 1, 20, 21] (σ := Nat) (fun k f w' => f 22 = .int .i64 k ∧ k ≤ fs.length ∧ Own (hpOf w1) w' 38 (f 7) (goodF m (fs.take k)) ∧ Ext w1 w') (fun k => fs.length - k) 0 (by decide +kernel) ?_ ?_
  · simp only [upd, ↓reduceIte, Nat.reduceEqDiff]
    exact ⟨rfl, Nat.zero_le _, Own.nil _ _ _, Mod.refl _⟩
  · rintro k f w' hk ⟨h22, hkl, ho, hx⟩
    simp only [List.forall_mem_cons, upd, ↓reduceIte, Nat.reduceEqDiff] at hk
    obtain ⟨e0, e1, e20, e21, _⟩ := hk
    simp only [CW_seq, CW_skip, CW_cond, CW_block, CW_loop, CW_reg, CW_draw, CW_exit, CW_ret, thenF_n, thenF_nK, thenF_r, thenF_x, blockF_n, blockF_nK, blockF_r, blockF_x, condF_t, condF_f, Rn_nil, Rn_ng, Rn_g, oneStep_g, os_move, os_assign, os_pick, os_bin, os_un, os_fieldAddr, os_field, os_indexAddr, os_index, os_slice, os_extract, os_nilCheck, os_makeFunc, os_build, os_len, os_cap, os_convert, os_min, os_max, on_load, on_buildSlice, on_alloc, on_box, on_makeSlice, on_lookup, mn_convert, mn_bin, optP_n, on_append, on_copy, on_store, on_call, ev, updo, upd, optP_s, resP_ok, resU_ok, ↓reduceIte, Nat.reduceEqDiff, List.map_cons, List.map_nil, List.map_toArray, argU, Nat.reduceAdd, gval_slot, gslot, List.getElem?_toArray, List.getElem?_cons_zero, List.getElem?_cons_succ, Option.bind_some, Option.some.injEq, reduceCtorEq, Bool.false_eq_true, Bool.true_eq_false, Option.map_some, Option.map_none, Int.toNat_zero, Option.isNone_none, Option.isNone_some, add_zero', binV, binI, unV, fieldV, extV, idxV, indexV, sliceV, lenV, capV, convV, min2V, max2V, TY, Option.isSome_some, Bool.true_and, Bool.and_true, Nat.mul_one, Int.toNat_natCast, le0n, Flat.val, Int.reduceToNat, Int.reduceLE, Int.reduceLT, Int.cast_ofNat_Int, decide_true, add_lit, Nat.zero_add, Nat.zero_mul, Nat.one_mul, Bool.not_true, Bool.not_false, h22, e21]
    refine condF_split (fun hc => ?_) (fun hc => ?_)
    · have hlt : k < fs.length := by simpa using hc
      have hin := hv2.inS hlt
      have hld := ldP hv2 (hle_ext hx) (List.getElem?_eq_getElem hlt)
      have hst := goodF_take m fs hlt
      have hgl := goodF_len m (fs.take k)
      have hgl2 : (goodF m (fs.take k)).length ≤ 40 := by rw [List.length_take] at hgl; omega
      generalize fs[k] = e at hld hst
      generalize goodF m (fs.take k) = g at ho hst hgl hgl2
      generalize hg1 : goodF m (fs.take (k + 1)) = g1 at hst
      obtain ⟨x, y⟩ := e
      simp only at hld
      obtain ⟨p1, p2⟩ := pairV w' x y
      have q0 := pair0 w' x y
      have q1 := pair1 w' x y
      have hx1 := hx.trans (Ext.alloc w' (.cells #[.int .i64 x, .int .i64 y] 38))
      have ho1 := ho.ext (Ext.alloc w' (.cells #[.int .i64 x, .int .i64 y] 38))
      have hl9 := fun w3 h => @pairLd w' w3 x y h
      generalize w'.alloc (.cells #[.int .i64 x, .int .i64 y] 38) = w2 at *
      have gS := ho.isS
      have gn := ho.vlen
      generalize hu7 : f 7 = u7 at *
      rcases bad_cases m x y with ⟨d1, hb⟩ | ⟨d1, d2, hb⟩ | ⟨d1, d2, d3, hb⟩ | ⟨d1, d2, d3, d4, hb⟩ | ⟨d1, d2, d3, d4, hb⟩
      case' inl => simp only [CW_seq, CW_skip, CW_cond, CW_block, CW_loop, CW_reg, CW_draw, CW_exit, CW_ret, thenF_n, thenF_nK, thenF_r, thenF_x, blockF_n, blockF_nK, blockF_r, blockF_x, condF_t, condF_f, Rn_nil, Rn_ng, Rn_g, oneStep_g, os_move, os_assign, os_pick, os_bin, os_un, os_fieldAddr, os_field, os_indexAddr, os_index, os_slice, os_extract, os_nilCheck, os_makeFunc, os_build, os_len, os_cap, os_convert, os_min, os_max, on_load, on_buildSlice, on_alloc, on_box, on_makeSlice, on_lookup, mn_convert, mn_bin, optP_n, on_append, on_copy, on_store, on_call, ev, updo, upd, optP_s, resP_ok, resU_ok, ↓reduceIte, Nat.reduceEqDiff, List.map_cons, List.map_nil, List.map_toArray, argU, Nat.reduceAdd, gval_slot, gslot, List.getElem?_toArray, List.getElem?_cons_zero, List.getElem?_cons_succ, Option.bind_some, Option.some.injEq, reduceCtorEq, Bool.false_eq_true, Bool.true_eq_false, Option.map_some, Option.map_none, Int.toNat_zero, Option.isNone_none, Option.isNone_some, add_zero', binV, binI, unV, fieldV, extV, idxV, indexV, sliceV, lenV, capV, convV, min2V, max2V, TY, Option.isSome_some, Bool.true_and, Bool.and_true, Nat.mul_one, Int.toNat_natCast, le0n, Flat.val, Int.reduceToNat, Int.reduceLE, Int.reduceLT, Int.cast_ofNat_Int, decide_true, add_lit, Nat.zero_add, Nat.zero_mul, Nat.one_mul, Bool.not_true, Bool.not_false, h22, e0, e1, e20, e21, hu7, hin, hld, p1, p2, q0, q1, d1, gS, gn]
      case' inr.inl => simp only [CW_seq, CW_skip, CW_cond, CW_block, CW_loop, CW_reg, CW_draw, CW_exit, CW_ret, thenF_n, thenF_nK, thenF_r, thenF_x, blockF_n, blockF_nK, blockF_r, blockF_x, condF_t, condF_f, Rn_nil, Rn_ng, Rn_g, oneStep_g, os_move, os_assign, os_pick, os_bin, os_un, os_fieldAddr, os_field, os_indexAddr, os_index, os_slice, os_extract, os_nilCheck, os_makeFunc, os_build, os_len, os_cap, os_convert, os_min, os_max, on_load, on_buildSlice, on_alloc, on_box, on_makeSlice, on_lookup, mn_convert, mn_bin, optP_n, on_append, on_copy, on_store, on_call, ev, updo, upd, optP_s, resP_ok, resU_ok, ↓reduceIte, Nat.reduceEqDiff, List.map_cons, List.map_nil, List.map_toArray, argU, Nat.reduceAdd, gval_slot, gslot, List.getElem?_toArray, List.getElem?_cons_zero, List.getElem?_cons_succ, Option.bind_some, Option.some.injEq, reduceCtorEq, Bool.false_eq_true, Bool.true_eq_false, Option.map_some, Option.map_none, Int.toNat_zero, Option.isNone_none, Option.isNone_some, add_zero', binV, binI, unV, fieldV, extV, idxV, indexV, sliceV, lenV, capV, convV, min2V, max2V, TY, Option.isSome_some, Bool.true_and, Bool.and_true, Nat.mul_one, Int.toNat_natCast, le0n, Flat.val, Int.reduceToNat, Int.reduceLE, Int.reduceLT, Int.cast_ofNat_Int, decide_true, add_lit, Nat.zero_add, Nat.zero_mul, Nat.one_mul, Bool.not_true, Bool.not_false, h22, e0, e1, e20, e21, hu7, hin, hld, p1, p2, q0, q1, d1, d2, gS, gn]
      case' inr.inr.inl => simp only [CW_seq, CW_skip, CW_cond, CW_block, CW_loop, CW_reg, CW_draw, CW_exit, CW_ret, thenF_n, thenF_nK, thenF_r, thenF_x, blockF_n, blockF_nK, blockF_r, blockF_x, condF_t, condF_f, Rn_nil, Rn_ng, Rn_g, oneStep_g, os_move, os_assign, os_pick, os_bin, os_un, os_fieldAddr, os_field, os_indexAddr, os_index, os_slice, os_extract, os_nilCheck, os_makeFunc, os_build, os_len, os_cap, os_convert, os_min, os_max, on_load, on_buildSlice, on_alloc, on_box, on_makeSlice, on_lookup, mn_convert, mn_bin, optP_n, on_append, on_copy, on_store, on_call, ev, updo, upd, optP_s, resP_ok, resU_ok, ↓reduceIte, Nat.reduceEqDiff, List.map_cons, List.map_nil, List.map_toArray, argU, Nat.reduceAdd, gval_slot, gslot, List.getElem?_toArray, List.getElem?_cons_zero, List.getElem?_cons_succ, Option.bind_some, Option.some.injEq, reduceCtorEq, Bool.false_eq_true, Bool.true_eq_false, Option.map_some, Option.map_none, Int.toNat_zero, Option.isNone_none, Option.isNone_some, add_zero', binV, binI, unV, fieldV, extV, idxV, indexV, sliceV, lenV, capV, convV, min2V, max2V, TY, Option.isSome_some, Bool.true_and, Bool.and_true, Nat.mul_one, Int.toNat_natCast, le0n, Flat.val, Int.reduceToNat, Int.reduceLE, Int.reduceLT, Int.cast_ofNat_Int, decide_true, add_lit, Nat.zero_add, Nat.zero_mul, Nat.one_mul, Bool.not_true, Bool.not_false, h22, e0, e1, e20, e21, hu7, hin, hld, p1, p2, q0, q1, d1, d2, d3, gS, gn]
      case' inr.inr.inr.inl => simp only [CW_seq, CW_skip, CW_cond, CW_block, CW_loop, CW_reg, CW_draw, CW_exit, CW_ret, thenF_n, thenF_nK, thenF_r, thenF_x, blockF_n, blockF_nK, blockF_r, blockF_x, condF_t, condF_f, Rn_nil, Rn_ng, Rn_g, oneStep_g, os_move, os_assign, os_pick, os_bin, os_un, os_fieldAddr, os_field, os_indexAddr, os_index, os_slice, os_extract, os_nilCheck, os_makeFunc, os_build, os_len, os_cap, os_convert, os_min, os_max, on_load, on_buildSlice, on_alloc, on_box, on_makeSlice, on_lookup, mn_convert, mn_bin, optP_n, on_append, on_copy, on_store, on_call, ev, updo, upd, optP_s, resP_ok, resU_ok, ↓reduceIte, Nat.reduceEqDiff, List.map_cons, List.map_nil, List.map_toArray, argU, Nat.reduceAdd, gval_slot, gslot, List.getElem?_toArray, List.getElem?_cons_zero, List.getElem?_cons_succ, Option.bind_some, Option.some.injEq, reduceCtorEq, Bool.false_eq_true, Bool.true_eq_false, Option.map_some, Option.map_none, Int.toNat_zero, Option.isNone_none, Option.isNone_some, add_zero', binV, binI, unV, fieldV, extV, idxV, indexV, sliceV, lenV, capV, convV, min2V, max2V, TY, Option.isSome_some, Bool.true_and, Bool.and_true, Nat.mul_one, Int.toNat_natCast, le0n, Flat.val, Int.reduceToNat, Int.reduceLE, Int.reduceLT, Int.cast_ofNat_Int, decide_true, add_lit, Nat.zero_add, Nat.zero_mul, Nat.one_mul, Bool.not_true, Bool.not_false, h22, e0, e1, e20, e21, hu7, hin, hld, p1, p2, q0, q1, d1, d2, d3, d4, gS, gn]
      case' inr.inr.inr.inr => simp only [CW_seq, CW_skip, CW_cond, CW_block, CW_loop, CW_reg, CW_draw, CW_exit, CW_ret, thenF_n, thenF_nK, thenF_r, thenF_x, blockF_n, blockF_nK, blockF_r, blockF_x, condF_t, condF_f, Rn_nil, Rn_ng, Rn_g, oneStep_g, os_move, os_assign, os_pick, os_bin, os_un, os_fieldAddr, os_field, os_indexAddr, os_index, os_slice, os_extract, os_nilCheck, os_makeFunc, os_build, os_len, os_cap, os_convert, os_min, os_max, on_load, on_buildSlice, on_alloc, on_box, on_makeSlice, on_lookup, mn_convert, mn_bin, optP_n, on_append, on_copy, on_store, on_call, ev, updo, upd, optP_s, resP_ok, resU_ok, ↓reduceIte, Nat.reduceEqDiff, List.map_cons, List.map_nil, List.map_toArray, argU, Nat.reduceAdd, gval_slot, gslot, List.getElem?_toArray, List.getElem?_cons_zero, List.getElem?_cons_succ, Option.bind_some, Option.some.injEq, reduceCtorEq, Bool.false_eq_true, Bool.true_eq_false, Option.map_some, Option.map_none, Int.toNat_zero, Option.isNone_none, Option.isNone_some, add_zero', binV, binI, unV, fieldV, extV, idxV, indexV, sliceV, lenV, capV, convV, min2V, max2V, TY, Option.isSome_some, Bool.true_and, Bool.and_true, Nat.mul_one, Int.toNat_natCast, le0n, Flat.val, Int.reduceToNat, Int.reduceLE, Int.reduceLT, Int.cast_ofNat_Int, decide_true, add_lit, Nat.zero_add, Nat.zero_mul, Nat.one_mul, Bool.not_true, Bool.not_false, h22, e0, e1, e20, e21, hu7, hin, hld, p1, p2, q0, q1, d1, d2, d3, d4, gS, gn]
      all_goals
        refine loop_rule [0, 1, 7, 9, 20, 21, 22, 46, 47] (σ := Nat) (fun j f w4 => f 48 = .int .i64 j ∧ j ≤ g.length ∧ f 10 = .bool (badE m (x, y) || (g.take j).contains (x, y)) ∧ Ext w2 w4) (fun j => g.length - j) 0 (by decide +kernel) ?_ ?_
        · simp only [upd, ↓reduceIte, Nat.reduceEqDiff]
          exact ⟨rfl, Nat.zero_le _, by rw [hb]; rfl, Mod.refl _⟩
        · rintro j f w4 hk ⟨i48, hjl, i10, hx4⟩
          simp only [List.forall_mem_cons, upd, ↓reduceIte, Nat.reduceEqDiff] at hk
          simp only [hu7, e0, e1, e20, e21, h22] at hk
          obtain ⟨i0, i1, i7, i9, i20, i21, i22, i46, i47, _⟩ := hk
          have ho4 := ho1.ext hx4
          have hx14 := hx1.trans hx4
          have hg4 := ho4.rw_ (hle_ext hx14)
          simp only [CW_seq, CW_skip, CW_cond, CW_block, CW_loop, CW_reg, CW_draw, CW_exit, CW_ret, thenF_n, thenF_nK, thenF_r, thenF_x, blockF_n, blockF_nK, blockF_r, blockF_x, condF_t, condF_f, Rn_nil, Rn_ng, Rn_g, oneStep_g, os_move, os_assign, os_pick, os_bin, os_un, os_fieldAddr, os_field, os_indexAddr, os_index, os_slice, os_extract, os_nilCheck, os_makeFunc, os_build, os_len, os_cap, os_convert, os_min, os_max, on_load, on_buildSlice, on_alloc, on_box, on_makeSlice, on_lookup, mn_convert, mn_bin, optP_n, on_append, on_copy, on_store, on_call, ev, updo, upd, optP_s, resP_ok, resU_ok, ↓reduceIte, Nat.reduceEqDiff, List.map_cons, List.map_nil, List.map_toArray, argU, Nat.reduceAdd, gval_slot, gslot, List.getElem?_toArray, List.getElem?_cons_zero, List.getElem?_cons_succ, Option.bind_some, Option.some.injEq, reduceCtorEq, Bool.false_eq_true, Bool.true_eq_false, Option.map_some, Option.map_none, Int.toNat_zero, Option.isNone_none, Option.isNone_some, add_zero', binV, binI, unV, fieldV, extV, idxV, indexV, sliceV, lenV, capV, convV, min2V, max2V, TY, Option.isSome_some, Bool.true_and, Bool.and_true, Nat.mul_one, Int.toNat_natCast, le0n, Flat.val, Int.reduceToNat, Int.reduceLE, Int.reduceLT, Int.cast_ofNat_Int, decide_true, add_lit, Nat.zero_add, Nat.zero_mul, Nat.one_mul, Bool.not_true, Bool.not_false, i48, i47]
          refine condF_split (fun hc => ?_) (fun hc => ?_)
          · have hjt : j < g.length := by simpa using hc
            have hin4 := hg4.inS hjt
            have hld4 := ldP hg4 (hle_refl _) (List.getElem?_eq_getElem hjt)
            have htk4 := contains_take (x, y) hjt
            generalize g[j] = e at hld4 htk4
            obtain ⟨x4, y4⟩ := e
            simp only at hld4
            obtain ⟨p3, p4⟩ := pairV w4 x4 y4
            have hl5 := pairLd (w := w4) (a := x4) (b := y4) (Mod.refl _)
            have hx5 := hx4.trans (Ext.alloc w4 (.cells #[.int .i64 x4, .int .i64 y4] 38))
            generalize w4.alloc (.cells #[.int .i64 x4, .int .i64 y4] 38) = w5 at *
            have hl6 := hl9 w5 hx5
            have heq := fun a b => eqPair w5 a b x4 y4 x y
            rw [hb] at i10 ⊢
            generalize hold : (g.take j).contains (x, y) = old at i10 htk4
            cases old
            · simp only [Bool.false_or, Bool.or_false, Bool.true_or] at i10 htk4
              simp only [CW_seq, CW_skip, CW_cond, CW_block, CW_loop, CW_reg, CW_draw, CW_exit, CW_ret, thenF_n, thenF_nK, thenF_r, thenF_x, blockF_n, blockF_nK, blockF_r, blockF_x, condF_t, condF_f, Rn_nil, Rn_ng, Rn_g, oneStep_g, os_move, os_assign, os_pick, os_bin, os_un, os_fieldAddr, os_field, os_indexAddr, os_index, os_slice, os_extract, os_nilCheck, os_makeFunc, os_build, os_len, os_cap, os_convert, os_min, os_max, on_load, on_buildSlice, on_alloc, on_box, on_makeSlice, on_lookup, mn_convert, mn_bin, optP_n, on_append, on_copy, on_store, on_call, ev, updo, upd, optP_s, resP_ok, resU_ok, ↓reduceIte, Nat.reduceEqDiff, List.map_cons, List.map_nil, List.map_toArray, argU, Nat.reduceAdd, gval_slot, gslot, List.getElem?_toArray, List.getElem?_cons_zero, List.getElem?_cons_succ, Option.bind_some, Option.some.injEq, reduceCtorEq, Bool.false_eq_true, Bool.true_eq_false, Option.map_some, Option.map_none, Int.toNat_zero, Option.isNone_none, Option.isNone_some, add_zero', binV, binI, unV, fieldV, extV, idxV, indexV, sliceV, lenV, capV, convV, min2V, max2V, TY, Option.isSome_some, Bool.true_and, Bool.and_true, Nat.mul_one, Int.toNat_natCast, le0n, Flat.val, Int.reduceToNat, Int.reduceLE, Int.reduceLT, Int.cast_ofNat_Int, decide_true, add_lit, Nat.zero_add, Nat.zero_mul, Nat.one_mul, Bool.not_true, Bool.not_false, i48, i46, i9, i10, hin4, hld4, p3, p4, hl5, hl6, heq]
              refine ⟨j + 1, by omega, by rw [i64s j (by omega)], by omega, ?_, hx5⟩
              simp only [htk4, Bool.false_or, Bool.true_or]
            · simp only [Bool.true_or, Bool.or_true] at i10 htk4
              simp only [CW_seq, CW_skip, CW_cond, CW_block, CW_loop, CW_reg, CW_draw, CW_exit, CW_ret, thenF_n, thenF_nK, thenF_r, thenF_x, blockF_n, blockF_nK, blockF_r, blockF_x, condF_t, condF_f, Rn_nil, Rn_ng, Rn_g, oneStep_g, os_move, os_assign, os_pick, os_bin, os_un, os_fieldAddr, os_field, os_indexAddr, os_index, os_slice, os_extract, os_nilCheck, os_makeFunc, os_build, os_len, os_cap, os_convert, os_min, os_max, on_load, on_buildSlice, on_alloc, on_box, on_makeSlice, on_lookup, mn_convert, mn_bin, optP_n, on_append, on_copy, on_store, on_call, ev, updo, upd, optP_s, resP_ok, resU_ok, ↓reduceIte, Nat.reduceEqDiff, List.map_cons, List.map_nil, List.map_toArray, argU, Nat.reduceAdd, gval_slot, gslot, List.getElem?_toArray, List.getElem?_cons_zero, List.getElem?_cons_succ, Option.bind_some, Option.some.injEq, reduceCtorEq, Bool.false_eq_true, Bool.true_eq_false, Option.map_some, Option.map_none, Int.toNat_zero, Option.isNone_none, Option.isNone_some, add_zero', binV, binI, unV, fieldV, extV, idxV, indexV, sliceV, lenV, capV, convV, min2V, max2V, TY, Option.isSome_some, Bool.true_and, Bool.and_true, Nat.mul_one, Int.toNat_natCast, le0n, Flat.val, Int.reduceToNat, Int.reduceLE, Int.reduceLT, Int.cast_ofNat_Int, decide_true, add_lit, Nat.zero_add, Nat.zero_mul, Nat.one_mul, Bool.not_true, Bool.not_false, i48, i46, i9, i10, hin4, hld4, p3, p4]
              refine ⟨j + 1, by omega, by rw [i64s j (by omega)], by omega, ?_, hx5⟩
              simp only [htk4, Bool.true_or, Bool.or_true]
          · have hge : j = g.length := by simp at hc; omega
            subst hge
            rw [List.take_length] at i10
            generalize hold : (badE m (x, y) || g.contains (x, y)) = old at i10
            have hst' := hst
            unfold goodS at hst'
            rw [hold] at hst'
            have hl6 := hl9 w4 hx4
            cases old
            · obtain ⟨r1, u', w6, r2, r3, r4, r5⟩ := push (e := 22) sokP rfl ho4 (x := .agg #[.int .i64 x, .int .i64 y]) (y := (x, y)) (enc_pair _ _ _) (by omega) (by omega) (hle_ext hx14)
              simp only [Value.cells] at r1 r2
              simp only [CW_seq, CW_skip, CW_cond, CW_block, CW_loop, CW_reg, CW_draw, CW_exit, CW_ret, thenF_n, thenF_nK, thenF_r, thenF_x, blockF_n, blockF_nK, blockF_r, blockF_x, condF_t, condF_f, Rn_nil, Rn_ng, Rn_g, oneStep_g, os_move, os_assign, os_pick, os_bin, os_un, os_fieldAddr, os_field, os_indexAddr, os_index, os_slice, os_extract, os_nilCheck, os_makeFunc, os_build, os_len, os_cap, os_convert, os_min, os_max, on_load, on_buildSlice, on_alloc, on_box, on_makeSlice, on_lookup, mn_convert, mn_bin, optP_n, on_append, on_copy, on_store, on_call, ev, updo, upd, optP_s, resP_ok, resU_ok, ↓reduceIte, Nat.reduceEqDiff, List.map_cons, List.map_nil, List.map_toArray, argU, Nat.reduceAdd, gval_slot, gslot, List.getElem?_toArray, List.getElem?_cons_zero, List.getElem?_cons_succ, Option.bind_some, Option.some.injEq, reduceCtorEq, Bool.false_eq_true, Bool.true_eq_false, Option.map_some, Option.map_none, Int.toNat_zero, Option.isNone_none, Option.isNone_some, add_zero', binV, binI, unV, fieldV, extV, idxV, indexV, sliceV, lenV, capV, convV, min2V, max2V, TY, Option.isSome_some, Bool.true_and, Bool.and_true, Nat.mul_one, Int.toNat_natCast, le0n, Flat.val, Int.reduceToNat, Int.reduceLE, Int.reduceLT, Int.cast_ofNat_Int, decide_true, add_lit, Nat.zero_add, Nat.zero_mul, Nat.one_mul, Bool.not_true, Bool.not_false, i10, i7, i9, i22, hl6, r1, r2, Value.cells]
              refine ⟨k + 1, by omega, by rw [i64s k (by omega)], by omega, ?_, ho4.ext2 hx14 r4⟩
              rw [hg1, hst']
              exact r3
            · simp only [CW_seq, CW_skip, CW_cond, CW_block, CW_loop, CW_reg, CW_draw, CW_exit, CW_ret, thenF_n, thenF_nK, thenF_r, thenF_x, blockF_n, blockF_nK, blockF_r, blockF_x, condF_t, condF_f, Rn_nil, Rn_ng, Rn_g, oneStep_g, os_move, os_assign, os_pick, os_bin, os_un, os_fieldAddr, os_field, os_indexAddr, os_index, os_slice, os_extract, os_nilCheck, os_makeFunc, os_build, os_len, os_cap, os_convert, os_min, os_max, on_load, on_buildSlice, on_alloc, on_box, on_makeSlice, on_lookup, mn_convert, mn_bin, optP_n, on_append, on_copy, on_store, on_call, ev, updo, upd, optP_s, resP_ok, resU_ok, ↓reduceIte, Nat.reduceEqDiff, List.map_cons, List.map_nil, List.map_toArray, argU, Nat.reduceAdd, gval_slot, gslot, List.getElem?_toArray, List.getElem?_cons_zero, List.getElem?_cons_succ, Option.bind_some, Option.some.injEq, reduceCtorEq, Bool.false_eq_true, Bool.true_eq_false, Option.map_some, Option.map_none, Int.toNat_zero, Option.isNone_none, Option.isNone_some, add_zero', binV, binI, unV, fieldV, extV, idxV, indexV, sliceV, lenV, capV, convV, min2V, max2V, TY, Option.isSome_some, Bool.true_and, Bool.and_true, Nat.mul_one, Int.toNat_natCast, le0n, Flat.val, Int.reduceToNat, Int.reduceLE, Int.reduceLT, Int.cast_ofNat_Int, decide_true, add_lit, Nat.zero_add, Nat.zero_mul, Nat.one_mul, Bool.not_true, Bool.not_false, i10, i22]
              refine ⟨k + 1, by omega, by rw [i64s k (by omega)], by omega, ?_, hx14⟩
              rw [hg1, hst', i7]
              exact ho4
    · have hge : k = fs.length := by simp at hc; omega
      subst hge
      rw [List.take_length] at ho
      simp only [CW_seq, CW_skip, CW_cond, CW_block, CW_loop, CW_reg, CW_draw, CW_exit, CW_ret, thenF_n, thenF_nK, thenF_r, thenF_x, blockF_n, blockF_nK, blockF_r, blockF_x, condF_t, condF_f, Rn_nil, Rn_ng, Rn_g, oneStep_g, os_move, os_assign, os_pick, os_bin, os_un, os_fieldAddr, os_field, os_indexAddr, os_index, os_slice, os_extract, os_nilCheck, os_makeFunc, os_build, os_len, os_cap, os_convert, os_min, os_max, on_load, on_buildSlice, on_alloc, on_box, on_makeSlice, on_lookup, mn_convert, mn_bin, optP_n, on_append, on_copy, on_store, on_call, ev, updo, upd, optP_s, resP_ok, resU_ok, ↓reduceIte, Nat.reduceEqDiff, List.map_cons, List.map_nil, List.map_toArray, argU, Nat.reduceAdd, gval_slot, gslot, List.getElem?_toArray, List.getElem?_cons_zero, List.getElem?_cons_succ, Option.bind_some, Option.some.injEq, reduceCtorEq, Bool.false_eq_true, Bool.true_eq_false, Option.map_some, Option.map_none, Int.toNat_zero, Option.isNone_none, Option.isNone_some, add_zero', binV, binI, unV, fieldV, extV, idxV, indexV, sliceV, lenV, capV, convV, min2V, max2V, TY, Option.isSome_some, Bool.true_and, Bool.and_true, Nat.mul_one, Int.toNat_natCast, le0n, Flat.val, Int.reduceToNat, Int.reduceLE, Int.reduceLT, Int.cast_ofNat_Int, decide_true, add_lit, Nat.zero_add, Nat.zero_mul, Nat.one_mul, Bool.not_true, Bool.not_false, e0, e1]
      refine retq3 Try.results25 ?_
      simp only [upd, ↓reduceIte, Nat.reduceEqDiff]
      exact ⟨⟨_, _, rfl, hv2, ho⟩, hx⟩
theorem cut_facts {α : Type} [Rep α] {h : Hp} {v : Value} {xs : List α} (hr : R h v xs) (c : Nat) :
    ∃ (k : Nat) (u : Value), (if (c : Int) < (xs.length : Int) then (c : Int) else (xs.length : Int)) = (k : Int) ∧ decide ((k : Int) ≤ (vcap v : Int)) = true ∧ reS v 0 k (Rep.sz α) = u ∧ R h u (xs.take c) := by
  have hcap := hr.vcap
  have h2 := hr.pre (k := min xs.length c) (by omega)
  have htk : xs.take (min xs.length c) = xs.take c := by
    rcases Nat.le_total xs.length c with h | h
    · rw [Nat.min_eq_left h, List.take_length, List.take_of_length_le h]
    · rw [Nat.min_eq_right h]
  rw [htk] at h2
  exact ⟨min xs.length c, _, by split <;> omega, by simp; omega, rfl, h2⟩

theorem buildPair (a b : Int) : buildV Try.prog 38 [(0, .int .i64 a), (1, .int .i64 b)] = some (.agg #[.int .i64 a, .int .i64 b]) := by
  simp [buildV, tyM38, fillL, Instr.fill, Value.cells]
theorem rows1e9 {n : Nat} {nx : List (List Int)} (hg : GoodRows n nx) (hn : n ≤ 1000000000) : ∀ x ∈ nx, x.length ≤ 1000000000 := fun x hx => Nat.le_trans (hg.row_len hx) hn

end Go.Proofs.Ytldmnnloakpjlaa
