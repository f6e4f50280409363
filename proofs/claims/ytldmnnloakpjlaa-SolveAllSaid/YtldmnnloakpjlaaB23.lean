/- Contract: solve.Of. -/
import Derived.Test.YtldmnnloakpjlaaB22
set_option linter.unusedSimpArgs false
set_option linter.unusedVariables false
set_option maxRecDepth 100000
namespace Go.Proofs.Ytldmnnloakpjlaa
open Go

structure OfOk (n : Int) (steps : List (Int × Int)) (gl kl : List (List Int)) (most : Int) : Prop where
  n0 : 0 ≤ n
  n5 : n ≤ 5000
  m0 : 0 ≤ most
  m5 : most ≤ 5000
  gn : (gl.length : Int) = n
  kn : (kl.length : Int) = n
  st : ∀ s ∈ steps, validE n.toNat s
  gf : factsOk gl most.toNat
  kf : factsOk kl most.toNat
structure SolOk (nx gl kl : List (List Int)) (most : Nat) (sol : List (List Int)) (T : Nat) : Prop where
  len : sol.length = nx.length
  row : ∀ b, okN nx.length b = true → ∃ f : Nat → Bool, rowF sol b = ((List.range most).filter f).map (fun (i : Nat) => (i : Int)) ∧ ∀ i, f i = true ↔ Comes nx gl kl b i
  lo : nx.length ≤ T
  hi : T ≤ nx.length + nx.length * most

theorem retqct {P : Program} {fn : Func} {R : Value → World → Prop} {f : Fr} {w : World} {v : Value} {a t : Nat} {ty : TypeId} {ad : Addr} (h : fn.results = #[.cell a ty, .tmp t]) (hf : f a = .pointer (some ad)) (hl : (Instr.loadAt ty (.pointer (some ad))).run P w = .ok v w) (hR : R (.tuple #[v, f t]) w) : RetQ P fn R .ret f w := by
  refine ⟨[v, f t], ?_, hR⟩
  rw [h]
  refine ⟨?_, rfl, trivial⟩
  show (do loadVar ty (← asAddr (f a)) : Sem Value).run P w = .ok v w
  rw [hf]
  exact hl
theorem retqctn {P : Program} {fn : Func} {R : Value → World → Prop} {f : Fr} {w : World} {v : Value} {a t : Nat} {ty : TypeId} {ad : Addr} (h : fn.results = #[.cell a ty, .tmp t]) (hf : f a = .pointer (some ad)) (hl : (Instr.loadAt ty (.pointer (some ad))).run P w = .ok v w) (hR : R (.tuple #[v, f t]) w) : RetQ P fn R .normal f w := by
  refine ⟨[v, f t], ?_, hR⟩
  rw [h]
  refine ⟨?_, rfl, trivial⟩
  show (do loadVar ty (← asAddr (f a)) : Sem Value).run P w = .ok v w
  rw [hf]
  exact hl
theorem build_sol : buildV Try.prog 27 [] = some (.agg #[.slice none 0 0, .int .i64 0]) := by
  have h : zeroT Try.prog 27 = some (.agg #[.slice none 0 0, .int .i64 0]) := tyZ27
  first
  | (simp [buildV, tyM27, fillL, Instr.fill, h]; done)
  | rfl
theorem of_cases (n most : Int) (gl kl : Nat) :
    (decide (n < 0) = true ∧ n < 0) ∨ (decide (n < 0) = false ∧ decide (n > 5000) = true ∧ n > 5000) ∨
    (decide (n < 0) = false ∧ decide (n > 5000) = false ∧ decide (most < 0) = true ∧ most < 0) ∨ (decide (n < 0) = false ∧ decide (n > 5000) = false ∧ decide (most < 0) = false ∧ decide (most > 5000) = true ∧ most > 5000) ∨
    (decide (n < 0) = false ∧ decide (n > 5000) = false ∧ decide (most < 0) = false ∧ decide (most > 5000) = false ∧ ((gl : Int) != n) = true ∧ (gl : Int) ≠ n) ∨
    (decide (n < 0) = false ∧ decide (n > 5000) = false ∧ decide (most < 0) = false ∧ decide (most > 5000) = false ∧ ((gl : Int) != n) = false ∧ ((kl : Int) != n) = true ∧ (kl : Int) ≠ n) ∨
    (decide (n < 0) = false ∧ decide (n > 5000) = false ∧ decide (most < 0) = false ∧ decide (most > 5000) = false ∧ ((gl : Int) != n) = false ∧ ((kl : Int) != n) = false ∧ 0 ≤ n ∧ n ≤ 5000 ∧ 0 ≤ most ∧ most ≤ 5000 ∧ (gl : Int) = n ∧ (kl : Int) = n) := by
  by_cases h1 : n < 0
  · exact .inl ⟨by simpa using h1, h1⟩
  · have e1 : decide (n < 0) = false := by simpa using h1
    by_cases h2 : n > 5000
    · exact .inr (.inl ⟨e1, by simpa using h2, h2⟩)
    · have e2 : decide (n > 5000) = false := by simpa using h2
      by_cases h3 : most < 0
      · exact .inr (.inr (.inl ⟨e1, e2, by simpa using h3, h3⟩))
      · have e3 : decide (most < 0) = false := by simpa using h3
        by_cases h4 : most > 5000
        · exact .inr (.inr (.inr (.inl ⟨e1, e2, e3, by simpa using h4, h4⟩)))
        · have e4 : decide (most > 5000) = false := by simpa using h4
          by_cases h5 : (gl : Int) = n
          · have e5 : ((gl : Int) != n) = false := by simpa using h5
            by_cases h6 : (kl : Int) = n
            · exact .inr (.inr (.inr (.inr (.inr (.inr ⟨e1, e2, e3, e4, e5, by simpa using h6, by omega, by omega, by omega, by omega, h5, h6⟩)))))
            · exact .inr (.inr (.inr (.inr (.inr (.inl ⟨e1, e2, e3, e4, e5, by simpa using h6, h6⟩)))))
          · exact .inr (.inr (.inr (.inr (.inl ⟨e1, e2, e3, e4, by simpa using h5, h5⟩))))

theorem of_any (n most : Int) (v vg vk : Value) (steps : List (Int × Int)) (gl kl : List (List Int)) (w : World) (hv : R (hpOf w) v steps) (hvg : R (hpOf w) vg gl) (hvk : R (hpOf w) vk kl) (hsl : steps.length ≤ 1000000)
    (hgl : ∀ x ∈ gl, x.length ≤ 1000000000) (hkl : ∀ x ∈ kl, x.length ≤ 1000000000) :
    Calls Try.prog 16 #[.int .i64 n, v, vg, vk, .int .i64 most] w fun e w' => ∃ u, e = .returned u ∧ ((∃ vs ok, u = .tuple #[vs, .bool ok] ∧
      (ok = true → OfOk n steps gl kl most ∧ ∃ vi sol T, vs = .agg #[vi, .int .i64 (T : Nat)] ∧ R (hpNo w' (fun b => b < w.heap.size)) vi sol ∧ SolOk (newF n.toNat steps).1 gl kl most.toNat sol T) ∧
      (ok = false → ¬ OfOk n steps gl kl most ∧ vs = .agg #[.slice none 0 0, .int .i64 0])) ∧ Ext w w') := by
  refine calls_of_CW (args := [.int .i64 n, v, vg, vk, .int .i64 most]) hm Try.func16 rfl (by kernel_rfl) (by show 5 ≤ _; decide +kernel) ?_
  have hal := alloc_sol
  have hbs := build_sol
  have hSg := hvg.isS
  have hng := hvg.vlen
  have hSk := hvk.isS
  have hnk := hvk.vlen
  have hS := hv.isS
  have hvn := hv.vlen
  have c1 : (w.alloc (.cells #[.slice none 0 0, .int .i64 0] 27)).heap[w.heap.size]? = some (.cells #[.slice none 0 0, .int .i64 0] 27 (0, 0)) := heap_alloc_new w _
  have x1 := Ext.alloc w (.cells #[.slice none 0 0, .int .i64 0] 27)
  generalize hw1 : w.alloc (.cells #[.slice none 0 0, .int .i64 0] 27) = w1 at *
  have hal1 := hal w
  rw [hw1] at hal1
  have hfr : w.heap.size ≤ w.heap.size := Nat.le_refl _
  generalize hrb : w.heap.size = rb at c1 hal1
  have hrl : rb < w1.heap.size := (Array.getElem?_eq_some_iff.1 c1).1
  -- the empty answer
  have early : ∀ w2, Ext w w2 → w2.heap[rb]? = some (.cells #[.slice none 0 0, .int .i64 0] 27 (0, 0)) → ∃ w3, (Instr.storeAt 27 (.pointer (some ⟨rb, 0, none⟩)) (.agg #[.slice none 0 0, .int .i64 0])).run Try.prog w2 = .ok () w3 ∧ Ext w w3 ∧
      (Instr.loadAt 27 (.pointer (some ⟨rb, 0, none⟩))).run Try.prog w3 = .ok (.agg #[.slice none 0 0, .int .i64 0]) w3 := by
    intro w2 hx2 hc2
    obtain ⟨w3, t1, t2, t3⟩ := blk_sta (P := Try.prog) hc2 tyZ27 (by rw [tyS27]; rfl) (cs := #[.slice none 0 0, .int .i64 0]) (by rw [tyS27]; rfl) (by simp [Value.oneCell'])
    exact ⟨w3, t1, Mod.ext_of hx2 t3 fun b hb => by subst hb; omega, blk_lda (P := Try.prog) t2 tyG27 tyU27 tyI27 (by rw [tyS27]; rfl)⟩
  obtain ⟨w3, e1, e2, e3⟩ := early w1 x1 c1
  rcases of_cases n most gl.length kl.length with ⟨d1, hb⟩ | ⟨d1, d2, hb⟩ | ⟨d1, d2, d3, hb⟩ | ⟨d1, d2, d3, d4, hb⟩ | ⟨d1, d2, d3, d4, d5, hb⟩ | ⟨d1, d2, d3, d4, d5, d6, hb⟩ | ⟨d1, d2, d3, d4, d5, d6, hn0, hn5, hm0, hm5, hgn, hkn⟩
  · simp only [CW_seq, CW_skip, CW_cond, CW_block, CW_loop, CW_reg, CW_draw, CW_exit, CW_ret, thenF_n, thenF_nK, thenF_r, thenF_x, blockF_n, blockF_nK, blockF_r, blockF_x, condF_t, condF_f, Rn_nil, Rn_ng, Rn_g, oneStep_g, os_move, os_assign, os_pick, os_bin, os_un, os_fieldAddr, os_field, os_indexAddr, os_index, os_slice, os_extract, os_nilCheck, os_makeFunc, os_build, os_len, os_cap, os_convert, os_min, os_max, on_load, on_buildSlice, on_alloc, on_box, on_makeSlice, on_lookup, mn_convert, mn_bin, optP_n, on_append, on_copy, on_store, on_call, ev, updo, upd, optP_p, resP_ok, resU_ok, ↓reduceIte, Nat.reduceEqDiff, List.map_cons, List.map_nil, List.map_toArray, argU, Nat.reduceAdd, gval_slot, gslot, List.getElem?_toArray, List.getElem?_cons_zero, List.getElem?_cons_succ, Option.bind_some, Option.some.injEq, reduceCtorEq, Bool.false_eq_true, Bool.true_eq_false, Option.map_some, Option.map_none, Int.toNat_zero, Option.isNone_none, Option.isNone_some, add_zero', binV, binI, unV, fieldV, extV, idxV, indexV, sliceV, lenV, capV, convV, min2V, max2V, TY, Option.isSome_some, Bool.true_and, Bool.and_true, Nat.mul_one, Int.toNat_natCast, le0n, Flat.val, Int.reduceToNat, Int.reduceLE, Int.reduceLT, Int.cast_ofNat_Int, decide_true, add_lit, Nat.zero_add, Nat.zero_mul, Nat.one_mul, Bool.not_true, Bool.not_false, hal1, hSg, hng, hSk, hnk, d1, hbs, e1]
    refine retqct Try.results16 (ad := ⟨rb, 0, none⟩) (by simp only [upd, ↓reduceIte, Nat.reduceEqDiff]) e3 ?_
    simp only [upd, ↓reduceIte, Nat.reduceEqDiff]
    exact ⟨⟨_, false, rfl, (fun h => (by cases h)), fun _ => ⟨fun h => by have := h.n0; omega, rfl⟩⟩, e2⟩
  · simp only [CW_seq, CW_skip, CW_cond, CW_block, CW_loop, CW_reg, CW_draw, CW_exit, CW_ret, thenF_n, thenF_nK, thenF_r, thenF_x, blockF_n, blockF_nK, blockF_r, blockF_x, condF_t, condF_f, Rn_nil, Rn_ng, Rn_g, oneStep_g, os_move, os_assign, os_pick, os_bin, os_un, os_fieldAddr, os_field, os_indexAddr, os_index, os_slice, os_extract, os_nilCheck, os_makeFunc, os_build, os_len, os_cap, os_convert, os_min, os_max, on_load, on_buildSlice, on_alloc, on_box, on_makeSlice, on_lookup, mn_convert, mn_bin, optP_n, on_append, on_copy, on_store, on_call, ev, updo, upd, optP_p, resP_ok, resU_ok, ↓reduceIte, Nat.reduceEqDiff, List.map_cons, List.map_nil, List.map_toArray, argU, Nat.reduceAdd, gval_slot, gslot, List.getElem?_toArray, List.getElem?_cons_zero, List.getElem?_cons_succ, Option.bind_some, Option.some.injEq, reduceCtorEq, Bool.false_eq_true, Bool.true_eq_false, Option.map_some, Option.map_none, Int.toNat_zero, Option.isNone_none, Option.isNone_some, add_zero', binV, binI, unV, fieldV, extV, idxV, indexV, sliceV, lenV, capV, convV, min2V, max2V, TY, Option.isSome_some, Bool.true_and, Bool.and_true, Nat.mul_one, Int.toNat_natCast, le0n, Flat.val, Int.reduceToNat, Int.reduceLE, Int.reduceLT, Int.cast_ofNat_Int, decide_true, add_lit, Nat.zero_add, Nat.zero_mul, Nat.one_mul, Bool.not_true, Bool.not_false, hal1, hSg, hng, hSk, hnk, d1, d2, hbs, e1]
    refine retqct Try.results16 (ad := ⟨rb, 0, none⟩) (by simp only [upd, ↓reduceIte, Nat.reduceEqDiff]) e3 ?_
    simp only [upd, ↓reduceIte, Nat.reduceEqDiff]
    exact ⟨⟨_, false, rfl, (fun h => (by cases h)), fun _ => ⟨fun h => by have := h.n5; omega, rfl⟩⟩, e2⟩
  · simp only [CW_seq, CW_skip, CW_cond, CW_block, CW_loop, CW_reg, CW_draw, CW_exit, CW_ret, thenF_n, thenF_nK, thenF_r, thenF_x, blockF_n, blockF_nK, blockF_r, blockF_x, condF_t, condF_f, Rn_nil, Rn_ng, Rn_g, oneStep_g, os_move, os_assign, os_pick, os_bin, os_un, os_fieldAddr, os_field, os_indexAddr, os_index, os_slice, os_extract, os_nilCheck, os_makeFunc, os_build, os_len, os_cap, os_convert, os_min, os_max, on_load, on_buildSlice, on_alloc, on_box, on_makeSlice, on_lookup, mn_convert, mn_bin, optP_n, on_append, on_copy, on_store, on_call, ev, updo, upd, optP_p, resP_ok, resU_ok, ↓reduceIte, Nat.reduceEqDiff, List.map_cons, List.map_nil, List.map_toArray, argU, Nat.reduceAdd, gval_slot, gslot, List.getElem?_toArray, List.getElem?_cons_zero, List.getElem?_cons_succ, Option.bind_some, Option.some.injEq, reduceCtorEq, Bool.false_eq_true, Bool.true_eq_false, Option.map_some, Option.map_none, Int.toNat_zero, Option.isNone_none, Option.isNone_some, add_zero', binV, binI, unV, fieldV, extV, idxV, indexV, sliceV, lenV, capV, convV, min2V, max2V, TY, Option.isSome_some, Bool.true_and, Bool.and_true, Nat.mul_one, Int.toNat_natCast, le0n, Flat.val, Int.reduceToNat, Int.reduceLE, Int.reduceLT, Int.cast_ofNat_Int, decide_true, add_lit, Nat.zero_add, Nat.zero_mul, Nat.one_mul, Bool.not_true, Bool.not_false, hal1, hSg, hng, hSk, hnk, d1, d2, d3, hbs, e1]
    refine retqct Try.results16 (ad := ⟨rb, 0, none⟩) (by simp only [upd, ↓reduceIte, Nat.reduceEqDiff]) e3 ?_
    simp only [upd, ↓reduceIte, Nat.reduceEqDiff]
    exact ⟨⟨_, false, rfl, (fun h => (by cases h)), fun _ => ⟨fun h => by have := h.m0; omega, rfl⟩⟩, e2⟩
  · simp only [CW_seq, CW_skip, CW_cond, CW_block, CW_loop, CW_reg, CW_draw, CW_exit, CW_ret, thenF_n, thenF_nK, thenF_r, thenF_x, blockF_n, blockF_nK, blockF_r, blockF_x, condF_t, condF_f, Rn_nil, Rn_ng, Rn_g, oneStep_g, os_move, os_assign, os_pick, os_bin, os_un, os_fieldAddr, os_field, os_indexAddr, os_index, os_slice, os_extract, os_nilCheck, os_makeFunc, os_build, os_len, os_cap, os_convert, os_min, os_max, on_load, on_buildSlice, on_alloc, on_box, on_makeSlice, on_lookup, mn_convert, mn_bin, optP_n, on_append, on_copy, on_store, on_call, ev, updo, upd, optP_p, resP_ok, resU_ok, ↓reduceIte, Nat.reduceEqDiff, List.map_cons, List.map_nil, List.map_toArray, argU, Nat.reduceAdd, gval_slot, gslot, List.getElem?_toArray, List.getElem?_cons_zero, List.getElem?_cons_succ, Option.bind_some, Option.some.injEq, reduceCtorEq, Bool.false_eq_true, Bool.true_eq_false, Option.map_some, Option.map_none, Int.toNat_zero, Option.isNone_none, Option.isNone_some, add_zero', binV, binI, unV, fieldV, extV, idxV, indexV, sliceV, lenV, capV, convV, min2V, max2V, TY, Option.isSome_some, Bool.true_and, Bool.and_true, Nat.mul_one, Int.toNat_natCast, le0n, Flat.val, Int.reduceToNat, Int.reduceLE, Int.reduceLT, Int.cast_ofNat_Int, decide_true, add_lit, Nat.zero_add, Nat.zero_mul, Nat.one_mul, Bool.not_true, Bool.not_false, hal1, hSg, hng, hSk, hnk, d1, d2, d3, d4, hbs, e1]
    refine retqct Try.results16 (ad := ⟨rb, 0, none⟩) (by simp only [upd, ↓reduceIte, Nat.reduceEqDiff]) e3 ?_
    simp only [upd, ↓reduceIte, Nat.reduceEqDiff]
    exact ⟨⟨_, false, rfl, (fun h => (by cases h)), fun _ => ⟨fun h => by have := h.m5; omega, rfl⟩⟩, e2⟩
  · simp only [CW_seq, CW_skip, CW_cond, CW_block, CW_loop, CW_reg, CW_draw, CW_exit, CW_ret, thenF_n, thenF_nK, thenF_r, thenF_x, blockF_n, blockF_nK, blockF_r, blockF_x, condF_t, condF_f, Rn_nil, Rn_ng, Rn_g, oneStep_g, os_move, os_assign, os_pick, os_bin, os_un, os_fieldAddr, os_field, os_indexAddr, os_index, os_slice, os_extract, os_nilCheck, os_makeFunc, os_build, os_len, os_cap, os_convert, os_min, os_max, on_load, on_buildSlice, on_alloc, on_box, on_makeSlice, on_lookup, mn_convert, mn_bin, optP_n, on_append, on_copy, on_store, on_call, ev, updo, upd, optP_p, resP_ok, resU_ok, ↓reduceIte, Nat.reduceEqDiff, List.map_cons, List.map_nil, List.map_toArray, argU, Nat.reduceAdd, gval_slot, gslot, List.getElem?_toArray, List.getElem?_cons_zero, List.getElem?_cons_succ, Option.bind_some, Option.some.injEq, reduceCtorEq, Bool.false_eq_true, Bool.true_eq_false, Option.map_some, Option.map_none, Int.toNat_zero, Option.isNone_none, Option.isNone_some, add_zero', binV, binI, unV, fieldV, extV, idxV, indexV, sliceV, lenV, capV, convV, min2V, max2V, TY, Option.isSome_some, Bool.true_and, Bool.and_true, Nat.mul_one, Int.toNat_natCast, le0n, Flat.val, Int.reduceToNat, Int.reduceLE, Int.reduceLT, Int.cast_ofNat_Int, decide_true, add_lit, Nat.zero_add, Nat.zero_mul, Nat.one_mul, Bool.not_true, Bool.not_false, hal1, hSg, hng, hSk, hnk, d1, d2, d3, d4, d5, hbs, e1]
    refine retqct Try.results16 (ad := ⟨rb, 0, none⟩) (by simp only [upd, ↓reduceIte, Nat.reduceEqDiff]) e3 ?_
    simp only [upd, ↓reduceIte, Nat.reduceEqDiff]
    exact ⟨⟨_, false, rfl, (fun h => (by cases h)), fun _ => ⟨fun h => hb h.gn, rfl⟩⟩, e2⟩
  · simp only [CW_seq, CW_skip, CW_cond, CW_block, CW_loop, CW_reg, CW_draw, CW_exit, CW_ret, thenF_n, thenF_nK, thenF_r, thenF_x, blockF_n, blockF_nK, blockF_r, blockF_x, condF_t, condF_f, Rn_nil, Rn_ng, Rn_g, oneStep_g, os_move, os_assign, os_pick, os_bin, os_un, os_fieldAddr, os_field, os_indexAddr, os_index, os_slice, os_extract, os_nilCheck, os_makeFunc, os_build, os_len, os_cap, os_convert, os_min, os_max, on_load, on_buildSlice, on_alloc, on_box, on_makeSlice, on_lookup, mn_convert, mn_bin, optP_n, on_append, on_copy, on_store, on_call, ev, updo, upd, optP_p, resP_ok, resU_ok, ↓reduceIte, Nat.reduceEqDiff, List.map_cons, List.map_nil, List.map_toArray, argU, Nat.reduceAdd, gval_slot, gslot, List.getElem?_toArray, List.getElem?_cons_zero, List.getElem?_cons_succ, Option.bind_some, Option.some.injEq, reduceCtorEq, Bool.false_eq_true, Bool.true_eq_false, Option.map_some, Option.map_none, Int.toNat_zero, Option.isNone_none, Option.isNone_some, add_zero', binV, binI, unV, fieldV, extV, idxV, indexV, sliceV, lenV, capV, convV, min2V, max2V, TY, Option.isSome_some, Bool.true_and, Bool.and_true, Nat.mul_one, Int.toNat_natCast, le0n, Flat.val, Int.reduceToNat, Int.reduceLE, Int.reduceLT, Int.cast_ofNat_Int, decide_true, add_lit, Nat.zero_add, Nat.zero_mul, Nat.one_mul, Bool.not_true, Bool.not_false, hal1, hSg, hng, hSk, hnk, d1, d2, d3, d4, d5, d6, hbs, e1]
    refine retqct Try.results16 (ad := ⟨rb, 0, none⟩) (by simp only [upd, ↓reduceIte, Nat.reduceEqDiff]) e3 ?_
    simp only [upd, ↓reduceIte, Nat.reduceEqDiff]
    exact ⟨⟨_, false, rfl, (fun h => (by cases h)), fun _ => ⟨fun h => hb h.kn, rfl⟩⟩, e2⟩
  · clear e1 e2 e3 w3
    simp only [CW_seq, CW_skip, CW_cond, CW_block, CW_loop, CW_reg, CW_draw, CW_exit, CW_ret, thenF_n, thenF_nK, thenF_r, thenF_x, blockF_n, blockF_nK, blockF_r, blockF_x, condF_t, condF_f, Rn_nil, Rn_ng, Rn_g, oneStep_g, os_move, os_assign, os_pick, os_bin, os_un, os_fieldAddr, os_field, os_indexAddr, os_index, os_slice, os_extract, os_nilCheck, os_makeFunc, os_build, os_len, os_cap, os_convert, os_min, os_max, on_load, on_buildSlice, on_alloc, on_box, on_makeSlice, on_lookup, mn_convert, mn_bin, optP_n, on_append, on_copy, on_store, on_call, ev, updo, upd, optP_p, resP_ok, resU_ok, ↓reduceIte, Nat.reduceEqDiff, List.map_cons, List.map_nil, List.map_toArray, argU, Nat.reduceAdd, gval_slot, gslot, List.getElem?_toArray, List.getElem?_cons_zero, List.getElem?_cons_succ, Option.bind_some, Option.some.injEq, reduceCtorEq, Bool.false_eq_true, Bool.true_eq_false, Option.map_some, Option.map_none, Int.toNat_zero, Option.isNone_none, Option.isNone_some, add_zero', binV, binI, unV, fieldV, extV, idxV, indexV, sliceV, lenV, capV, convV, min2V, max2V, TY, Option.isSome_some, Bool.true_and, Bool.and_true, Nat.mul_one, Int.toNat_natCast, le0n, Flat.val, Int.reduceToNat, Int.reduceLE, Int.reduceLT, Int.cast_ofNat_Int, decide_true, add_lit, Nat.zero_add, Nat.zero_mul, Nat.one_mul, Bool.not_true, Bool.not_false, hal1, hSg, hng, hSk, hnk, d1, d2, d3, d4, d5, d6, hS, hvn]
    obtain ⟨N, hN⟩ : ∃ N : Nat, n = N := ⟨n.toNat, by omega⟩
    obtain ⟨M, hM⟩ : ∃ M : Nat, most = M := ⟨most.toNat, by omega⟩
    have hNt : n.toNat = N := by omega
    have hMt : most.toNat = M := by omega
    have hbad : ∀ e : Int × Int, badE n e = false ↔ validE N e := fun e => by rw [hN]; exact badE_false
    refine loop_rule [0, 1, 2, 3, 4, 10, 45, 46] (σ := Nat) (fun k f w' => f 47 = .int .i64 k ∧ k ≤ steps.length ∧ (∀ e ∈ steps.take k, validE N e) ∧ Ext w1 w') (fun k => steps.length - k) 0 (by decide +kernel) ?_ ?_
    · simp only [upd, ↓reduceIte, Nat.reduceEqDiff]
      exact ⟨rfl, Nat.zero_le _, by simp, Mod.refl _⟩
    · rintro k f w2 hk ⟨h47, hkle, hdone, hx⟩
      simp only [List.forall_mem_cons, upd, ↓reduceIte, Nat.reduceEqDiff] at hk
      obtain ⟨e0, e1, e2, e3, e4, e10, e45, e46, _⟩ := hk
      simp only [CW_seq, CW_skip, CW_cond, CW_block, CW_loop, CW_reg, CW_draw, CW_exit, CW_ret, thenF_n, thenF_nK, thenF_r, thenF_x, blockF_n, blockF_nK, blockF_r, blockF_x, condF_t, condF_f, Rn_nil, Rn_ng, Rn_g, oneStep_g, os_move, os_assign, os_pick, os_bin, os_un, os_fieldAddr, os_field, os_indexAddr, os_index, os_slice, os_extract, os_nilCheck, os_makeFunc, os_build, os_len, os_cap, os_convert, os_min, os_max, on_load, on_buildSlice, on_alloc, on_box, on_makeSlice, on_lookup, mn_convert, mn_bin, optP_n, on_append, on_copy, on_store, on_call, ev, updo, upd, optP_p, resP_ok, resU_ok, ↓reduceIte, Nat.reduceEqDiff, List.map_cons, List.map_nil, List.map_toArray, argU, Nat.reduceAdd, gval_slot, gslot, List.getElem?_toArray, List.getElem?_cons_zero, List.getElem?_cons_succ, Option.bind_some, Option.some.injEq, reduceCtorEq, Bool.false_eq_true, Bool.true_eq_false, Option.map_some, Option.map_none, Int.toNat_zero, Option.isNone_none, Option.isNone_some, add_zero', binV, binI, unV, fieldV, extV, idxV, indexV, sliceV, lenV, capV, convV, min2V, max2V, TY, Option.isSome_some, Bool.true_and, Bool.and_true, Nat.mul_one, Int.toNat_natCast, le0n, Flat.val, Int.reduceToNat, Int.reduceLE, Int.reduceLT, Int.cast_ofNat_Int, decide_true, add_lit, Nat.zero_add, Nat.zero_mul, Nat.one_mul, Bool.not_true, Bool.not_false, h47, e46]
      refine condF_split (fun hc => ?_) (fun hc => ?_)
      · have hlt : k < steps.length := by simpa using hc
        have hin := hv.inS hlt
        have hld := ldP hv (hle_ext (x1.trans hx)) (List.getElem?_eq_getElem hlt)
        have hmem : steps[k] ∈ steps := List.getElem_mem hlt
        have htk : steps.take (k + 1) = steps.take k ++ [steps[k]] := List.take_succ_eq_append_getElem hlt
        generalize steps[k] = e at hld hmem htk
        obtain ⟨x, y⟩ := e
        simp only at hld
        obtain ⟨p1, p2⟩ := pairV w2 x y
        have q0 := pair0 w2 x y
        have q1 := pair1 w2 x y
        have hx3 := hx.trans (Ext.alloc w2 (.cells #[.int .i64 x, .int .i64 y] 38))
        generalize w2.alloc (.cells #[.int .i64 x, .int .i64 y] 38) = w3 at *
        have q6 : binV Try.prog .add 3 (.int .i64 k) (.int .i64 1) = some (.int .i64 ((k + 1 : Nat) : Int)) := by
          simp only [binV, binI, if_true]; rw [i64s k (by omega)]
        obtain ⟨w4, g1, g2, g3⟩ := early w3 (x1.trans hx3) ((hx3.block rb hrl id).trans c1)
        have hnb : ∀ {b : Bool}, badE n (x, y) = true → ¬ OfOk n steps gl kl most := fun hb h => by
          have h2 := h.st (x, y) hmem
          rw [hNt] at h2
          have := (hbad (x, y)).2 h2
          rw [hb] at this; cases this
        rcases bad_cases n x y with ⟨r1, hb⟩ | ⟨r1, r2, hb⟩ | ⟨r1, r2, r3, hb⟩ | ⟨r1, r2, r3, r4, hb⟩ | ⟨r1, r2, r3, r4, hb⟩
        case' inl => simp only [CW_seq, CW_skip, CW_cond, CW_block, CW_loop, CW_reg, CW_draw, CW_exit, CW_ret, thenF_n, thenF_nK, thenF_r, thenF_x, blockF_n, blockF_nK, blockF_r, blockF_x, condF_t, condF_f, Rn_nil, Rn_ng, Rn_g, oneStep_g, os_move, os_assign, os_pick, os_bin, os_un, os_fieldAddr, os_field, os_indexAddr, os_index, os_slice, os_extract, os_nilCheck, os_makeFunc, os_build, os_len, os_cap, os_convert, os_min, os_max, on_load, on_buildSlice, on_alloc, on_box, on_makeSlice, on_lookup, mn_convert, mn_bin, optP_n, on_append, on_copy, on_store, on_call, ev, updo, upd, optP_p, resP_ok, resU_ok, ↓reduceIte, Nat.reduceEqDiff, List.map_cons, List.map_nil, List.map_toArray, argU, Nat.reduceAdd, gval_slot, gslot, List.getElem?_toArray, List.getElem?_cons_zero, List.getElem?_cons_succ, Option.bind_some, Option.some.injEq, reduceCtorEq, Bool.false_eq_true, Bool.true_eq_false, Option.map_some, Option.map_none, Int.toNat_zero, Option.isNone_none, Option.isNone_some, add_zero', binV, binI, unV, fieldV, extV, idxV, indexV, sliceV, lenV, capV, convV, min2V, max2V, TY, Option.isSome_some, Bool.true_and, Bool.and_true, Nat.mul_one, Int.toNat_natCast, le0n, Flat.val, Int.reduceToNat, Int.reduceLE, Int.reduceLT, Int.cast_ofNat_Int, decide_true, add_lit, Nat.zero_add, Nat.zero_mul, Nat.one_mul, Bool.not_true, Bool.not_false, h47, e45, e0, hin, hld, p1, p2, q0, q1, r1, e10, hbs, g1]
        case' inr.inl => simp only [CW_seq, CW_skip, CW_cond, CW_block, CW_loop, CW_reg, CW_draw, CW_exit, CW_ret, thenF_n, thenF_nK, thenF_r, thenF_x, blockF_n, blockF_nK, blockF_r, blockF_x, condF_t, condF_f, Rn_nil, Rn_ng, Rn_g, oneStep_g, os_move, os_assign, os_pick, os_bin, os_un, os_fieldAddr, os_field, os_indexAddr, os_index, os_slice, os_extract, os_nilCheck, os_makeFunc, os_build, os_len, os_cap, os_convert, os_min, os_max, on_load, on_buildSlice, on_alloc, on_box, on_makeSlice, on_lookup, mn_convert, mn_bin, optP_n, on_append, on_copy, on_store, on_call, ev, updo, upd, optP_p, resP_ok, resU_ok, ↓reduceIte, Nat.reduceEqDiff, List.map_cons, List.map_nil, List.map_toArray, argU, Nat.reduceAdd, gval_slot, gslot, List.getElem?_toArray, List.getElem?_cons_zero, List.getElem?_cons_succ, Option.bind_some, Option.some.injEq, reduceCtorEq, Bool.false_eq_true, Bool.true_eq_false, Option.map_some, Option.map_none, Int.toNat_zero, Option.isNone_none, Option.isNone_some, add_zero', binV, binI, unV, fieldV, extV, idxV, indexV, sliceV, lenV, capV, convV, min2V, max2V, TY, Option.isSome_some, Bool.true_and, Bool.and_true, Nat.mul_one, Int.toNat_natCast, le0n, Flat.val, Int.reduceToNat, Int.reduceLE, Int.reduceLT, Int.cast_ofNat_Int, decide_true, add_lit, Nat.zero_add, Nat.zero_mul, Nat.one_mul, Bool.not_true, Bool.not_false, h47, e45, e0, hin, hld, p1, p2, q0, q1, r1, r2, e10, hbs, g1]
        case' inr.inr.inl => simp only [CW_seq, CW_skip, CW_cond, CW_block, CW_loop, CW_reg, CW_draw, CW_exit, CW_ret, thenF_n, thenF_nK, thenF_r, thenF_x, blockF_n, blockF_nK, blockF_r, blockF_x, condF_t, condF_f, Rn_nil, Rn_ng, Rn_g, oneStep_g, os_move, os_assign, os_pick, os_bin, os_un, os_fieldAddr, os_field, os_indexAddr, os_index, os_slice, os_extract, os_nilCheck, os_makeFunc, os_build, os_len, os_cap, os_convert, os_min, os_max, on_load, on_buildSlice, on_alloc, on_box, on_makeSlice, on_lookup, mn_convert, mn_bin, optP_n, on_append, on_copy, on_store, on_call, ev, updo, upd, optP_p, resP_ok, resU_ok, ↓reduceIte, Nat.reduceEqDiff, List.map_cons, List.map_nil, List.map_toArray, argU, Nat.reduceAdd, gval_slot, gslot, List.getElem?_toArray, List.getElem?_cons_zero, List.getElem?_cons_succ, Option.bind_some, Option.some.injEq, reduceCtorEq, Bool.false_eq_true, Bool.true_eq_false, Option.map_some, Option.map_none, Int.toNat_zero, Option.isNone_none, Option.isNone_some, add_zero', binV, binI, unV, fieldV, extV, idxV, indexV, sliceV, lenV, capV, convV, min2V, max2V, TY, Option.isSome_some, Bool.true_and, Bool.and_true, Nat.mul_one, Int.toNat_natCast, le0n, Flat.val, Int.reduceToNat, Int.reduceLE, Int.reduceLT, Int.cast_ofNat_Int, decide_true, add_lit, Nat.zero_add, Nat.zero_mul, Nat.one_mul, Bool.not_true, Bool.not_false, h47, e45, e0, hin, hld, p1, p2, q0, q1, r1, r2, r3, e10, hbs, g1]
        case' inr.inr.inr.inl => simp only [CW_seq, CW_skip, CW_cond, CW_block, CW_loop, CW_reg, CW_draw, CW_exit, CW_ret, thenF_n, thenF_nK, thenF_r, thenF_x, blockF_n, blockF_nK, blockF_r, blockF_x, condF_t, condF_f, Rn_nil, Rn_ng, Rn_g, oneStep_g, os_move, os_assign, os_pick, os_bin, os_un, os_fieldAddr, os_field, os_indexAddr, os_index, os_slice, os_extract, os_nilCheck, os_makeFunc, os_build, os_len, os_cap, os_convert, os_min, os_max, on_load, on_buildSlice, on_alloc, on_box, on_makeSlice, on_lookup, mn_convert, mn_bin, optP_n, on_append, on_copy, on_store, on_call, ev, updo, upd, optP_p, resP_ok, resU_ok, ↓reduceIte, Nat.reduceEqDiff, List.map_cons, List.map_nil, List.map_toArray, argU, Nat.reduceAdd, gval_slot, gslot, List.getElem?_toArray, List.getElem?_cons_zero, List.getElem?_cons_succ, Option.bind_some, Option.some.injEq, reduceCtorEq, Bool.false_eq_true, Bool.true_eq_false, Option.map_some, Option.map_none, Int.toNat_zero, Option.isNone_none, Option.isNone_some, add_zero', binV, binI, unV, fieldV, extV, idxV, indexV, sliceV, lenV, capV, convV, min2V, max2V, TY, Option.isSome_some, Bool.true_and, Bool.and_true, Nat.mul_one, Int.toNat_natCast, le0n, Flat.val, Int.reduceToNat, Int.reduceLE, Int.reduceLT, Int.cast_ofNat_Int, decide_true, add_lit, Nat.zero_add, Nat.zero_mul, Nat.one_mul, Bool.not_true, Bool.not_false, h47, e45, e0, hin, hld, p1, p2, q0, q1, r1, r2, r3, r4, e10, hbs, g1]
        case' inr.inr.inr.inr => simp only [CW_seq, CW_skip, CW_cond, CW_block, CW_loop, CW_reg, CW_draw, CW_exit, CW_ret, thenF_n, thenF_nK, thenF_r, thenF_x, blockF_n, blockF_nK, blockF_r, blockF_x, condF_t, condF_f, Rn_nil, Rn_ng, Rn_g, oneStep_g, os_move, os_assign, os_pick, os_bin, os_un, os_fieldAddr, os_field, os_indexAddr, os_index, os_slice, os_extract, os_nilCheck, os_makeFunc, os_build, os_len, os_cap, os_convert, os_min, os_max, on_load, on_buildSlice, on_alloc, on_box, on_makeSlice, on_lookup, mn_convert, mn_bin, optP_n, on_append, on_copy, on_store, on_call, ev, updo, upd, optP_p, resP_ok, resU_ok, ↓reduceIte, Nat.reduceEqDiff, List.map_cons, List.map_nil, List.map_toArray, argU, Nat.reduceAdd, gval_slot, gslot, List.getElem?_toArray, List.getElem?_cons_zero, List.getElem?_cons_succ, Option.bind_some, Option.some.injEq, reduceCtorEq, Bool.false_eq_true, Bool.true_eq_false, Option.map_some, Option.map_none, Int.toNat_zero, Option.isNone_none, Option.isNone_some, add_zero', binV, binI, unV, fieldV, extV, idxV, indexV, sliceV, lenV, capV, convV, min2V, max2V, TY, Option.isSome_some, Bool.true_and, Bool.and_true, Nat.mul_one, Int.toNat_natCast, le0n, Flat.val, Int.reduceToNat, Int.reduceLE, Int.reduceLT, Int.cast_ofNat_Int, decide_true, add_lit, Nat.zero_add, Nat.zero_mul, Nat.one_mul, Bool.not_true, Bool.not_false, h47, e45, e0, hin, hld, p1, p2, q0, q1, r1, r2, r3, r4]
        case inr.inr.inr.inr =>
          refine ⟨k + 1, by omega, by rw [i64s k (by omega)], by omega, fun e he => ?_, hx3⟩
          rw [htk, List.mem_append, List.mem_singleton] at he
          rcases he with he | he
          · exact hdone e he
          · subst he; exact (hbad _).1 hb
        all_goals
          refine retqct Try.results16 (ad := ⟨rb, 0, none⟩) (by simp only [upd, ↓reduceIte, Nat.reduceEqDiff]; exact e10) g3 ?_
          simp only [upd, ↓reduceIte, Nat.reduceEqDiff]
          exact ⟨⟨_, false, rfl, (fun h => (by cases h)), fun _ => ⟨hnb (b := true) hb, rfl⟩⟩, g2⟩
      · have hge : k = steps.length := by simp at hc; omega
        subst hge
        rw [List.take_length] at hdone
        have hx2 := x1.trans hx
        have hvg2 : R (hpOf w2) vg gl := Rep.mono (hle_ext hx2) hvg
        have hs1 := sets_any vg gl M w2 hvg2 (by omega) (by omega) hgl
        rw [← hM] at hs1
        simp only [CW_seq, CW_skip, CW_cond, CW_block, CW_loop, CW_reg, CW_draw, CW_exit, CW_ret, thenF_n, thenF_nK, thenF_r, thenF_x, blockF_n, blockF_nK, blockF_r, blockF_x, condF_t, condF_f, Rn_nil, Rn_ng, Rn_g, oneStep_g, os_move, os_assign, os_pick, os_bin, os_un, os_fieldAddr, os_field, os_indexAddr, os_index, os_slice, os_extract, os_nilCheck, os_makeFunc, os_build, os_len, os_cap, os_convert, os_min, os_max, on_load, on_buildSlice, on_alloc, on_box, on_makeSlice, on_lookup, mn_convert, mn_bin, optP_n, on_append, on_copy, on_store, on_call, ev, updo, upd, optP_p, resP_ok, resU_ok, ↓reduceIte, Nat.reduceEqDiff, List.map_cons, List.map_nil, List.map_toArray, argU, Nat.reduceAdd, gval_slot, gslot, List.getElem?_toArray, List.getElem?_cons_zero, List.getElem?_cons_succ, Option.bind_some, Option.some.injEq, reduceCtorEq, Bool.false_eq_true, Bool.true_eq_false, Option.map_some, Option.map_none, Int.toNat_zero, Option.isNone_none, Option.isNone_some, add_zero', binV, binI, unV, fieldV, extV, idxV, indexV, sliceV, lenV, capV, convV, min2V, max2V, TY, Option.isSome_some, Bool.true_and, Bool.and_true, Nat.mul_one, Int.toNat_natCast, le0n, Flat.val, Int.reduceToNat, Int.reduceLE, Int.reduceLT, Int.cast_ofNat_Int, decide_true, add_lit, Nat.zero_add, Nat.zero_mul, Nat.one_mul, Bool.not_true, Bool.not_false, e2, e4]
        refine callP (by kernel_rfl : hasBody Try.prog 40 = true) hs1 ?_
        rintro r1 w3 ⟨⟨ub, okg, hr1, hg1, hg2⟩, hx3⟩
        subst hr1
        have hvk3 : R (hpOf w3) vk kl := Rep.mono (hle_ext (hx2.trans hx3)) hvk
        have hs2 := sets_any vk kl M w3 hvk3 (by omega) (by omega) hkl
        rw [← hM] at hs2
        simp only [CW_seq, CW_skip, CW_cond, CW_block, CW_loop, CW_reg, CW_draw, CW_exit, CW_ret, thenF_n, thenF_nK, thenF_r, thenF_x, blockF_n, blockF_nK, blockF_r, blockF_x, condF_t, condF_f, Rn_nil, Rn_ng, Rn_g, oneStep_g, os_move, os_assign, os_pick, os_bin, os_un, os_fieldAddr, os_field, os_indexAddr, os_index, os_slice, os_extract, os_nilCheck, os_makeFunc, os_build, os_len, os_cap, os_convert, os_min, os_max, on_load, on_buildSlice, on_alloc, on_box, on_makeSlice, on_lookup, mn_convert, mn_bin, optP_n, on_append, on_copy, on_store, on_call, ev, updo, upd, optP_p, resP_ok, resU_ok, ↓reduceIte, Nat.reduceEqDiff, List.map_cons, List.map_nil, List.map_toArray, argU, Nat.reduceAdd, gval_slot, gslot, List.getElem?_toArray, List.getElem?_cons_zero, List.getElem?_cons_succ, Option.bind_some, Option.some.injEq, reduceCtorEq, Bool.false_eq_true, Bool.true_eq_false, Option.map_some, Option.map_none, Int.toNat_zero, Option.isNone_none, Option.isNone_some, add_zero', binV, binI, unV, fieldV, extV, idxV, indexV, sliceV, lenV, capV, convV, min2V, max2V, TY, Option.isSome_some, Bool.true_and, Bool.and_true, Nat.mul_one, Int.toNat_natCast, le0n, Flat.val, Int.reduceToNat, Int.reduceLE, Int.reduceLT, Int.cast_ofNat_Int, decide_true, add_lit, Nat.zero_add, Nat.zero_mul, Nat.one_mul, Bool.not_true, Bool.not_false, e3, e4]
        refine callP (by kernel_rfl : hasBody Try.prog 40 = true) hs2 ?_
        rintro r2 w4 ⟨⟨uk, okk, hr2, hk1, hk2⟩, hx4⟩
        subst hr2
        have hx14 := (hx.trans hx3).trans hx4
        have hx04 := x1.trans hx14
        obtain ⟨w5, g1, g2, g3⟩ := early w4 hx04 ((hx14.block rb hrl id).trans c1)
        cases okg
        · simp only [CW_seq, CW_skip, CW_cond, CW_block, CW_loop, CW_reg, CW_draw, CW_exit, CW_ret, thenF_n, thenF_nK, thenF_r, thenF_x, blockF_n, blockF_nK, blockF_r, blockF_x, condF_t, condF_f, Rn_nil, Rn_ng, Rn_g, oneStep_g, os_move, os_assign, os_pick, os_bin, os_un, os_fieldAddr, os_field, os_indexAddr, os_index, os_slice, os_extract, os_nilCheck, os_makeFunc, os_build, os_len, os_cap, os_convert, os_min, os_max, on_load, on_buildSlice, on_alloc, on_box, on_makeSlice, on_lookup, mn_convert, mn_bin, optP_n, on_append, on_copy, on_store, on_call, ev, updo, upd, optP_p, resP_ok, resU_ok, ↓reduceIte, Nat.reduceEqDiff, List.map_cons, List.map_nil, List.map_toArray, argU, Nat.reduceAdd, gval_slot, gslot, List.getElem?_toArray, List.getElem?_cons_zero, List.getElem?_cons_succ, Option.bind_some, Option.some.injEq, reduceCtorEq, Bool.false_eq_true, Bool.true_eq_false, Option.map_some, Option.map_none, Int.toNat_zero, Option.isNone_none, Option.isNone_some, add_zero', binV, binI, unV, fieldV, extV, idxV, indexV, sliceV, lenV, capV, convV, min2V, max2V, TY, Option.isSome_some, Bool.true_and, Bool.and_true, Nat.mul_one, Int.toNat_natCast, le0n, Flat.val, Int.reduceToNat, Int.reduceLE, Int.reduceLT, Int.cast_ofNat_Int, decide_true, add_lit, Nat.zero_add, Nat.zero_mul, Nat.one_mul, Bool.not_true, Bool.not_false, Bool.not_false, e10, hbs, g1]
          refine retqct Try.results16 (ad := ⟨rb, 0, none⟩) (by simp only [upd, ↓reduceIte, Nat.reduceEqDiff]; exact e10) g3 ?_
          simp only [upd, ↓reduceIte, Nat.reduceEqDiff]
          exact ⟨⟨_, false, rfl, (fun h => (by cases h)), fun _ => ⟨fun h => hg2 rfl (by have := h.gf; rw [hMt] at this; exact this), rfl⟩⟩, g2⟩
        · cases okk
          · simp only [CW_seq, CW_skip, CW_cond, CW_block, CW_loop, CW_reg, CW_draw, CW_exit, CW_ret, thenF_n, thenF_nK, thenF_r, thenF_x, blockF_n, blockF_nK, blockF_r, blockF_x, condF_t, condF_f, Rn_nil, Rn_ng, Rn_g, oneStep_g, os_move, os_assign, os_pick, os_bin, os_un, os_fieldAddr, os_field, os_indexAddr, os_index, os_slice, os_extract, os_nilCheck, os_makeFunc, os_build, os_len, os_cap, os_convert, os_min, os_max, on_load, on_buildSlice, on_alloc, on_box, on_makeSlice, on_lookup, mn_convert, mn_bin, optP_n, on_append, on_copy, on_store, on_call, ev, updo, upd, optP_p, resP_ok, resU_ok, ↓reduceIte, Nat.reduceEqDiff, List.map_cons, List.map_nil, List.map_toArray, argU, Nat.reduceAdd, gval_slot, gslot, List.getElem?_toArray, List.getElem?_cons_zero, List.getElem?_cons_succ, Option.bind_some, Option.some.injEq, reduceCtorEq, Bool.false_eq_true, Bool.true_eq_false, Option.map_some, Option.map_none, Int.toNat_zero, Option.isNone_none, Option.isNone_some, add_zero', binV, binI, unV, fieldV, extV, idxV, indexV, sliceV, lenV, capV, convV, min2V, max2V, TY, Option.isSome_some, Bool.true_and, Bool.and_true, Nat.mul_one, Int.toNat_natCast, le0n, Flat.val, Int.reduceToNat, Int.reduceLE, Int.reduceLT, Int.cast_ofNat_Int, decide_true, add_lit, Nat.zero_add, Nat.zero_mul, Nat.one_mul, Bool.not_true, Bool.not_false, Bool.not_false, Bool.not_true, e10, hbs, g1]
            refine retqct Try.results16 (ad := ⟨rb, 0, none⟩) (by simp only [upd, ↓reduceIte, Nat.reduceEqDiff]; exact e10) g3 ?_
            simp only [upd, ↓reduceIte, Nat.reduceEqDiff]
            exact ⟨⟨_, false, rfl, (fun h => (by cases h)), fun _ => ⟨fun h => hk2 rfl (by have := h.kf; rw [hMt] at this; exact this), rfl⟩⟩, g2⟩
          · clear g1 g2 g3 w5
            obtain ⟨hgf, gs, hRg, hSg'⟩ := hg1 rfl
            obtain ⟨hkf, ks, hRk, hSk'⟩ := hk1 rfl
            have hnew := new_any N v steps w4 (by omega) (Rep.mono (hle_ext hx04) hv) (by omega)
            rw [← hN] at hnew
            simp only [CW_seq, CW_skip, CW_cond, CW_block, CW_loop, CW_reg, CW_draw, CW_exit, CW_ret, thenF_n, thenF_nK, thenF_r, thenF_x, blockF_n, blockF_nK, blockF_r, blockF_x, condF_t, condF_f, Rn_nil, Rn_ng, Rn_g, oneStep_g, os_move, os_assign, os_pick, os_bin, os_un, os_fieldAddr, os_field, os_indexAddr, os_index, os_slice, os_extract, os_nilCheck, os_makeFunc, os_build, os_len, os_cap, os_convert, os_min, os_max, on_load, on_buildSlice, on_alloc, on_box, on_makeSlice, on_lookup, mn_convert, mn_bin, optP_n, on_append, on_copy, on_store, on_call, ev, updo, upd, optP_p, resP_ok, resU_ok, ↓reduceIte, Nat.reduceEqDiff, List.map_cons, List.map_nil, List.map_toArray, argU, Nat.reduceAdd, gval_slot, gslot, List.getElem?_toArray, List.getElem?_cons_zero, List.getElem?_cons_succ, Option.bind_some, Option.some.injEq, reduceCtorEq, Bool.false_eq_true, Bool.true_eq_false, Option.map_some, Option.map_none, Int.toNat_zero, Option.isNone_none, Option.isNone_some, add_zero', binV, binI, unV, fieldV, extV, idxV, indexV, sliceV, lenV, capV, convV, min2V, max2V, TY, Option.isSome_some, Bool.true_and, Bool.and_true, Nat.mul_one, Int.toNat_natCast, le0n, Flat.val, Int.reduceToNat, Int.reduceLE, Int.reduceLT, Int.cast_ofNat_Int, decide_true, add_lit, Nat.zero_add, Nat.zero_mul, Nat.one_mul, Bool.not_true, Bool.not_false, Bool.not_true, e0, e1]
            refine callP (by kernel_rfl : hasBody Try.prog 26 = true) hnew ?_
            rintro pg w5 ⟨⟨Mb, hgo⟩, hx5⟩
            have hgg := newF_graph N steps
            have hgr := hgo.read (hle_ext hx5)
            have hok : OfOk n steps gl kl most := ⟨hn0, hn5, hm0, hm5, hgn, hkn, by rw [hNt]; exact hdone, by rw [hMt]; exact hgf, by rw [hMt]; exact hkf⟩
            rw [hNt, hMt]
            generalize newF N steps = G at *
            obtain ⟨nx, pv⟩ := G
            simp only at hgr
            have hnl : nx.length = N := hgg.nx.len
            have hgg' : Graph nx.length (nx, pv) := by rw [hnl]; exact hgg
            have hsol := solve_any pg nx pv ub uk gs ks gl kl M w5 hgr hgg' (Rep.mono (hle_ext (hx4.trans hx5)) hRg) (Rep.mono (hle_ext hx5) hRk) hSg' hSk' (by omega) (by omega) hgf (by omega) (by omega)
            rw [← hM] at hsol
            simp only [CW_seq, CW_skip, CW_cond, CW_block, CW_loop, CW_reg, CW_draw, CW_exit, CW_ret, thenF_n, thenF_nK, thenF_r, thenF_x, blockF_n, blockF_nK, blockF_r, blockF_x, condF_t, condF_f, Rn_nil, Rn_ng, Rn_g, oneStep_g, os_move, os_assign, os_pick, os_bin, os_un, os_fieldAddr, os_field, os_indexAddr, os_index, os_slice, os_extract, os_nilCheck, os_makeFunc, os_build, os_len, os_cap, os_convert, os_min, os_max, on_load, on_buildSlice, on_alloc, on_box, on_makeSlice, on_lookup, mn_convert, mn_bin, optP_n, on_append, on_copy, on_store, on_call, ev, updo, upd, optP_p, resP_ok, resU_ok, ↓reduceIte, Nat.reduceEqDiff, List.map_cons, List.map_nil, List.map_toArray, argU, Nat.reduceAdd, gval_slot, gslot, List.getElem?_toArray, List.getElem?_cons_zero, List.getElem?_cons_succ, Option.bind_some, Option.some.injEq, reduceCtorEq, Bool.false_eq_true, Bool.true_eq_false, Option.map_some, Option.map_none, Int.toNat_zero, Option.isNone_none, Option.isNone_some, add_zero', binV, binI, unV, fieldV, extV, idxV, indexV, sliceV, lenV, capV, convV, min2V, max2V, TY, Option.isSome_some, Bool.true_and, Bool.and_true, Nat.mul_one, Int.toNat_natCast, le0n, Flat.val, Int.reduceToNat, Int.reduceLE, Int.reduceLT, Int.cast_ofNat_Int, decide_true, add_lit, Nat.zero_add, Nat.zero_mul, Nat.one_mul, Bool.not_true, Bool.not_false, e4]
            refine callP (by kernel_rfl : hasBody Try.prog 41 = true) hsol ?_
            rintro r3 w6 ⟨⟨vi, sol, T, hr3, hRs, hs1, hs2, hs3, hs4⟩, hx6⟩
            subst hr3
            have hx16 := (hx14.trans hx5).trans hx6
            have Sv := hRs.isS
            have hone : ∀ u ∈ (#[vi, Value.int .i64 (T : Nat)] : Array Value).toList, u.oneCell' = true := by
              intro u hu
              simp at hu
              rcases hu with rfl | rfl
              · exact isS_one Sv
              · rfl
            obtain ⟨w7, t1, t2, t3⟩ := blk_sta (P := Try.prog) ((hx16.block rb hrl id).trans c1) tyZ27 (by rw [tyS27]; rfl) (cs := #[vi, .int .i64 (T : Nat)]) (by rw [tyS27]; rfl) hone
            have hlda := blk_lda (P := Try.prog) t2 tyG27 tyU27 tyI27 (by rw [tyS27]; rfl)
            simp only [CW_seq, CW_skip, CW_cond, CW_block, CW_loop, CW_reg, CW_draw, CW_exit, CW_ret, thenF_n, thenF_nK, thenF_r, thenF_x, blockF_n, blockF_nK, blockF_r, blockF_x, condF_t, condF_f, Rn_nil, Rn_ng, Rn_g, oneStep_g, os_move, os_assign, os_pick, os_bin, os_un, os_fieldAddr, os_field, os_indexAddr, os_index, os_slice, os_extract, os_nilCheck, os_makeFunc, os_build, os_len, os_cap, os_convert, os_min, os_max, on_load, on_buildSlice, on_alloc, on_box, on_makeSlice, on_lookup, mn_convert, mn_bin, optP_n, on_append, on_copy, on_store, on_call, ev, updo, upd, optP_p, resP_ok, resU_ok, ↓reduceIte, Nat.reduceEqDiff, List.map_cons, List.map_nil, List.map_toArray, argU, Nat.reduceAdd, gval_slot, gslot, List.getElem?_toArray, List.getElem?_cons_zero, List.getElem?_cons_succ, Option.bind_some, Option.some.injEq, reduceCtorEq, Bool.false_eq_true, Bool.true_eq_false, Option.map_some, Option.map_none, Int.toNat_zero, Option.isNone_none, Option.isNone_some, add_zero', binV, binI, unV, fieldV, extV, idxV, indexV, sliceV, lenV, capV, convV, min2V, max2V, TY, Option.isSome_some, Bool.true_and, Bool.and_true, Nat.mul_one, Int.toNat_natCast, le0n, Flat.val, Int.reduceToNat, Int.reduceLE, Int.reduceLT, Int.cast_ofNat_Int, decide_true, add_lit, Nat.zero_add, Nat.zero_mul, Nat.one_mul, Bool.not_true, Bool.not_false, e10, t1]
            refine retqct Try.results16 (ad := ⟨rb, 0, none⟩) (by simp only [upd, ↓reduceIte, Nat.reduceEqDiff]; exact e10) hlda ?_
            simp only [upd, ↓reduceIte, Nat.reduceEqDiff]
            refine ⟨⟨_, true, rfl, fun _ => ⟨hok, vi, sol, T, rfl, ?_, ⟨hs1, hs2, hs3, hs4⟩⟩, (fun h => (by cases h))⟩, Mod.ext_of (x1.trans hx16) t3 fun b hb => by subst hb; omega⟩
            have hrb5 : rb < w5.heap.size := Nat.lt_of_lt_of_le hrl (hx14.trans hx5).size
            refine Rep.mono (hpNo_mod t3 (fun b hb => by subst hb; exact hrb5) fun b hb => .inl ?_) hRs
            have := (x1.trans (hx14.trans hx5)).size
            omega
end Go.Proofs.Ytldmnnloakpjlaa
