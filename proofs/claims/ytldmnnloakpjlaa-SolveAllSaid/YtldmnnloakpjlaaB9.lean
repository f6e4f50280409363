/- The graph that a call owns: Add, New. -/
import Derived.Test.YtldmnnloakpjlaaB8
set_option linter.unusedSimpArgs false
set_option linter.unusedVariables false
set_option maxRecDepth 100000
set_option linter.unnecessarySimpa false
namespace Go.Proofs.Ytldmnnloakpjlaa
open Go

structure GX (h : Hp) (w : World) (gb : Nat) (cs : Array Value) (vn : Value) (us : List Raw) (nx : List (List Int)) (vp : Value) (us' : List Raw) (pv : List (List Int)) : Prop where
  free : h gb = none
  cell : w.heap[gb]? = some (.cells cs 70 (0, 0))
  rn : Rows h w 37 3 vn us nx
  rp : Rows h w 37 3 vp us' pv
  gn : ¬ rblk vn us gb
  gp : ¬ rblk vp us' gb
  dis : ∀ b, rblk vn us b → ¬ rblk vp us' b

section
variable {h : Hp} {w : World} {gb : Nat} {cs : Array Value} {vn vp : Value} {us us' : List Raw} {nx pv : List (List Int)}
theorem GX.swap (hx : GX h w gb cs vn us nx vp us' pv) : GX h w gb cs vp us' pv vn us nx :=
  ⟨hx.free, hx.cell, hx.rp, hx.rn, hx.gp, hx.gn, fun b h1 h2 => hx.dis b h2 h1⟩
theorem GX.lt (hx : GX h w gb cs vn us nx vp us' pv) : gb < w.heap.size := (Array.getElem?_eq_some_iff.1 hx.cell).1
theorem GX.mod {M : Nat → Prop} {w' : World} (hx : GX h w gb cs vn us nx vp us' pv) (hm : Mod M w w') (hM : ∀ b, (b = gb ∨ rblk vn us b ∨ rblk vp us' b) → ¬ M b) : GX h w' gb cs vn us nx vp us' pv :=
  ⟨hx.free, (hm.block gb hx.lt (hM gb (.inl rfl))).trans hx.cell, hx.rn.mod hm fun b hb => hM b (.inr (.inl hb)), hx.rp.mod hm fun b hb => hM b (.inr (.inr hb)), hx.gn, hx.gp, hx.dis⟩
theorem GX.set {w' w'' : World} (hx : GX h w gb cs vn us nx vp us' pv) {i : Nat} {u : Raw} (hi : us[i]? = some u) {u' : Value} {xs : List Int}
    (hm : Mod (blk u.v) w w') (ho : Own h w' 3 u' xs) (hv : movedTo w u.v u') (hm2 : Mod (blk vn) w' w'') (ho2 : Own h w'' 37 vn (us.set i ⟨u'⟩)) :
    GX h w'' gb cs vn (us.set i ⟨u'⟩) (nx.set i xs) vp us' pv := by
  have hui : u ∈ us := List.mem_of_getElem? hi
  have hnew : ∀ b, rblk vn (us.set i ⟨u'⟩) b → rblk vn us b ∨ w.heap.size ≤ b := by
    rintro b (hb | ⟨x, hx1, hb⟩)
    · exact .inl (.inl hb)
    · rcases List.mem_or_eq_of_mem_set hx1 with h1 | h1
      · exact .inl (.inr ⟨x, h1, hb⟩)
      · subst h1
        rcases hv b hb with h2 | h2
        · exact .inl (.inr ⟨u, hui, h2⟩)
        · exact .inr h2
  have k1 : ∀ b, blk u.v b → rblk vn us b := fun b hb => .inr ⟨u, hui, hb⟩
  have k2 : ∀ b, blk vn b → rblk vn us b := fun b hb => .inl hb
  refine ⟨hx.free, ?_, hx.rn.set hi hm ho hv hm2 ho2, ?_, ?_, hx.gp, ?_⟩
  · have h1 := hm.block gb hx.lt (fun hb => hx.gn (k1 _ hb))
    have h2 := hm2.block gb (Nat.lt_of_lt_of_le hx.lt hm.size) (fun hb => hx.gn (k2 _ hb))
    exact h2.trans (h1.trans hx.cell)
  · exact (hx.rp.mod hm fun b hb hb2 => hx.dis b (k1 b hb2) hb).mod hm2 fun b hb hb2 => hx.dis b (k2 b hb2) hb
  · intro hb
    rcases hnew gb hb with h1 | h1
    · exact hx.gn h1
    · have := hx.lt; omega
  · intro b hb hb2
    rcases hnew b hb with h1 | h1
    · exact hx.dis b h1 hb2
    · have := hx.rp.lt hb2; omega
theorem GX.read (hx : GX h w gb #[vn, vp] vn us nx vp us' pv) (hw : hle h (hpOf w)) : GR (hpOf w) (.pointer (some ⟨gb, 0, none⟩)) nx pv := by
  refine ⟨gb, vn, vp, rfl, ?_, ?_, hx.rn.ro hw, hx.rp.ro hw⟩
  · rw [← cell_eq, cell_of_row w gb 0 _ _ (0, 0) hx.cell]; rfl
  · rw [← cell_eq, cell_of_row w gb 1 _ _ (0, 0) hx.cell]; rfl
end

theorem rows_ld {P : Program} {α : Type} [Rep α] {h : Hp} {w : World} {T T' t : TypeId} {v : Value} {us : List Raw} {xss : List (List α)} (hr : Rows h w T T' v us xss) {i : Nat} {u : Raw} (hi : us[i]? = some u) (ht : aggT P t = false) :
    (Instr.loadAt t (.pointer (some (sadr v i)))).run P w = .ok u.v w := by
  obtain ⟨es, ⟨he, _⟩, hc⟩ := hr.outer.get hi
  have := hc 0 u.v (by rw [he]; rfl)
  rw [add_zero'] at this
  have h1 : (i * Rep.sz Raw) = i := Nat.mul_one i
  rw [h1] at this
  exact ld_cell ht this
theorem isS_one {v : Value} (h : isS v = true) : v.oneCell' = true := by
  cases v <;> simp [isS] at h
  rfl
theorem isS_cells {v : Value} (h : isS v = true) : v.cells = #[v] := by
  cases v <;> simp [isS] at h
  rfl
/-- A row is stored back. -/
theorem row_store {P : Program} {h : Hp} {w : World} {t : TypeId} {v u' : Value} {us : List Raw} (ho : Own h w 37 v us) {i : Nat} (hi : i < us.length) (hu : isS u' = true) {inf : TypeInfo} (hinf : P.info? t = some inf) (hs : inf.size = 1) :
    ∃ w', (Instr.storeAt t (.pointer (some (sadr v i))) u').run P w = .ok () w' ∧ Own h w' 37 v (us.set i ⟨u'⟩) ∧ Mod (blk v) w w' ∧ w'.heap.size = w.heap.size :=
  own_store ho rfl hi (y := (⟨u'⟩ : Raw)) ⟨rfl, isS_one hu⟩ (isS_cells hu) hinf hs
/-- A graph that is owned; M: its blocks. -/
def GO (h : Hp) (w : World) (pg : Value) (nx pv : List (List Int)) (M : Nat → Prop) : Prop :=
  ∃ gb vn us vp us', pg = .pointer (some ⟨gb, 0, none⟩) ∧ GX h w gb #[vn, vp] vn us nx vp us' pv ∧ ∀ b, M b ↔ b = gb ∨ rblk vn us b ∨ rblk vp us' b
theorem GO.read {h : Hp} {w : World} {pg : Value} {nx pv : List (List Int)} {M : Nat → Prop} (hg : GO h w pg nx pv M) (hw : hle h (hpOf w)) : GR (hpOf w) pg nx pv := by
  obtain ⟨gb, vn, us, vp, us', rfl, hx, _⟩ := hg
  exact hx.read hw
theorem GO.free {h : Hp} {w : World} {pg : Value} {nx pv : List (List Int)} {M : Nat → Prop} (hg : GO h w pg nx pv M) : ∀ b, M b → h b = none := by
  obtain ⟨gb, vn, us, vp, us', rfl, hx, hM⟩ := hg
  intro b hb
  rcases (hM b).1 hb with rfl | hb | hb
  · exact hx.free
  · exact hx.rn.free hb
  · exact hx.rp.free hb
theorem GO.mod {h : Hp} {w w' : World} {pg : Value} {nx pv : List (List Int)} {M N : Nat → Prop} (hg : GO h w pg nx pv M) (hm : Mod N w w') (hN : ∀ b, M b → ¬ N b) : GO h w' pg nx pv M := by
  obtain ⟨gb, vn, us, vp, us', rfl, hx, hM⟩ := hg
  exact ⟨gb, vn, us, vp, us', rfl, hx.mod hm fun b hb => hN b ((hM b).2 hb), hM⟩

/-! ### Add -/
/-- What is known of the rows while a graph grows. -/
structure Rising (l : List (List Int)) : Prop where
  le : ∀ x ∈ l, x.Pairwise (· < ·)
  len : ∀ x ∈ l, x.length ≤ 100000000
theorem Rising.le' {l : List (List Int)} (h : Rising l) {x : List Int} (hx : x ∈ l) : x.Pairwise (· ≤ ·) := (h.le x hx).imp fun h => Int.le_of_lt h

theorem add_any (h : Hp) (pg : Value) (nx pv : List (List Int)) (M : Nat → Prop) (a b : Int) (w : World) (hg : GO h w pg nx pv M) (hw : hle h (hpOf w)) (hl : pv.length = nx.length) (hr1 : Rising nx) (hr2 : Rising pv) :
    Calls Try.prog 39 #[pg, .int .i64 a, .int .i64 b] w fun e w' => ∃ u, e = .returned u ∧ (u = .bool (addOk nx a b) ∧ ∃ M', GO h w' pg (addN nx a b) (addP nx pv a b) M' ∧ Mod M w w' ∧ ∀ b, M' b → M b ∨ w.heap.size ≤ b) := by
  have hgr := hg.read hw
  obtain ⟨gb, vn, us, vp, us', rfl, hx, hM⟩ := hg
  refine calls_of_CW (args := [.pointer (some ⟨gb, 0, none⟩), .int .i64 a, .int .i64 b]) hm Try.func39 rfl (by kernel_rfl) (by show 3 ≤ _; decide +kernel) ?_
  simp only [CW_seq, CW_skip, CW_cond, CW_block, CW_loop, CW_reg, CW_draw, CW_exit, CW_ret, thenF_n, thenF_nK, thenF_r, thenF_x, blockF_n, blockF_nK, blockF_r, blockF_x, condF_t, condF_f, Rn_nil, Rn_ng, Rn_g, oneStep_g, os_move, os_assign, os_pick, os_bin, os_un, os_fieldAddr, os_field, os_indexAddr, os_index, os_slice, os_extract, os_nilCheck, os_makeFunc, os_build, os_len, os_cap, os_convert, os_min, os_max, on_load, on_buildSlice, on_alloc, on_box, on_makeSlice, on_lookup, mn_convert, mn_bin, optP_n, on_append, on_copy, on_store, on_call, ev, updo, upd, optP_s, resP_ok, resU_ok, ↓reduceIte, Nat.reduceEqDiff, List.map_cons, List.map_nil, List.map_toArray, argU, Nat.reduceAdd, gval_slot, gslot, List.getElem?_toArray, List.getElem?_cons_zero, List.getElem?_cons_succ, Option.bind_some, Option.some.injEq, reduceCtorEq, Bool.false_eq_true, Bool.true_eq_false, Option.map_some, Option.map_none, Int.toNat_zero, Option.isNone_none, Option.isNone_some, add_zero', binV, binI, unV, fieldV, extV, idxV, indexV, sliceV, lenV, capV, convV, min2V, max2V, TY, Option.isSome_some, Bool.true_and, Bool.and_true, Nat.mul_one, Int.toNat_natCast, le0n, Flat.val, Int.reduceToNat, Int.reduceLE, Int.reduceLT, Int.cast_ofNat_Int, decide_true, add_lit, Nat.zero_add, Nat.zero_mul, Nat.one_mul, Bool.not_true, Bool.not_false]
  refine callP (by kernel_rfl : hasBody Try.prog 45 = true) (ghas_any _ nx pv a w hgr) ?_
  rintro u w' ⟨rfl, rfl⟩
  have same : addOk nx a b = false → ∀ w2, Ext w' w2 → ∃ M', GO h w2 (.pointer (some ⟨gb, 0, none⟩)) (addN nx a b) (addP nx pv a b) M' ∧ Mod M w' w2 ∧ ∀ b, M' b → M b ∨ w'.heap.size ≤ b := by
    intro hno w2 he
    refine ⟨M, ?_, he.weaken fun _ _ h => h.elim, fun b hb => .inl hb⟩
    unfold addN addP
    rw [hno]
    exact ⟨gb, vn, us, vp, us', rfl, hx.mod he fun _ _ h => h.elim, hM⟩
  by_cases ha : okN nx.length a = true
  · have hna : (!okN nx.length a) = false := by rw [ha]; rfl
    simp only [CW_seq, CW_skip, CW_cond, CW_block, CW_loop, CW_reg, CW_draw, CW_exit, CW_ret, thenF_n, thenF_nK, thenF_r, thenF_x, blockF_n, blockF_nK, blockF_r, blockF_x, condF_t, condF_f, Rn_nil, Rn_ng, Rn_g, oneStep_g, os_move, os_assign, os_pick, os_bin, os_un, os_fieldAddr, os_field, os_indexAddr, os_index, os_slice, os_extract, os_nilCheck, os_makeFunc, os_build, os_len, os_cap, os_convert, os_min, os_max, on_load, on_buildSlice, on_alloc, on_box, on_makeSlice, on_lookup, mn_convert, mn_bin, optP_n, on_append, on_copy, on_store, on_call, ev, updo, upd, optP_s, resP_ok, resU_ok, ↓reduceIte, Nat.reduceEqDiff, List.map_cons, List.map_nil, List.map_toArray, argU, Nat.reduceAdd, gval_slot, gslot, List.getElem?_toArray, List.getElem?_cons_zero, List.getElem?_cons_succ, Option.bind_some, Option.some.injEq, reduceCtorEq, Bool.false_eq_true, Bool.true_eq_false, Option.map_some, Option.map_none, Int.toNat_zero, Option.isNone_none, Option.isNone_some, add_zero', binV, binI, unV, fieldV, extV, idxV, indexV, sliceV, lenV, capV, convV, min2V, max2V, TY, Option.isSome_some, Bool.true_and, Bool.and_true, Nat.mul_one, Int.toNat_natCast, le0n, Flat.val, Int.reduceToNat, Int.reduceLE, Int.reduceLT, Int.cast_ofNat_Int, decide_true, add_lit, Nat.zero_add, Nat.zero_mul, Nat.one_mul, Bool.not_true, Bool.not_false, hna]
    refine callP (by kernel_rfl : hasBody Try.prog 45 = true) (ghas_any _ nx pv b w' hgr) ?_
    rintro u w ⟨rfl, rfl⟩
    by_cases hb : okN nx.length b = true
    · have hnb : (!okN nx.length b) = false := by rw [hb]; rfl
      have c0 : w.cell? ⟨gb, 0, none⟩ = some vn := by rw [cell_of_row w gb 0 _ _ (0, 0) hx.cell]; rfl
      have l0 := ld_cell (P := Try.prog) (t := 23) tyG23 c0
      have hSn := hx.rn.outer.isS
      obtain ⟨hx1, hx2⟩ := rowF_at ha
      have hlu : us.length = nx.length := hx.rn.len
      have hin := hx.rn.outer.inS (k := a.toNat) (by omega)
      have d0 : decide (0 ≤ a) = true := by simpa using (okN_iff.1 ha).1
      obtain ⟨ua, hua⟩ : ∃ ua, us[a.toNat]? = some ua := ⟨us[a.toNat]'(by omega), List.getElem?_eq_getElem (by omega)⟩
      have hown := hx.rn.row _ _ _ hua hx1
      have la := rows_ld (P := Try.prog) (t := 37) hx.rn hua tyG37
      have hmem := List.mem_of_getElem? hx1
      simp only [CW_seq, CW_skip, CW_cond, CW_block, CW_loop, CW_reg, CW_draw, CW_exit, CW_ret, thenF_n, thenF_nK, thenF_r, thenF_x, blockF_n, blockF_nK, blockF_r, blockF_x, condF_t, condF_f, Rn_nil, Rn_ng, Rn_g, oneStep_g, os_move, os_assign, os_pick, os_bin, os_un, os_fieldAddr, os_field, os_indexAddr, os_index, os_slice, os_extract, os_nilCheck, os_makeFunc, os_build, os_len, os_cap, os_convert, os_min, os_max, on_load, on_buildSlice, on_alloc, on_box, on_makeSlice, on_lookup, mn_convert, mn_bin, optP_n, on_append, on_copy, on_store, on_call, ev, updo, upd, optP_s, resP_ok, resU_ok, ↓reduceIte, Nat.reduceEqDiff, List.map_cons, List.map_nil, List.map_toArray, argU, Nat.reduceAdd, gval_slot, gslot, List.getElem?_toArray, List.getElem?_cons_zero, List.getElem?_cons_succ, Option.bind_some, Option.some.injEq, reduceCtorEq, Bool.false_eq_true, Bool.true_eq_false, Option.map_some, Option.map_none, Int.toNat_zero, Option.isNone_none, Option.isNone_some, add_zero', binV, binI, unV, fieldV, extV, idxV, indexV, sliceV, lenV, capV, convV, min2V, max2V, TY, Option.isSome_some, Bool.true_and, Bool.and_true, Nat.mul_one, Int.toNat_natCast, le0n, Flat.val, Int.reduceToNat, Int.reduceLE, Int.reduceLT, Int.cast_ofNat_Int, decide_true, add_lit, Nat.zero_add, Nat.zero_mul, Nat.one_mul, Bool.not_true, Bool.not_false, hnb, l0, hSn, hin, d0, la]
      refine callP (by kernel_rfl : hasBody Try.prog 52 = true) (search_any b hown (Nat.le_trans (hr1.len _ hmem) (by omega)) (hr1.le' hmem)) ?_
      rintro u w1 ⟨rfl, he1⟩
      by_cases hc : (rowF nx a).contains b = true
      · simp only [CW_seq, CW_skip, CW_cond, CW_block, CW_loop, CW_reg, CW_draw, CW_exit, CW_ret, thenF_n, thenF_nK, thenF_r, thenF_x, blockF_n, blockF_nK, blockF_r, blockF_x, condF_t, condF_f, Rn_nil, Rn_ng, Rn_g, oneStep_g, os_move, os_assign, os_pick, os_bin, os_un, os_fieldAddr, os_field, os_indexAddr, os_index, os_slice, os_extract, os_nilCheck, os_makeFunc, os_build, os_len, os_cap, os_convert, os_min, os_max, on_load, on_buildSlice, on_alloc, on_box, on_makeSlice, on_lookup, mn_convert, mn_bin, optP_n, on_append, on_copy, on_store, on_call, ev, updo, upd, optP_s, resP_ok, resU_ok, ↓reduceIte, Nat.reduceEqDiff, List.map_cons, List.map_nil, List.map_toArray, argU, Nat.reduceAdd, gval_slot, gslot, List.getElem?_toArray, List.getElem?_cons_zero, List.getElem?_cons_succ, Option.bind_some, Option.some.injEq, reduceCtorEq, Bool.false_eq_true, Bool.true_eq_false, Option.map_some, Option.map_none, Int.toNat_zero, Option.isNone_none, Option.isNone_some, add_zero', binV, binI, unV, fieldV, extV, idxV, indexV, sliceV, lenV, capV, convV, min2V, max2V, TY, Option.isSome_some, Bool.true_and, Bool.and_true, Nat.mul_one, Int.toNat_natCast, le0n, Flat.val, Int.reduceToNat, Int.reduceLE, Int.reduceLT, Int.cast_ofNat_Int, decide_true, add_lit, Nat.zero_add, Nat.zero_mul, Nat.one_mul, Bool.not_true, Bool.not_false, hc]
        refine retq1 Try.results39 ?_
        simp only [upd, ↓reduceIte, Nat.reduceEqDiff]
        have hno : addOk nx a b = false := by simp only [addOk, hc, Bool.not_true, Bool.and_false]
        exact ⟨by rw [hno], same hno w1 he1⟩
      · have hc' : (rowF nx a).contains b = false := by simpa using hc
        have hyes : addOk nx a b = true := by simp only [addOk, hc', ha, hb, Bool.not_false, Bool.and_true]
        have hw1 : hle h (hpOf w1) := hle_trans hw (hle_ext he1)
        have hx' := hx.mod he1 fun _ _ h => h.elim
        simp only [CW_seq, CW_skip, CW_cond, CW_block, CW_loop, CW_reg, CW_draw, CW_exit, CW_ret, thenF_n, thenF_nK, thenF_r, thenF_x, blockF_n, blockF_nK, blockF_r, blockF_x, condF_t, condF_f, Rn_nil, Rn_ng, Rn_g, oneStep_g, os_move, os_assign, os_pick, os_bin, os_un, os_fieldAddr, os_field, os_indexAddr, os_index, os_slice, os_extract, os_nilCheck, os_makeFunc, os_build, os_len, os_cap, os_convert, os_min, os_max, on_load, on_buildSlice, on_alloc, on_box, on_makeSlice, on_lookup, mn_convert, mn_bin, optP_n, on_append, on_copy, on_store, on_call, ev, updo, upd, optP_s, resP_ok, resU_ok, ↓reduceIte, Nat.reduceEqDiff, List.map_cons, List.map_nil, List.map_toArray, argU, Nat.reduceAdd, gval_slot, gslot, List.getElem?_toArray, List.getElem?_cons_zero, List.getElem?_cons_succ, Option.bind_some, Option.some.injEq, reduceCtorEq, Bool.false_eq_true, Bool.true_eq_false, Option.map_some, Option.map_none, Int.toNat_zero, Option.isNone_none, Option.isNone_some, add_zero', binV, binI, unV, fieldV, extV, idxV, indexV, sliceV, lenV, capV, convV, min2V, max2V, TY, Option.isSome_some, Bool.true_and, Bool.and_true, Nat.mul_one, Int.toNat_natCast, le0n, Flat.val, Int.reduceToNat, Int.reduceLE, Int.reduceLT, Int.cast_ofNat_Int, decide_true, add_lit, Nat.zero_add, Nat.zero_mul, Nat.one_mul, Bool.not_true, Bool.not_false, hc']
        refine drawR (fun w2 => Mod (blk ua.v) w1.drew w2) 16 (ordL [0, 1, 2, 3, 4, 5, 6, 7, 8, 9, 10, 11, 12, 13, 14, 15]) (by decide +kernel) (Mod.refl _) ?_
        have hx2' := hx'.mod (Ext.drew w1) fun _ _ h => h.elim
        have hru : ∀ b, blk ua.v b → rblk vn us b := fun b hb => .inr ⟨ua, List.mem_of_getElem? hua, hb⟩
        have l0' : ∀ w2, Mod (blk ua.v) w1.drew w2 → (Instr.loadAt 23 (.pointer (some ⟨gb, 0, none⟩))).run Try.prog w2 = .ok vn w2 := fun w2 hm2 => by
          refine ld_cell tyG23 ?_
          rw [cell_of_row w2 gb 0 _ _ (0, 0) ((hm2.block gb hx2'.lt (fun hb => hx2'.gn (hru _ hb))).trans hx2'.cell)]; rfl
        have la' : ∀ w2, Mod (blk ua.v) w1.drew w2 → (Instr.loadAt 37 (.pointer (some (sadr vn a.toNat)))).run Try.prog w2 = .ok ua.v w2 := fun w2 hm2 => by
          have ho := hx2'.rn.outer.mod hm2 (fun b hb hb2 => hx2'.rn.off _ _ hua b hb2 hb)
          obtain ⟨es, ⟨he, _⟩, hcc⟩ := ho.get hua
          have := hcc 0 ua.v (by rw [he]; rfl)
          rw [add_zero'] at this
          have h1 : (a.toNat * Rep.sz Raw) = a.toNat := Nat.mul_one _
          rw [h1] at this
          exact ld_cell tyG37 this
        simp only [RnF_nil, RnF_op, ordL, of_load, of_lookup, mf_convert, mf_bin, of_buildSlice, of_alloc, of_box, of_makeSlice, of_append, of_copy, of_store, of_call, List.drop_succ_cons, List.drop_zero, CW_seq, CW_skip, CW_cond, CW_block, CW_loop, CW_reg, CW_draw, CW_exit, CW_ret, thenF_n, thenF_nK, thenF_r, thenF_x, blockF_n, blockF_nK, blockF_r, blockF_x, condF_t, condF_f, Rn_nil, Rn_ng, Rn_g, oneStep_g, os_move, os_assign, os_pick, os_bin, os_un, os_fieldAddr, os_field, os_indexAddr, os_index, os_slice, os_extract, os_nilCheck, os_makeFunc, os_build, os_len, os_cap, os_convert, os_min, os_max, on_load, on_buildSlice, on_alloc, on_box, on_makeSlice, on_lookup, mn_convert, mn_bin, optP_n, on_append, on_copy, on_store, on_call, ev, updo, upd, optP_s, resP_ok, resU_ok, ↓reduceIte, Nat.reduceEqDiff, List.map_cons, List.map_nil, List.map_toArray, argU, Nat.reduceAdd, gval_slot, gslot, List.getElem?_toArray, List.getElem?_cons_zero, List.getElem?_cons_succ, Option.bind_some, Option.some.injEq, reduceCtorEq, Bool.false_eq_true, Bool.true_eq_false, Option.map_some, Option.map_none, Int.toNat_zero, Option.isNone_none, Option.isNone_some, add_zero', binV, binI, unV, fieldV, extV, idxV, indexV, sliceV, lenV, capV, convV, min2V, max2V, TY, Option.isSome_some, Bool.true_and, Bool.and_true, Nat.mul_one, Int.toNat_natCast, le0n, Flat.val, Int.reduceToNat, Int.reduceLE, Int.reduceLT, Int.cast_ofNat_Int, decide_true, add_lit, Nat.zero_add, Nat.zero_mul, Nat.one_mul, Bool.not_true, Bool.not_false, hSn, hin, d0]
        refine ⟨vn, l0', ?_⟩
        simp only [RnF_nil, RnF_op, ordL, of_load, of_lookup, mf_convert, mf_bin, of_buildSlice, of_alloc, of_box, of_makeSlice, of_append, of_copy, of_store, of_call, List.drop_succ_cons, List.drop_zero, CW_seq, CW_skip, CW_cond, CW_block, CW_loop, CW_reg, CW_draw, CW_exit, CW_ret, thenF_n, thenF_nK, thenF_r, thenF_x, blockF_n, blockF_nK, blockF_r, blockF_x, condF_t, condF_f, Rn_nil, Rn_ng, Rn_g, oneStep_g, os_move, os_assign, os_pick, os_bin, os_un, os_fieldAddr, os_field, os_indexAddr, os_index, os_slice, os_extract, os_nilCheck, os_makeFunc, os_build, os_len, os_cap, os_convert, os_min, os_max, on_load, on_buildSlice, on_alloc, on_box, on_makeSlice, on_lookup, mn_convert, mn_bin, optP_n, on_append, on_copy, on_store, on_call, ev, updo, upd, optP_s, resP_ok, resU_ok, ↓reduceIte, Nat.reduceEqDiff, List.map_cons, List.map_nil, List.map_toArray, argU, Nat.reduceAdd, gval_slot, gslot, List.getElem?_toArray, List.getElem?_cons_zero, List.getElem?_cons_succ, Option.bind_some, Option.some.injEq, reduceCtorEq, Bool.false_eq_true, Bool.true_eq_false, Option.map_some, Option.map_none, Int.toNat_zero, Option.isNone_none, Option.isNone_some, add_zero', binV, binI, unV, fieldV, extV, idxV, indexV, sliceV, lenV, capV, convV, min2V, max2V, TY, Option.isSome_some, Bool.true_and, Bool.and_true, Nat.mul_one, Int.toNat_natCast, le0n, Flat.val, Int.reduceToNat, Int.reduceLE, Int.reduceLT, Int.cast_ofNat_Int, decide_true, add_lit, Nat.zero_add, Nat.zero_mul, Nat.one_mul, Bool.not_true, Bool.not_false, hSn, hin, d0]
        refine ⟨vn, l0', ?_⟩
        simp only [RnF_nil, RnF_op, ordL, of_load, of_lookup, mf_convert, mf_bin, of_buildSlice, of_alloc, of_box, of_makeSlice, of_append, of_copy, of_store, of_call, List.drop_succ_cons, List.drop_zero, CW_seq, CW_skip, CW_cond, CW_block, CW_loop, CW_reg, CW_draw, CW_exit, CW_ret, thenF_n, thenF_nK, thenF_r, thenF_x, blockF_n, blockF_nK, blockF_r, blockF_x, condF_t, condF_f, Rn_nil, Rn_ng, Rn_g, oneStep_g, os_move, os_assign, os_pick, os_bin, os_un, os_fieldAddr, os_field, os_indexAddr, os_index, os_slice, os_extract, os_nilCheck, os_makeFunc, os_build, os_len, os_cap, os_convert, os_min, os_max, on_load, on_buildSlice, on_alloc, on_box, on_makeSlice, on_lookup, mn_convert, mn_bin, optP_n, on_append, on_copy, on_store, on_call, ev, updo, upd, optP_s, resP_ok, resU_ok, ↓reduceIte, Nat.reduceEqDiff, List.map_cons, List.map_nil, List.map_toArray, argU, Nat.reduceAdd, gval_slot, gslot, List.getElem?_toArray, List.getElem?_cons_zero, List.getElem?_cons_succ, Option.bind_some, Option.some.injEq, reduceCtorEq, Bool.false_eq_true, Bool.true_eq_false, Option.map_some, Option.map_none, Int.toNat_zero, Option.isNone_none, Option.isNone_some, add_zero', binV, binI, unV, fieldV, extV, idxV, indexV, sliceV, lenV, capV, convV, min2V, max2V, TY, Option.isSome_some, Bool.true_and, Bool.and_true, Nat.mul_one, Int.toNat_natCast, le0n, Flat.val, Int.reduceToNat, Int.reduceLE, Int.reduceLT, Int.cast_ofNat_Int, decide_true, add_lit, Nat.zero_add, Nat.zero_mul, Nat.one_mul, Bool.not_true, Bool.not_false, hSn, hin, d0]
        refine ⟨ua.v, la', ?_⟩
        have hbs := run_buildSlice1 (P := Try.prog) (w := w1.drew) (t := 37) tyE37 tyZ3 (by rw [tyS3]; omega) (by rw [tyS3]; omega) (x := .int .i64 b) (by rw [tyS3]; rfl)
        simp only [RnF_nil, RnF_op, ordL, of_load, of_lookup, mf_convert, mf_bin, of_buildSlice, of_alloc, of_box, of_makeSlice, of_append, of_copy, of_store, of_call, List.drop_succ_cons, List.drop_zero, CW_seq, CW_skip, CW_cond, CW_block, CW_loop, CW_reg, CW_draw, CW_exit, CW_ret, thenF_n, thenF_nK, thenF_r, thenF_x, blockF_n, blockF_nK, blockF_r, blockF_x, condF_t, condF_f, Rn_nil, Rn_ng, Rn_g, oneStep_g, os_move, os_assign, os_pick, os_bin, os_un, os_fieldAddr, os_field, os_indexAddr, os_index, os_slice, os_extract, os_nilCheck, os_makeFunc, os_build, os_len, os_cap, os_convert, os_min, os_max, on_load, on_buildSlice, on_alloc, on_box, on_makeSlice, on_lookup, mn_convert, mn_bin, optP_n, on_append, on_copy, on_store, on_call, ev, updo, upd, optP_s, resP_ok, resU_ok, ↓reduceIte, Nat.reduceEqDiff, List.map_cons, List.map_nil, List.map_toArray, argU, Nat.reduceAdd, gval_slot, gslot, List.getElem?_toArray, List.getElem?_cons_zero, List.getElem?_cons_succ, Option.bind_some, Option.some.injEq, reduceCtorEq, Bool.false_eq_true, Bool.true_eq_false, Option.map_some, Option.map_none, Int.toNat_zero, Option.isNone_none, Option.isNone_some, add_zero', binV, binI, unV, fieldV, extV, idxV, indexV, sliceV, lenV, capV, convV, min2V, max2V, TY, Option.isSome_some, Bool.true_and, Bool.and_true, Nat.mul_one, Int.toNat_natCast, le0n, Flat.val, Int.reduceToNat, Int.reduceLE, Int.reduceLT, Int.cast_ofNat_Int, decide_true, add_lit, Nat.zero_add, Nat.zero_mul, Nat.one_mul, Bool.not_true, Bool.not_false, hSn, hin, d0, hbs, keepS, Value.cells]
        refine ⟨Mod.alloc _ _, ?_⟩
        have hown2 := hx2'.rn.row _ _ _ hua hx1
        refine callP (by kernel_rfl : hasBody Try.prog 53 = true) (insert_any b _ 1 w1.drew rfl hown2 List.countP_le_length (Nat.le_trans (hr1.len _ hmem) (by omega)) (hle_trans hw1 (hle_ext (Ext.drew w1)))) ?_
        rintro u1 w3 ⟨ho3, hm3, hv3⟩
        refine ⟨hm3, ?_⟩
        have hx3o := hx2'.rn.outer.mod hm3 (fun b hb hb2 => hx2'.rn.off _ _ hua b hb2 hb)
        obtain ⟨w4, s1, s2, s3, s4⟩ := row_store (P := Try.prog) (t := 37) hx3o (i := a.toNat) (by omega) ho3.isS (zeroT_info tyZ37).choose_spec.1 (by rw [← szT_info (zeroT_info tyZ37).choose_spec.1]; exact tyS37)
        have hx4 := hx2'.set hua hm3 ho3 hv3 s3 s2
        -- the other half
        have hw4 : Mod M w1.drew w4 := (hm3.weaken fun k _ hk => (hM k).2 (.inr (.inl (hru k hk)))).trans (s3.weaken fun k _ hk => (hM k).2 (.inr (.inl (.inl hk))))
        have hwh4 : hle h (hpOf w4) := hle_mod (hle_trans hw1 (hle_ext (Ext.drew w1))) hw4 fun k hk => by
          rcases (hM k).1 hk with rfl | hk | hk
          · exact hx.free
          · exact hx.rn.free hk
          · exact hx.rp.free hk
        have e1 : w4.cell? ⟨gb, 1, none⟩ = some vp := by rw [cell_of_row w4 gb 1 _ _ (0, 0) hx4.cell]; rfl
        have m0 := ld_cell (P := Try.prog) (t := 23) tyG23 e1
        have hSp := hx4.rp.outer.isS
        have hb2 : okN pv.length b = true := by rw [hl]; exact hb
        obtain ⟨hy1, hy2⟩ := rowF_at hb2
        have hlu' : us'.length = pv.length := hx4.rp.len
        have hinp := hx4.rp.outer.inS (k := b.toNat) (by omega)
        have d1 : decide (0 ≤ b) = true := by simpa using (okN_iff.1 hb).1
        obtain ⟨ub, hub⟩ : ∃ ub, us'[b.toNat]? = some ub := ⟨us'[b.toNat]'(by omega), List.getElem?_eq_getElem (by omega)⟩
        have hownp := hx4.rp.row _ _ _ hub hy1
        have lb := rows_ld (P := Try.prog) (t := 37) hx4.rp hub tyG37
        have hmemp := List.mem_of_getElem? hy1
        simp only [RnF_nil, RnF_op, ordL, of_load, of_lookup, mf_convert, mf_bin, of_buildSlice, of_alloc, of_box, of_makeSlice, of_append, of_copy, of_store, of_call, List.drop_succ_cons, List.drop_zero, CW_seq, CW_skip, CW_cond, CW_block, CW_loop, CW_reg, CW_draw, CW_exit, CW_ret, thenF_n, thenF_nK, thenF_r, thenF_x, blockF_n, blockF_nK, blockF_r, blockF_x, condF_t, condF_f, Rn_nil, Rn_ng, Rn_g, oneStep_g, os_move, os_assign, os_pick, os_bin, os_un, os_fieldAddr, os_field, os_indexAddr, os_index, os_slice, os_extract, os_nilCheck, os_makeFunc, os_build, os_len, os_cap, os_convert, os_min, os_max, on_load, on_buildSlice, on_alloc, on_box, on_makeSlice, on_lookup, mn_convert, mn_bin, optP_n, on_append, on_copy, on_store, on_call, ev, updo, upd, optP_s, resP_ok, resU_ok, ↓reduceIte, Nat.reduceEqDiff, List.map_cons, List.map_nil, List.map_toArray, argU, Nat.reduceAdd, gval_slot, gslot, List.getElem?_toArray, List.getElem?_cons_zero, List.getElem?_cons_succ, Option.bind_some, Option.some.injEq, reduceCtorEq, Bool.false_eq_true, Bool.true_eq_false, Option.map_some, Option.map_none, Int.toNat_zero, Option.isNone_none, Option.isNone_some, add_zero', binV, binI, unV, fieldV, extV, idxV, indexV, sliceV, lenV, capV, convV, min2V, max2V, TY, Option.isSome_some, Bool.true_and, Bool.and_true, Nat.mul_one, Int.toNat_natCast, le0n, Flat.val, Int.reduceToNat, Int.reduceLE, Int.reduceLT, Int.cast_ofNat_Int, decide_true, add_lit, Nat.zero_add, Nat.zero_mul, Nat.one_mul, Bool.not_true, Bool.not_false, hSn, hin, d0, s1, m0, hSp, hinp, d1, lb]
        refine callP (by kernel_rfl : hasBody Try.prog 52 = true) (search_any a hownp (Nat.le_trans (hr2.len _ hmemp) (by omega)) (hr2.le' hmemp)) ?_
        rintro u w5 ⟨rfl, he5⟩
        have hw5 : hle h (hpOf w5) := hle_trans hwh4 (hle_ext he5)
        have hx5 := hx4.mod he5 fun _ _ h => h.elim
        simp only [CW_seq, CW_skip, CW_cond, CW_block, CW_loop, CW_reg, CW_draw, CW_exit, CW_ret, thenF_n, thenF_nK, thenF_r, thenF_x, blockF_n, blockF_nK, blockF_r, blockF_x, condF_t, condF_f, Rn_nil, Rn_ng, Rn_g, oneStep_g, os_move, os_assign, os_pick, os_bin, os_un, os_fieldAddr, os_field, os_indexAddr, os_index, os_slice, os_extract, os_nilCheck, os_makeFunc, os_build, os_len, os_cap, os_convert, os_min, os_max, on_load, on_buildSlice, on_alloc, on_box, on_makeSlice, on_lookup, mn_convert, mn_bin, optP_n, on_append, on_copy, on_store, on_call, ev, updo, upd, optP_s, resP_ok, resU_ok, ↓reduceIte, Nat.reduceEqDiff, List.map_cons, List.map_nil, List.map_toArray, argU, Nat.reduceAdd, gval_slot, gslot, List.getElem?_toArray, List.getElem?_cons_zero, List.getElem?_cons_succ, Option.bind_some, Option.some.injEq, reduceCtorEq, Bool.false_eq_true, Bool.true_eq_false, Option.map_some, Option.map_none, Int.toNat_zero, Option.isNone_none, Option.isNone_some, add_zero', binV, binI, unV, fieldV, extV, idxV, indexV, sliceV, lenV, capV, convV, min2V, max2V, TY, Option.isSome_some, Bool.true_and, Bool.and_true, Nat.mul_one, Int.toNat_natCast, le0n, Flat.val, Int.reduceToNat, Int.reduceLE, Int.reduceLT, Int.cast_ofNat_Int, decide_true, add_lit, Nat.zero_add, Nat.zero_mul, Nat.one_mul, Bool.not_true, Bool.not_false]
        refine drawR (fun w2 => Mod (blk ub.v) w5.drew w2) 16 (ordL [0, 1, 2, 3, 4, 5, 6, 7, 8, 9, 10, 11, 12, 13, 14, 15]) (by decide +kernel) (Mod.refl _) ?_
        have hx6 := hx5.mod (Ext.drew w5) fun _ _ h => h.elim
        have hru' : ∀ b, blk ub.v b → rblk vp us' b := fun b hb => .inr ⟨ub, List.mem_of_getElem? hub, hb⟩
        have m0' : ∀ w2, Mod (blk ub.v) w5.drew w2 → (Instr.loadAt 23 (.pointer (some ⟨gb, 1, none⟩))).run Try.prog w2 = .ok vp w2 := fun w2 hm2 => by
          refine ld_cell tyG23 ?_
          rw [cell_of_row w2 gb 1 _ _ (0, 0) ((hm2.block gb hx6.lt (fun hb => hx6.gp (hru' _ hb))).trans hx6.cell)]; rfl
        have lb' : ∀ w2, Mod (blk ub.v) w5.drew w2 → (Instr.loadAt 37 (.pointer (some (sadr vp b.toNat)))).run Try.prog w2 = .ok ub.v w2 := fun w2 hm2 => by
          have ho := hx6.rp.outer.mod hm2 (fun b hb hb2 => hx6.rp.off _ _ hub b hb2 hb)
          obtain ⟨es, ⟨he, _⟩, hcc⟩ := ho.get hub
          have := hcc 0 ub.v (by rw [he]; rfl)
          rw [add_zero'] at this
          have h1 : (b.toNat * Rep.sz Raw) = b.toNat := Nat.mul_one _
          rw [h1] at this
          exact ld_cell tyG37 this
        simp only [RnF_nil, RnF_op, ordL, of_load, of_lookup, mf_convert, mf_bin, of_buildSlice, of_alloc, of_box, of_makeSlice, of_append, of_copy, of_store, of_call, List.drop_succ_cons, List.drop_zero, CW_seq, CW_skip, CW_cond, CW_block, CW_loop, CW_reg, CW_draw, CW_exit, CW_ret, thenF_n, thenF_nK, thenF_r, thenF_x, blockF_n, blockF_nK, blockF_r, blockF_x, condF_t, condF_f, Rn_nil, Rn_ng, Rn_g, oneStep_g, os_move, os_assign, os_pick, os_bin, os_un, os_fieldAddr, os_field, os_indexAddr, os_index, os_slice, os_extract, os_nilCheck, os_makeFunc, os_build, os_len, os_cap, os_convert, os_min, os_max, on_load, on_buildSlice, on_alloc, on_box, on_makeSlice, on_lookup, mn_convert, mn_bin, optP_n, on_append, on_copy, on_store, on_call, ev, updo, upd, optP_s, resP_ok, resU_ok, ↓reduceIte, Nat.reduceEqDiff, List.map_cons, List.map_nil, List.map_toArray, argU, Nat.reduceAdd, gval_slot, gslot, List.getElem?_toArray, List.getElem?_cons_zero, List.getElem?_cons_succ, Option.bind_some, Option.some.injEq, reduceCtorEq, Bool.false_eq_true, Bool.true_eq_false, Option.map_some, Option.map_none, Int.toNat_zero, Option.isNone_none, Option.isNone_some, add_zero', binV, binI, unV, fieldV, extV, idxV, indexV, sliceV, lenV, capV, convV, min2V, max2V, TY, Option.isSome_some, Bool.true_and, Bool.and_true, Nat.mul_one, Int.toNat_natCast, le0n, Flat.val, Int.reduceToNat, Int.reduceLE, Int.reduceLT, Int.cast_ofNat_Int, decide_true, add_lit, Nat.zero_add, Nat.zero_mul, Nat.one_mul, Bool.not_true, Bool.not_false, hSp, hinp, d1]
        refine ⟨vp, m0', ?_⟩
        simp only [RnF_nil, RnF_op, ordL, of_load, of_lookup, mf_convert, mf_bin, of_buildSlice, of_alloc, of_box, of_makeSlice, of_append, of_copy, of_store, of_call, List.drop_succ_cons, List.drop_zero, CW_seq, CW_skip, CW_cond, CW_block, CW_loop, CW_reg, CW_draw, CW_exit, CW_ret, thenF_n, thenF_nK, thenF_r, thenF_x, blockF_n, blockF_nK, blockF_r, blockF_x, condF_t, condF_f, Rn_nil, Rn_ng, Rn_g, oneStep_g, os_move, os_assign, os_pick, os_bin, os_un, os_fieldAddr, os_field, os_indexAddr, os_index, os_slice, os_extract, os_nilCheck, os_makeFunc, os_build, os_len, os_cap, os_convert, os_min, os_max, on_load, on_buildSlice, on_alloc, on_box, on_makeSlice, on_lookup, mn_convert, mn_bin, optP_n, on_append, on_copy, on_store, on_call, ev, updo, upd, optP_s, resP_ok, resU_ok, ↓reduceIte, Nat.reduceEqDiff, List.map_cons, List.map_nil, List.map_toArray, argU, Nat.reduceAdd, gval_slot, gslot, List.getElem?_toArray, List.getElem?_cons_zero, List.getElem?_cons_succ, Option.bind_some, Option.some.injEq, reduceCtorEq, Bool.false_eq_true, Bool.true_eq_false, Option.map_some, Option.map_none, Int.toNat_zero, Option.isNone_none, Option.isNone_some, add_zero', binV, binI, unV, fieldV, extV, idxV, indexV, sliceV, lenV, capV, convV, min2V, max2V, TY, Option.isSome_some, Bool.true_and, Bool.and_true, Nat.mul_one, Int.toNat_natCast, le0n, Flat.val, Int.reduceToNat, Int.reduceLE, Int.reduceLT, Int.cast_ofNat_Int, decide_true, add_lit, Nat.zero_add, Nat.zero_mul, Nat.one_mul, Bool.not_true, Bool.not_false, hSp, hinp, d1]
        refine ⟨vp, m0', ?_⟩
        simp only [RnF_nil, RnF_op, ordL, of_load, of_lookup, mf_convert, mf_bin, of_buildSlice, of_alloc, of_box, of_makeSlice, of_append, of_copy, of_store, of_call, List.drop_succ_cons, List.drop_zero, CW_seq, CW_skip, CW_cond, CW_block, CW_loop, CW_reg, CW_draw, CW_exit, CW_ret, thenF_n, thenF_nK, thenF_r, thenF_x, blockF_n, blockF_nK, blockF_r, blockF_x, condF_t, condF_f, Rn_nil, Rn_ng, Rn_g, oneStep_g, os_move, os_assign, os_pick, os_bin, os_un, os_fieldAddr, os_field, os_indexAddr, os_index, os_slice, os_extract, os_nilCheck, os_makeFunc, os_build, os_len, os_cap, os_convert, os_min, os_max, on_load, on_buildSlice, on_alloc, on_box, on_makeSlice, on_lookup, mn_convert, mn_bin, optP_n, on_append, on_copy, on_store, on_call, ev, updo, upd, optP_s, resP_ok, resU_ok, ↓reduceIte, Nat.reduceEqDiff, List.map_cons, List.map_nil, List.map_toArray, argU, Nat.reduceAdd, gval_slot, gslot, List.getElem?_toArray, List.getElem?_cons_zero, List.getElem?_cons_succ, Option.bind_some, Option.some.injEq, reduceCtorEq, Bool.false_eq_true, Bool.true_eq_false, Option.map_some, Option.map_none, Int.toNat_zero, Option.isNone_none, Option.isNone_some, add_zero', binV, binI, unV, fieldV, extV, idxV, indexV, sliceV, lenV, capV, convV, min2V, max2V, TY, Option.isSome_some, Bool.true_and, Bool.and_true, Nat.mul_one, Int.toNat_natCast, le0n, Flat.val, Int.reduceToNat, Int.reduceLE, Int.reduceLT, Int.cast_ofNat_Int, decide_true, add_lit, Nat.zero_add, Nat.zero_mul, Nat.one_mul, Bool.not_true, Bool.not_false, hSp, hinp, d1]
        refine ⟨ub.v, lb', ?_⟩
        have hbs2 := run_buildSlice1 (P := Try.prog) (w := w5.drew) (t := 37) tyE37 tyZ3 (by rw [tyS3]; omega) (by rw [tyS3]; omega) (x := .int .i64 a) (by rw [tyS3]; rfl)
        simp only [RnF_nil, RnF_op, ordL, of_load, of_lookup, mf_convert, mf_bin, of_buildSlice, of_alloc, of_box, of_makeSlice, of_append, of_copy, of_store, of_call, List.drop_succ_cons, List.drop_zero, CW_seq, CW_skip, CW_cond, CW_block, CW_loop, CW_reg, CW_draw, CW_exit, CW_ret, thenF_n, thenF_nK, thenF_r, thenF_x, blockF_n, blockF_nK, blockF_r, blockF_x, condF_t, condF_f, Rn_nil, Rn_ng, Rn_g, oneStep_g, os_move, os_assign, os_pick, os_bin, os_un, os_fieldAddr, os_field, os_indexAddr, os_index, os_slice, os_extract, os_nilCheck, os_makeFunc, os_build, os_len, os_cap, os_convert, os_min, os_max, on_load, on_buildSlice, on_alloc, on_box, on_makeSlice, on_lookup, mn_convert, mn_bin, optP_n, on_append, on_copy, on_store, on_call, ev, updo, upd, optP_s, resP_ok, resU_ok, ↓reduceIte, Nat.reduceEqDiff, List.map_cons, List.map_nil, List.map_toArray, argU, Nat.reduceAdd, gval_slot, gslot, List.getElem?_toArray, List.getElem?_cons_zero, List.getElem?_cons_succ, Option.bind_some, Option.some.injEq, reduceCtorEq, Bool.false_eq_true, Bool.true_eq_false, Option.map_some, Option.map_none, Int.toNat_zero, Option.isNone_none, Option.isNone_some, add_zero', binV, binI, unV, fieldV, extV, idxV, indexV, sliceV, lenV, capV, convV, min2V, max2V, TY, Option.isSome_some, Bool.true_and, Bool.and_true, Nat.mul_one, Int.toNat_natCast, le0n, Flat.val, Int.reduceToNat, Int.reduceLE, Int.reduceLT, Int.cast_ofNat_Int, decide_true, add_lit, Nat.zero_add, Nat.zero_mul, Nat.one_mul, Bool.not_true, Bool.not_false, hSp, hinp, d1, hbs2, keepS, Value.cells]
        refine ⟨Mod.alloc _ _, ?_⟩
        have hownp2 := hx6.rp.row _ _ _ hub hy1
        refine callP (by kernel_rfl : hasBody Try.prog 53 = true) (insert_any a _ 1 w5.drew rfl hownp2 List.countP_le_length (Nat.le_trans (hr2.len _ hmemp) (by omega)) (hle_trans hw5 (hle_ext (Ext.drew w5)))) ?_
        rintro u2 w7 ⟨ho7, hm7, hv7⟩
        refine ⟨hm7, ?_⟩
        have hx7o := hx6.rp.outer.mod hm7 (fun b hb hb2 => hx6.rp.off _ _ hub b hb2 hb)
        obtain ⟨w8, t1, t2, t3, t4⟩ := row_store (P := Try.prog) (t := 37) hx7o (i := b.toNat) (by omega) ho7.isS (zeroT_info tyZ37).choose_spec.1 (by rw [← szT_info (zeroT_info tyZ37).choose_spec.1]; exact tyS37)
        have hx8 := (hx6.swap.set hub hm7 ho7 hv7 t3 t2).swap
        simp only [RnF_nil, RnF_op, ordL, of_load, of_lookup, mf_convert, mf_bin, of_buildSlice, of_alloc, of_box, of_makeSlice, of_append, of_copy, of_store, of_call, List.drop_succ_cons, List.drop_zero, CW_seq, CW_skip, CW_cond, CW_block, CW_loop, CW_reg, CW_draw, CW_exit, CW_ret, thenF_n, thenF_nK, thenF_r, thenF_x, blockF_n, blockF_nK, blockF_r, blockF_x, condF_t, condF_f, Rn_nil, Rn_ng, Rn_g, oneStep_g, os_move, os_assign, os_pick, os_bin, os_un, os_fieldAddr, os_field, os_indexAddr, os_index, os_slice, os_extract, os_nilCheck, os_makeFunc, os_build, os_len, os_cap, os_convert, os_min, os_max, on_load, on_buildSlice, on_alloc, on_box, on_makeSlice, on_lookup, mn_convert, mn_bin, optP_n, on_append, on_copy, on_store, on_call, ev, updo, upd, optP_s, resP_ok, resU_ok, ↓reduceIte, Nat.reduceEqDiff, List.map_cons, List.map_nil, List.map_toArray, argU, Nat.reduceAdd, gval_slot, gslot, List.getElem?_toArray, List.getElem?_cons_zero, List.getElem?_cons_succ, Option.bind_some, Option.some.injEq, reduceCtorEq, Bool.false_eq_true, Bool.true_eq_false, Option.map_some, Option.map_none, Int.toNat_zero, Option.isNone_none, Option.isNone_some, add_zero', binV, binI, unV, fieldV, extV, idxV, indexV, sliceV, lenV, capV, convV, min2V, max2V, TY, Option.isSome_some, Bool.true_and, Bool.and_true, Nat.mul_one, Int.toNat_natCast, le0n, Flat.val, Int.reduceToNat, Int.reduceLE, Int.reduceLT, Int.cast_ofNat_Int, decide_true, add_lit, Nat.zero_add, Nat.zero_mul, Nat.one_mul, Bool.not_true, Bool.not_false, hSp, hinp, d1, t1]
        refine retq1 Try.results39 ?_
        simp only [upd, ↓reduceIte, Nat.reduceEqDiff]
        refine ⟨by rw [hyes], fun k => k = gb ∨ rblk vn (us.set a.toNat ⟨u1⟩) k ∨ rblk vp (us'.set b.toNat ⟨u2⟩) k, ⟨gb, vn, us.set a.toNat ⟨u1⟩, vp, us'.set b.toNat ⟨u2⟩, rfl, ?_, fun _ => Iff.rfl⟩, ?_, ?_⟩
        · unfold addN addP
          rw [hyes]
          exact hx8
        · have k1 : Mod M w w1.drew := (he1.trans (Ext.drew w1)).weaken fun _ _ h => h.elim
          have k2 : Mod M w4 w5.drew := (he5.trans (Ext.drew w5)).weaken fun _ _ h => h.elim
          have k3 : Mod M w5.drew w8 := (hm7.weaken fun k _ hk => (hM k).2 (.inr (.inr (hru' k hk)))).trans (t3.weaken fun k _ hk => (hM k).2 (.inr (.inr (.inl hk))))
          exact (k1.trans hw4).trans (k2.trans k3)
        · have z1 : w.heap.size ≤ w1.drew.heap.size := (he1.trans (Ext.drew w1)).size
          have z2 : w1.drew.heap.size ≤ w5.drew.heap.size := Nat.le_trans hw4.size (he5.trans (Ext.drew w5)).size
          have q : ∀ (us : List Raw) (i : Nat) (u : Value) (v : Raw) (W : World), us[i]? = some v → movedTo W v.v u → w.heap.size ≤ W.heap.size → ∀ (vn : Value) (k : Nat), rblk vn (us.set i ⟨u⟩) k → rblk vn us k ∨ w.heap.size ≤ k := by
            intro us i u v W hi hv hW vn k hk
            rcases hk with hk | ⟨x, hx1, hk⟩
            · exact .inl (.inl hk)
            · rcases List.mem_or_eq_of_mem_set hx1 with h1 | h1
              · exact .inl (.inr ⟨x, h1, hk⟩)
              · subst h1
                rcases hv k hk with h2 | h2
                · exact .inl (.inr ⟨v, List.mem_of_getElem? hi, h2⟩)
                · exact .inr (by omega)
          rintro k (rfl | hk | hk)
          · exact .inl ((hM _).2 (.inl rfl))
          · rcases q _ _ _ _ _ hua hv3 z1 _ _ hk with h1 | h1
            · exact .inl ((hM _).2 (.inr (.inl h1)))
            · exact .inr h1
          · rcases q _ _ _ _ _ hub hv7 (by omega) _ _ hk with h1 | h1
            · exact .inl ((hM _).2 (.inr (.inr h1)))
            · exact .inr h1
    · have hb' : okN nx.length b = false := by simpa using hb
      have hnb : (!okN nx.length b) = true := by rw [hb']; rfl
      simp only [CW_seq, CW_skip, CW_cond, CW_block, CW_loop, CW_reg, CW_draw, CW_exit, CW_ret, thenF_n, thenF_nK, thenF_r, thenF_x, blockF_n, blockF_nK, blockF_r, blockF_x, condF_t, condF_f, Rn_nil, Rn_ng, Rn_g, oneStep_g, os_move, os_assign, os_pick, os_bin, os_un, os_fieldAddr, os_field, os_indexAddr, os_index, os_slice, os_extract, os_nilCheck, os_makeFunc, os_build, os_len, os_cap, os_convert, os_min, os_max, on_load, on_buildSlice, on_alloc, on_box, on_makeSlice, on_lookup, mn_convert, mn_bin, optP_n, on_append, on_copy, on_store, on_call, ev, updo, upd, optP_s, resP_ok, resU_ok, ↓reduceIte, Nat.reduceEqDiff, List.map_cons, List.map_nil, List.map_toArray, argU, Nat.reduceAdd, gval_slot, gslot, List.getElem?_toArray, List.getElem?_cons_zero, List.getElem?_cons_succ, Option.bind_some, Option.some.injEq, reduceCtorEq, Bool.false_eq_true, Bool.true_eq_false, Option.map_some, Option.map_none, Int.toNat_zero, Option.isNone_none, Option.isNone_some, add_zero', binV, binI, unV, fieldV, extV, idxV, indexV, sliceV, lenV, capV, convV, min2V, max2V, TY, Option.isSome_some, Bool.true_and, Bool.and_true, Nat.mul_one, Int.toNat_natCast, le0n, Flat.val, Int.reduceToNat, Int.reduceLE, Int.reduceLT, Int.cast_ofNat_Int, decide_true, add_lit, Nat.zero_add, Nat.zero_mul, Nat.one_mul, Bool.not_true, Bool.not_false, hnb]
      refine retq1 Try.results39 ?_
      simp only [upd, ↓reduceIte, Nat.reduceEqDiff]
      have hno : addOk nx a b = false := by simp only [addOk, hb', Bool.and_false, Bool.false_and]
      exact ⟨by rw [hno], same hno w (Mod.refl _)⟩
  · have ha' : okN nx.length a = false := by simpa using ha
    have hna : (!okN nx.length a) = true := by rw [ha']; rfl
    simp only [CW_seq, CW_skip, CW_cond, CW_block, CW_loop, CW_reg, CW_draw, CW_exit, CW_ret, thenF_n, thenF_nK, thenF_r, thenF_x, blockF_n, blockF_nK, blockF_r, blockF_x, condF_t, condF_f, Rn_nil, Rn_ng, Rn_g, oneStep_g, os_move, os_assign, os_pick, os_bin, os_un, os_fieldAddr, os_field, os_indexAddr, os_index, os_slice, os_extract, os_nilCheck, os_makeFunc, os_build, os_len, os_cap, os_convert, os_min, os_max, on_load, on_buildSlice, on_alloc, on_box, on_makeSlice, on_lookup, mn_convert, mn_bin, optP_n, on_append, on_copy, on_store, on_call, ev, updo, upd, optP_s, resP_ok, resU_ok, ↓reduceIte, Nat.reduceEqDiff, List.map_cons, List.map_nil, List.map_toArray, argU, Nat.reduceAdd, gval_slot, gslot, List.getElem?_toArray, List.getElem?_cons_zero, List.getElem?_cons_succ, Option.bind_some, Option.some.injEq, reduceCtorEq, Bool.false_eq_true, Bool.true_eq_false, Option.map_some, Option.map_none, Int.toNat_zero, Option.isNone_none, Option.isNone_some, add_zero', binV, binI, unV, fieldV, extV, idxV, indexV, sliceV, lenV, capV, convV, min2V, max2V, TY, Option.isSome_some, Bool.true_and, Bool.and_true, Nat.mul_one, Int.toNat_natCast, le0n, Flat.val, Int.reduceToNat, Int.reduceLE, Int.reduceLT, Int.cast_ofNat_Int, decide_true, add_lit, Nat.zero_add, Nat.zero_mul, Nat.one_mul, Bool.not_true, Bool.not_false, hna]
    refine retq1 Try.results39 ?_
    simp only [upd, ↓reduceIte, Nat.reduceEqDiff]
    have hno : addOk nx a b = false := by simp only [addOk, ha', Bool.false_and]
    exact ⟨by rw [hno], same hno _ (Mod.refl _)⟩
end Go.Proofs.Ytldmnnloakpjlaa
