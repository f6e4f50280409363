/- A queue of numbers: a slice that is owned and whose beginning moves on in its block. -/
import Derived.Test.YtldmnnloakpjlaaB6
import Derived.ArgAppend
set_option linter.unusedVariables false
set_option linter.unusedSimpArgs false
namespace Go.Proofs.Ytldmnnloakpjlaa
open Go

def OwnQ (h : Hp) (w : World) (T : TypeId) (v : Value) (xs : List Int) : Prop :=
  (v = .slice none 0 0 ∧ xs = []) ∨
  ∃ b off c cur, v = .slice (some ⟨b, off, none⟩) xs.length c ∧ h b = none ∧ w.heap[b]? = some (.cells cur T (0, 0)) ∧ xs.length ≤ c ∧ c ≤ maxLen ∧ off + c ≤ cur.size ∧
    ∀ (j : Nat) (x : Int), xs[j]? = some x → cur[off + j]? = some (.int .i64 x)

section
variable {P : Program} {h : Hp} {w : World} {t T : TypeId} {v : Value} {xs : List Int}
theorem Own.toQ (ho : Own h w T v xs) : OwnQ h w T v xs := by
  rcases ho with hn | ⟨b, c, cur, rfl, h1, h2, h3, h4, h5, h6⟩
  · exact .inl hn
  · have h5' : cur.size = c := by rw [h5]; exact Nat.mul_one c
    have h6' : cur.toList.take xs.length = ints xs := encs_ints.1 (by
      have : xs.length * Rep.sz Int = xs.length := Nat.mul_one _
      rw [this] at h6; exact h6)
    refine .inr ⟨b, 0, c, cur, rfl, h1, h2, h3, h4, by omega, fun j x hj => ?_⟩
    have hjl := (List.getElem?_eq_some_iff.1 hj).1
    have h7 := congrArg (fun l => l[j]?) h6'
    simp only [List.getElem?_take_of_lt hjl] at h7
    rw [Nat.zero_add]
    have h8 : cur[j]? = cur.toList[j]? := by simp
    rw [h8, h7]
    simp [ints, hj]
theorem OwnQ.isS (ho : OwnQ h w T v xs) : isS v = true := by
  rcases ho with ⟨rfl, rfl⟩ | ⟨b, off, c, cur, rfl, _⟩ <;> rfl
theorem OwnQ.vlen (ho : OwnQ h w T v xs) : vlen v = xs.length := by
  rcases ho with ⟨rfl, rfl⟩ | ⟨b, off, c, cur, rfl, _⟩ <;> rfl
theorem OwnQ.vcap (ho : OwnQ h w T v xs) : xs.length ≤ vcap v := by
  rcases ho with ⟨rfl, rfl⟩ | ⟨b, off, c, cur, rfl, _, _, h3, _⟩
  · simp
  · exact h3
theorem OwnQ.inS (ho : OwnQ h w T v xs) {k : Nat} (hk : k < xs.length) : inS v k = true := by
  rcases ho with ⟨rfl, rfl⟩ | ⟨b, off, c, cur, rfl, _⟩
  · simp at hk
  · simp [Go.Proofs.Ytldmnnloakpjlaa.inS, hk]
theorem OwnQ.free (ho : OwnQ h w T v xs) {b : Nat} (hb : blk v b) : h b = none := by
  rcases ho with ⟨rfl, _⟩ | ⟨b', off, c, cur, rfl, h1, _⟩
  · exact absurd hb blk_nil
  · simp [blk, Value.ownBlock] at hb; subst hb; exact h1
theorem OwnQ.lt (ho : OwnQ h w T v xs) {b : Nat} (hb : blk v b) : b < w.heap.size := by
  rcases ho with ⟨rfl, _⟩ | ⟨b', off, c, cur, rfl, h1, h2, _⟩
  · exact absurd hb blk_nil
  · simp [blk, Value.ownBlock] at hb; subst hb; exact (Array.getElem?_eq_some_iff.1 h2).1
theorem OwnQ.mod {M : Nat → Prop} {w' : World} (ho : OwnQ h w T v xs) (hm : Mod M w w') (hM : ∀ b, blk v b → ¬ M b) : OwnQ h w' T v xs := by
  rcases ho with hn | ⟨b, off, c, cur, rfl, h1, h2, rest⟩
  · exact .inl hn
  · exact .inr ⟨b, off, c, cur, rfl, h1, (hm.block b (Array.getElem?_eq_some_iff.1 h2).1 (hM b rfl)).trans h2, rest⟩
theorem OwnQ.ext {w' : World} (ho : OwnQ h w T v xs) (hm : Ext w w') : OwnQ h w' T v xs := ho.mod hm fun _ _ => id
theorem OwnQ.head {x : Int} {rest : List Int} (ho : OwnQ h w T v (x :: rest)) (ht : aggT P t = false) : (Instr.loadAt t (.pointer (some (sadr v 0)))).run P w = .ok (.int .i64 x) w := by
  rcases ho with ⟨_, hx⟩ | ⟨b, off, c, cur, rfl, h1, h2, h3, h4, h5, h6⟩
  · cases hx
  · refine ld_cell ht ?_
    simp only [sadr, add_zero']
    rw [cell_of_row w b off cur T (0, 0) h2]
    exact h6 0 x rfl
theorem OwnQ.tail {x : Int} {rest : List Int} (ho : OwnQ h w T v (x :: rest)) : OwnQ h w T (reS v 1 (rest.length + 1) 1) rest ∧ ∀ b, blk (reS v 1 (rest.length + 1) 1) b ↔ blk v b := by
  rcases ho with ⟨_, hx⟩ | ⟨b, off, c, cur, rfl, h1, h2, h3, h4, h5, h6⟩
  · cases hx
  · simp only [List.length_cons] at h3
    have hadd : (⟨b, off, none⟩ : Addr).add (1 * 1) = ⟨b, off + 1, none⟩ := by unfold Addr.add; split <;> simp_all
    by_cases hc : c = 1
    · subst hc
      have hr : rest = [] := List.eq_nil_of_length_eq_zero (by omega)
      subst hr
      refine ⟨.inr ⟨b, off, 0, cur, rfl, h1, h2, Nat.le_refl _, Nat.zero_le _, by omega, fun j y hj => by simp at hj⟩, fun b' => Iff.rfl⟩
    · refine ⟨.inr ⟨b, off + 1, c - 1, cur, ?_, h1, h2, by omega, by omega, by omega, fun j y hj => ?_⟩, fun b' => ?_⟩
      · simp [reS, hc, hadd]
      · have := h6 (j + 1) y (by simpa using hj)
        rw [← this]; congr 1; omega
      · simp [reS, hc, hadd, blk, Value.ownBlock]
theorem OwnQ.push {e : TypeId} {by_ : Nat} (hs : sliceOk P t T 1 by_ = true) (ho : OwnQ h w T v xs) (y : Int)
    (hl : xs.length + 1 ≤ 1000000000000) (hb : (xs.length + 1) * by_ ≤ 140737488355328) (hw : hle h (hpOf w)) :
    (Instr.buildSlice t 1 #[(0, .int .i64 y)]).run P w = .ok (.slice (some ⟨w.heap.size, 0, none⟩) 1 1) (w.alloc (.cells #[.int .i64 y] T)) ∧
    ∃ v' w', (Builtin.append_ #[t, t] e #[v, .slice (some ⟨w.heap.size, 0, none⟩) 1 1]).run P (w.alloc (.cells #[.int .i64 y] T)) = .ok v' w' ∧ OwnQ h w' T v' (xs ++ [y]) ∧ Mod (blk v) w w' ∧ movedTo w v v' := by
  have hnil := Go.Proofs.Ytldmnnloakpjlaa.push (e := e) (α := Int) hs rfl (Own.nil h w T) (x := .int .i64 y) (y := y) rfl (by simp) (by simp only [List.length_nil, Nat.zero_add] at *; have := Nat.mul_le_mul_right by_ (show 1 ≤ xs.length + 1 by omega); omega) hw
  simp only [Value.cells, List.nil_append] at hnil
  refine ⟨hnil.1, ?_⟩
  rcases ho with ⟨rfl, rfl⟩ | ⟨b, off, c, cur, rfl, h1, h2, h3, h4, h5, h6⟩
  · obtain ⟨v', w', k1, k2, k3, k4⟩ := hnil.2
    exact ⟨v', w', k1, by simpa using k2.toQ, k3, k4⟩
  · obtain ⟨s1, ⟨z, hz, hzs⟩, s3, s4, s5, s6⟩ := sliceOk_spec hs
    obtain ⟨i, hi, hiz⟩ := zeroT_info hz
    rw [szT_info hi] at s3
    rw [bytT_info hi] at s4
    have ht := elemT_spec s1
    have hxA := Ext.alloc w (.cells #[.int .i64 y] T)
    have hbl : b < w.heap.size := (Array.getElem?_eq_some_iff.1 h2).1
    have h2' : (w.alloc (.cells #[.int .i64 y] T)).heap[b]? = some (.cells cur T (0, 0)) := (hxA.block b hbl id).trans h2
    have hnews : ∀ j u, [Value.int .i64 y][j]? = some u → (w.alloc (.cells #[.int .i64 y] T)).cell? ((⟨w.heap.size, 0, none⟩ : Addr).add j) = some u := by
      intro j u hj
      have ha : (⟨w.heap.size, 0, none⟩ : Addr).add j = ⟨w.heap.size, j, none⟩ := by unfold Addr.add; split <;> simp_all
      rw [ha, World.cell?_alloc_new]
      simpa using hj
    generalize hwa : w.alloc (.cells #[.int .i64 y] T) = wa at *
    by_cases hroom : xs.length + 1 ≤ c
    · have hr := run_append_room_cells (P := P) wa t e T i ht hi b off xs.length c ⟨w.heap.size, 0, none⟩ 1 1 [.int .i64 y] (by simp [s3]) hnews (by simp [Value.oneCell']) hroom
        (fun j hj => by
          simp only [List.length_cons, List.length_nil] at hj
          rw [s3, cell_of_row wa b _ cur T (0, 0) h2', Array.getElem?_eq_getElem (by omega)]; rfl)
        (fun j _ => frozen_of_row wa b _ cur T h2')
      rw [s3, Nat.mul_one] at hr
      simp only [World.setCells] at hr
      refine ⟨_, _, hr, .inr ⟨b, off, c, cur.setIfInBounds (off + xs.length) (.int .i64 y), by simp, h1, heap_setCell_same wa b (off + xs.length) cur T _ h2', by simpa using hroom, h4, by simpa using h5, fun j x hj => ?_⟩, ?_, fun b' hb' => .inl hb'⟩
      · rw [Array.getElem?_setIfInBounds]
        by_cases hjx : j < xs.length
        · rw [List.getElem?_append_left hjx] at hj
          rw [if_neg (by omega)]
          exact h6 j x hj
        · rw [List.getElem?_append_right (by omega)] at hj
          have hj0 : j - xs.length = 0 := by
            have := (List.getElem?_eq_some_iff.1 hj).1
            simp at this; omega
          rw [hj0] at hj
          simp at hj; subst hj
          rw [if_pos (by omega), if_pos (by omega)]
      · exact (hxA.weaken fun _ _ h => h.elim).trans (Mod.setCell _ _ _ (by simp [blk, Value.ownBlock]))
    · have hcl : c = xs.length := by omega
      have holds : ∀ j u, ((ints xs))[j]? = some u → wa.cell? ((⟨b, off, none⟩ : Addr).add j) = some u := by
        intro j u hj
        have ha : (⟨b, off, none⟩ : Addr).add j = ⟨b, off + j, none⟩ := by unfold Addr.add; split <;> simp_all
        rw [ha, cell_of_row wa b (off + j) cur T (0, 0) h2']
        simp only [ints, List.getElem?_map] at hj
        obtain ⟨x, k1, k2⟩ := Option.map_eq_some_iff.1 hj
        rw [h6 j x k1, ← k2]
      have hr := run_append_grow (P := P) wa t e T i z ht hi hiz ⟨b, off, none⟩ xs.length c (ints xs) (by simp [ints, s3]) holds ⟨w.heap.size, 0, none⟩ 1 1 [.int .i64 y] (by simp [s3]) hnews (by omega)
        (by omega) (growslice_fits (by omega) (by rw [s4]; exact hb))
      have hge := grownCap_ge wa (xs.length + 1) c T
      have hcm := grownCap_le_maxLen wa (xs.length + 1) c T (by simp only [maxLen]; omega)
      have hlw : wa.heap.size = w.heap.size + 1 := by rw [← hwa]; simp
      refine ⟨_, _, hr, .inr ⟨wa.heap.size, 0, _, _, by simp, hle_lt hw (by omega), heap_alloc_new wa.drew _, by simpa using hge, hcm, ?_, fun j x hj => ?_⟩, ?_, fun b' hb' => ?_⟩
      · simp only [Array.size_append, List.size_toArray, size_zeroCells, hzs, ints, List.length_map, List.length_cons, List.length_nil]
        omega
      · rw [Nat.zero_add]
        have hjl := (List.getElem?_eq_some_iff.1 hj).1
        simp only [List.length_append, List.length_cons, List.length_nil] at hjl
        have e1 : ((ints xs).toArray ++ #[Value.int .i64 y]) = (ints (xs ++ [y])).toArray := by simp [ints]
        have e2 : ([Value.int .i64 y].toArray) = #[Value.int .i64 y] := rfl
        rw [Array.getElem?_append_left (by simp [ints]; omega), e2, e1, List.getElem?_toArray]
        simp only [ints, List.getElem?_map, hj]
        rfl
      · refine (hxA.weaken fun _ _ h => h.elim).trans ?_
        exact Mod.trans ((Ext.drew wa).weaken (fun _ _ h => h.elim)) ((Ext.alloc wa.drew _).weaken (fun _ _ h => h.elim))
      · simp [blk, Value.ownBlock] at hb'; exact .inr (by omega)
end
end Go.Proofs.Ytldmnnloakpjlaa
