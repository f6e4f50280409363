/- The library's Insert, BinarySearch, Clone, Min in the words of Own. -/
import Derived.Test.YtldmnnloakpjlaaB5
import Derived.Test.YtldmnnloakpjlaaL1
set_option linter.unusedSimpArgs false
set_option maxRecDepth 100000
set_option linter.unusedVariables false
set_option linter.unnecessarySimpa false
namespace Go.Proofs.Ytldmnnloakpjlaa
open Go

def ints (l : List Int) : List Value := l.map (Value.int .i64)
theorem encs_ints {h : Hp} : ∀ {l : List Int} {cs : List Value}, encs h cs l ↔ cs = ints l
  | [], cs => Iff.rfl
  | x :: l, cs => by
    constructor
    · rintro ⟨c1, c2, rfl, h1, h2⟩
      have h1' : c1 = [.int .i64 x] := h1
      rw [h1', encs_ints.1 h2]; rfl
    · rintro rfl
      exact ⟨[.int .i64 x], ints l, rfl, rfl, encs_ints.2 rfl⟩
theorem ints_one (l : List Int) : ∀ v ∈ ints l, v.oneCell' = true := by
  intro v hv
  obtain ⟨x, _, rfl⟩ := List.mem_map.1 hv
  rfl
theorem ints_get {l : List Int} {j : Nat} (hj : j < l.length) : (ints l)[j]? = some (.int .i64 (l.getD j 0)) := by
  simp [ints, List.getElem?_map, List.getElem?_eq_getElem hj, List.getD]

theorem setCells_heap {b : Nat} {T : TypeId} : ∀ (vs : List Value) (off : Nat) (w : World) (cur : Array Value), w.heap[b]? = some (.cells cur T (0, 0)) → off + vs.length ≤ cur.size →
    (w.setCells b off vs).heap[b]? = some (.cells (cur.toList.take off ++ vs ++ cur.toList.drop (off + vs.length)).toArray T (0, 0))
  | [], off, w, cur, hb, _ => by simp [World.setCells, hb]
  | v :: vs, off, w, cur, hb, hl => by
    simp only [List.length_cons] at hl
    have h1 := heap_setCell_same w b off cur T v hb
    rw [World.setCells, setCells_heap vs (off + 1) _ _ h1 (by simp; omega)]
    have hlen : cur.toList.length = cur.size := by simp
    simp only [Array.toList_setIfInBounds, List.length_cons]
    congr 3
    rw [List.take_set, List.take_succ_eq_append_getElem (by omega), List.set_append_right (h := by simp; omega)]
    have e1 : off - (cur.toList.take off).length = 0 := by simp; omega
    rw [e1, List.drop_set_of_lt (by omega)]
    simp [List.append_assoc, Nat.add_assoc, Nat.add_comm 1]
theorem setCells_mod {b : Nat} {M : Nat → Prop} (hM : M b) : ∀ (vs : List Value) (off : Nat) (w : World), Mod M w (w.setCells b off vs)
  | [], _, w => Mod.refl w
  | v :: vs, off, w => (Mod.setCell w ⟨b, off, none⟩ v hM).trans (setCells_mod hM vs (off + 1) _)
theorem Mod.drew {M : Nat → Prop} (w : World) : Mod M w w.drew := (Ext.drew w).weaken fun _ _ h => h.elim
theorem Mod.alloc {M : Nat → Prop} (w : World) (o : Obj) : Mod M w (w.alloc o) := (Ext.alloc w o).weaken fun _ _ h => h.elim
theorem Mod.drewN {M : Nat → Prop} (w : World) (q : Nat) : Mod M w (w.drewN q) := ⟨rfl, rfl, rfl, Nat.le_refl _, fun _ _ _ => rfl⟩
theorem Mod.below {w w' : World} (h : RowKit.Below w.heap.size w w') : Ext w w' := ⟨h.os, h.tape, h.output, h.size, fun k hk _ => h.block k hk⟩

section
variable {h : Hp} {w : World} {v : Value} {l : List Int}
/-- The block behind an owned list. -/
theorem own_ints (ho : Own h w 3 v l) : (v = .slice none 0 0 ∧ l = []) ∨ ∃ b c cur, v = .slice (some ⟨b, 0, none⟩) l.length c ∧ h b = none ∧ w.heap[b]? = some (.cells cur 3 (0, 0)) ∧ l.length ≤ c ∧ c ≤ maxLen ∧ cur.size = c ∧ cur.toList.take l.length = ints l := by
  rcases ho with hn | ⟨b, c, cur, e, h1, h2, h3, h4, h5, h6⟩
  · exact .inl hn
  · refine .inr ⟨b, c, cur, e, h1, h2, h3, h4, by simpa [Rep.sz] using h5, ?_⟩
    have := encs_ints.1 h6
    have h7 : l.length * Rep.sz Int = l.length := Nat.mul_one _
    rw [h7] at this
    exact this
theorem own_of_ints {b c : Nat} {cur : Array Value} (h1 : h b = none) (h2 : w.heap[b]? = some (.cells cur 3 (0, 0))) (h3 : l.length ≤ c) (h4 : c ≤ maxLen) (h5 : cur.size = c) (h6 : cur.toList.take l.length = ints l) :
    Own h w 3 (.slice (some ⟨b, 0, none⟩) l.length c) l := by
  refine .inr ⟨b, c, cur, rfl, h1, h2, h3, h4, by rw [h5]; exact (Nat.mul_one c).symm, ?_⟩
  have h7 : l.length * Rep.sz Int = l.length := Nat.mul_one _
  rw [h7, h6]
  exact encs_ints.2 rfl

theorem layI_f : (Try.layI_ren.f 21) = 53 := by kernel_rfl
theorem layB_f : (Try.layB_ren.f 25) = 52 := by kernel_rfl
theorem layC_f : (Try.layC_ren.f 15) = 51 := by kernel_rfl
theorem layI_t : (Try.layI_ren.t 3) = 3 := by kernel_rfl
theorem layC_t : (Try.layC_ren.t 3) = 3 := by kernel_rfl

/-! ### slices.BinarySearch, of what rises -/
theorem search_any (x : Int) (ho : Own h w 3 v l) (hl : l.length ≤ 1000000000) (hs : l.Pairwise (· ≤ ·)) :
    Calls Try.prog 52 #[v, .int .i64 x] w fun e w' => ∃ u, e = .returned u ∧ (u = .tuple #[.int .i64 (l.countP (· < x) : Nat), .bool (l.contains x)] ∧ Ext w w') := by
  rw [← layB_f]
  rcases own_ints ho with ⟨rfl, rfl⟩ | ⟨b, c, cur, rfl, h1, h2, h3, h4, h5, h6⟩
  · refine (Any.slices_BinarySearch_int_empty Try.layB none 0 x w).mono ?_
    rintro e w' ⟨rfl, rfl⟩
    exact ⟨_, rfl, rfl, Mod.refl _⟩
  · refine (Any.slices_BinarySearch_int Try.layB b 0 l.length c l x w (Nat.le_refl _) (by omega) ?_ (by rw [List.take_length]; exact hs)).mono ?_
    · intro j hj
      rw [Nat.zero_add, cell_of_row w b j cur _ (0, 0) h2]
      have := ints_get hj
      rw [← h6, List.getElem?_take, if_pos hj] at this
      simpa using this
    · rintro e w' ⟨rfl, q, rfl⟩
      rw [List.take_length]
      exact ⟨_, rfl, rfl, Mod.drewN _ _⟩

/-! ### slices.Clone -/
theorem clone_any (ho : Own h w 3 v l) (hl : l.length ≤ 1000000000) :
    Calls Try.prog 51 #[v] w fun e w' => ∃ u, e = .returned u ∧ (Own (hpOf w) w' 3 u l ∧ Ext w w') := by
  rw [← layC_f]
  rcases own_ints ho with ⟨rfl, rfl⟩ | ⟨b, c, cur, rfl, h1, h2, h3, h4, h5, h6⟩
  · refine (Any.slices_Clone_int_nil Try.layC 0 0 w).mono ?_
    rintro e w' ⟨rfl, rfl⟩
    exact ⟨_, rfl, Own.nil _ _ _, Mod.refl _⟩
  · refine (Any.slices_Clone_int Try.layC b 0 l.length c l w (Nat.le_refl _) (by omega) ?_).mono ?_
    · intro j hj
      rw [Nat.zero_add, cell_of_row w b j cur _ (0, 0) h2]
      have := ints_get hj
      rw [← h6, List.getElem?_take, if_pos hj] at this
      simpa using this
    · rintro e w' ⟨v', rfl, ⟨g1, g2⟩, _, hb⟩
      refine ⟨v', rfl, ?_, Mod.below hb⟩
      rw [List.take_length] at g1 g2
      rcases g2 with ⟨rfl, hz⟩ | ⟨g, cap, cur', rfl, k1, k2, k3, k4, k5, k6⟩
      · have : l = [] := List.eq_nil_of_length_eq_zero hz
        rw [this]; exact Own.nil _ _ _
      · rw [layC_t] at k2
        refine own_of_ints (hle_lt (hle_refl _) k1) k2 k3 k4 (by omega) ?_
        rw [Nat.mul_one] at k6
        exact k6

/-! ### slices.Insert of one number; its list lies in a block that was laid for the call -/
theorem insert_any (x : Int) (i c1 : Nat) (w0 : World) (hw0 : w = w0.alloc (.cells #[.int .i64 x] 3)) (ho : Own h w0 3 v l) (hi : i ≤ l.length) (hl : l.length ≤ 1000000000) (hw : hle h (hpOf w0)) :
    Calls Try.prog 53 #[v, .int .i64 i, .slice (some ⟨w0.heap.size, 0, none⟩) 1 c1] w fun e w' => ∃ u, e = .returned u ∧ (Own h w' 3 u (l.take i ++ x :: l.drop i) ∧ Mod (blk v) w0 w' ∧ movedTo w0 v u) := by
  rw [← layI_f]
  have hm0 : Mod (blk v) w0 w := by rw [hw0]; exact Mod.alloc _ _
  have hnb : w.heap[w0.heap.size]? = some (.cells #[.int .i64 x] 3 (0, 0)) := by rw [hw0]; exact heap_alloc_new w0 _
  have hsz : w.heap.size = w0.heap.size + 1 := by rw [hw0]; simp
  have hvs : ∀ (j : Nat) (u : Value), [Value.int .i64 x][j]? = some u → w.cell? ⟨w0.heap.size, 0 + j, none⟩ = some u := by
    intro j u hj
    rw [Nat.zero_add, cell_of_row w _ j _ _ (0, 0) hnb]
    simpa using hj
  have h1v : ∀ v ∈ [Value.int .i64 x], v.oneCell' = true := by simp [Value.oneCell']
  have hE : Ext w0 w := by rw [hw0]; exact Ext.alloc _ _
  have how : Own h w 3 v l := ho.ext hE
  have hww : hle h (hpOf w) := hle_trans hw (hle_ext hE)
  have fresh : ∀ (w' : World) (cells : Array Value) (n c : Nat), Ext w w' → w'.heap[w.heap.size]? = some (.cells cells 3 (0, 0)) → n = l.length + 1 → n ≤ c → c ≤ maxLen → cells.size = c →
      cells.toList.take n = ints (l.take i ++ x :: l.drop i) →
      Own h w' 3 (.slice (some ⟨w.heap.size, 0, none⟩) n c) (l.take i ++ x :: l.drop i) ∧ Mod (blk v) w0 w' ∧ movedTo w0 v (.slice (some ⟨w.heap.size, 0, none⟩) n c) := by
    intro w' cells n c he hh hn hc hcm hs hcl
    have hlen : (l.take i ++ x :: l.drop i).length = n := by simp; omega
    refine ⟨?_, hm0.trans (he.weaken fun _ _ h => h.elim), fun b hb => by simp [blk, Value.ownBlock] at hb; exact .inr (by omega)⟩
    have := own_of_ints (h := h) (w := w') (l := l.take i ++ x :: l.drop i) (hle_lt hww (Nat.le_refl _)) hh (by omega) hcm hs (by rw [hlen]; exact hcl)
    rw [hlen] at this
    exact this
  have hintx : [Value.int .i64 x] = ints [x] := rfl
  rcases own_ints how with ⟨rfl, rfl⟩ | ⟨b, c, cur, rfl, h1, h2, h3, h4, h5, h6⟩
  · have hi0 : i = 0 := by simpa using hi
    subst hi0
    refine (Any2.slices_Insert_int_end_grow Try.layI none 0 0 w0.heap.size 0 1 c1 [] [.int .i64 x] w (by omega) (by omega) (by omega) (by omega) rfl rfl (fun _ => rfl) (fun a ha => by cases ha) hvs h1v).mono ?_
    rintro e w' ⟨rfl, rfl⟩
    refine ⟨_, rfl, fresh _ _ _ _ ((Ext.drew w).trans (Ext.alloc _ _)) (by rw [layI_t]; exact heap_alloc_new w.drew _) rfl (grownCap_ge _ _ _ _) (grownCap_le_maxLen _ _ _ _ (by decide)) ?_ ?_⟩
    · have := grownCap_ge w 1 0 (Try.layI_ren.t 3)
      rw [layI_t] at this ⊢
      simp [size_zeroCells, Value.cells] at this ⊢; omega
    · simp [ints]
  · have hcs : (ints l).length = l.length := by simp [ints]
    have hcell : ∀ j, w.cell? ⟨b, j, none⟩ = cur[j]? := fun j => cell_of_row w b j cur _ (0, 0) h2
    have hcells : ∀ (j : Nat) (u : Value), (ints l)[j]? = some u → w.cell? ⟨b, 0 + j, none⟩ = some u := by
      intro j u hj
      rw [Nat.zero_add, hcell]
      rw [← h6, List.getElem?_take] at hj
      split at hj
      · simpa using hj
      · cases hj
    have hsome : ∀ j, j < c → (w.cell? ⟨b, 0 + j, none⟩).isSome = true := by
      intro j hj
      rw [Nat.zero_add, hcell]
      simp [h5, hj]
    have hfz : ∀ j, w.frozen? ⟨b, j, none⟩ = false := fun j => by simp [World.frozen?, h2]
    have hcl : cur.toList.length = c := by simpa using h5
    have hbne : w0.heap.size ≠ b := by
      intro e
      have := ho.lt (b := b) (by simp [blk, Value.ownBlock])
      omega
    have inplace : ∀ (w' : World) (cells : Array Value), Mod (fun k => k = b) w w' → w'.heap[b]? = some (.cells cells 3 (0, 0)) → l.length + 1 ≤ c → cells.size = c →
        cells.toList.take (l.length + 1) = ints (l.take i ++ x :: l.drop i) →
        Own h w' 3 (.slice (some ⟨b, 0, none⟩) (l.length + 1) c) (l.take i ++ x :: l.drop i) ∧ Mod (blk (.slice (some ⟨b, 0, none⟩) l.length c)) w0 w' ∧ movedTo w0 (.slice (some ⟨b, 0, none⟩) l.length c) (.slice (some ⟨b, 0, none⟩) (l.length + 1) c) := by
      intro w' cells hm hh hc hs hcl
      have hlen : (l.take i ++ x :: l.drop i).length = l.length + 1 := by simp; omega
      refine ⟨?_, hm0.trans (hm.weaken fun k _ hk => by simp [blk, Value.ownBlock, hk]), fun k hk => .inl (by simpa [blk, Value.ownBlock] using hk)⟩
      have := own_of_ints (h := h) (w := w') (l := l.take i ++ x :: l.drop i) (c := c) h1 hh (by omega) h4 hs (by rw [hlen]; exact hcl)
      rw [hlen] at this
      exact this
    have hsplit : ints (l.take i ++ x :: l.drop i) = (ints l).take i ++ .int .i64 x :: (ints l).drop i := by simp [ints]
    by_cases hin : i = l.length
    · subst hin
      by_cases hroom : l.length + 1 ≤ c
      · refine (Any2.slices_Insert_int_end_room Try.layI b 0 l.length c w0.heap.size 0 1 c1 [.int .i64 x] w (by omega) hroom h4 rfl (fun j hj => ?_) (fun j hj => hfz _) hvs h1v).mono ?_
        · rw [Nat.zero_add]
          have := hsome (l.length + j) (by omega)
          rwa [Nat.zero_add] at this
        · rintro e w' ⟨rfl, rfl⟩
          have hh := setCells_heap [Value.int .i64 x] (0 + l.length) w cur h2 (by simp; omega)
          refine ⟨_, rfl, inplace _ _ (setCells_mod (M := fun k => k = b) rfl _ _ _) hh hroom ?_ ?_⟩
          · simp [h5]; omega
          · rw [hsplit, Nat.zero_add, h6]
            have e1 : (ints l).take l.length = ints l := by rw [← hcs, List.take_length]
            have e2 : (ints l).drop l.length = [] := by rw [← hcs, List.drop_length]
            rw [e1, e2]
            have e6 : (ints l ++ [Value.int .i64 x]).length = l.length + 1 := by simp [hcs]
            simp only []
            rw [← e6, List.take_left]
      · refine (Any2.slices_Insert_int_end_grow Try.layI (some ⟨b, 0, none⟩) l.length c w0.heap.size 0 1 c1 (ints l) [.int .i64 x] w (by omega) h3 (by omega) (by omega) hcs rfl (fun h => by cases h) (fun a ha j u hj => ?_) hvs h1v).mono ?_
        · obtain rfl := Option.some.inj ha
          rw [Addr.add_lit]
          exact hcells j u hj
        · rintro e w' ⟨rfl, rfl⟩
          have hg := grownCap_ge w (l.length + 1) c (Try.layI_ren.t 3)
          refine ⟨_, rfl, fresh _ _ _ _ ((Ext.drew w).trans (Ext.alloc _ _)) (by rw [layI_t]; exact heap_alloc_new w.drew _) rfl hg (grownCap_le_maxLen _ _ _ _ (by simp only [maxLen]; omega)) ?_ ?_⟩
          · rw [layI_t] at hg ⊢
            simp [size_zeroCells, Value.cells, hcs] at hg ⊢; omega
          · rw [hsplit]
            have e1 : (ints l).take l.length = ints l := by rw [← hcs, List.take_length]
            have e2 : (ints l).drop l.length = [] := by rw [← hcs, List.drop_length]
            rw [e1, e2]
            simp only [Array.toList_append]
            rw [List.take_append_of_le_length (by simp [hcs])]
            rw [List.take_of_length_le (by simp [hcs])]
    · have hlt : i < l.length := by omega
      by_cases hroom : l.length + 1 ≤ c
      · refine (Any2.slices_Insert_int_shift Try.layI b 0 l.length c i w0.heap.size 0 1 c1 (ints l) [.int .i64 x] w hlt (by omega) hroom h4 hbne hcs rfl hcells (fun j hj => hsome j (by omega)) (fun j _ => hfz _) hvs (ints_one l) h1v
          3 3 1 c (by simp [World.shape?, hnb]) (by simp [World.shape?, h2, h5]) (by omega) (by simp [World.frozen?, hnb]) (by simp [World.frozen?, hnb])).mono ?_
        rintro e w' ⟨rfl, rfl⟩
        have hd : ((ints l).drop i).length = l.length - i := by simp [hcs]
        have hh1 := setCells_heap ((ints l).drop i) (0 + (i + 1)) w.drew cur h2 (by rw [hd]; omega)
        have hh2 := setCells_heap [Value.int .i64 x] (0 + i) _ _ hh1 (by simp [hd]; omega)
        refine ⟨_, rfl, inplace _ _ ((Mod.drew w).trans ((setCells_mod (M := fun k => k = b) rfl _ _ _).trans (setCells_mod (M := fun k => k = b) rfl _ _ _))) hh2 hroom ?_ ?_⟩
        · simp [hd]; omega
        · rw [hsplit]
          simp only [Nat.zero_add, List.length_singleton]
          have e1 : (ints l).take i = cur.toList.take i := by rw [← h6, List.take_take]; congr 1; omega
          have e3 : (cur.toList.take (i + 1)).length = i + 1 := by rw [List.length_take, hcl]; omega
          have e4 : (cur.toList.take (i + 1) ++ (ints l).drop i ++ cur.toList.drop (i + 1 + ((ints l).drop i).length)).take i = cur.toList.take i := by
            rw [List.append_assoc, List.take_append_of_le_length (by omega), List.take_take]; congr 1; omega
          have e5 : (cur.toList.take (i + 1) ++ (ints l).drop i ++ cur.toList.drop (i + 1 + ((ints l).drop i).length)).drop (i + 1) = (ints l).drop i ++ cur.toList.drop (i + 1 + ((ints l).drop i).length) := by
            rw [List.append_assoc, List.drop_append_of_le_length (by omega), List.drop_of_length_le (by omega), List.nil_append]
          rw [e4, e5, e1]
          have e6 : (cur.toList.take i ++ [Value.int .i64 x] ++ (ints l).drop i).length = l.length + 1 := by simp [hcs]; omega
          rw [← List.append_assoc, ← e6, List.take_left]
          simp
      · refine (Any2.slices_Insert_int_grow Try.layI b 0 l.length c i w0.heap.size 0 1 c1 (ints l) [.int .i64 x] w hlt (by omega) h3 (by omega) (by omega) hcs rfl hcells hvs (ints_one l) h1v).mono ?_
        rintro e w' ⟨rfl, rfl⟩
        have hg := grownCap_ge w (l.length + 1) c (Try.layI_ren.t 3)
        have hgm := grownCap_le_maxLen w (l.length + 1) c (Try.layI_ren.t 3) (by simp only [maxLen]; omega)
        generalize grownCap w (l.length + 1) c (Try.layI_ren.t 3) = cap at hg hgm
        have hzc : (Value.int .i64 0).cells.size = 1 := rfl
        generalize hcv : ((ints l).take i).toArray ++ Builtin.zeroCells (Value.int .i64 0).cells (l.length + 1 - i) ++ Builtin.zeroCells (Value.int .i64 0).cells (cap - (l.length + 1)) = cv
        have hcvs : cv.size = cap := by
          rw [← hcv]
          simp [size_zeroCells, hzc, hcs]; omega
        have hcvt : cv.toList.take i = (ints l).take i := by
          rw [← hcv]
          simp only [Array.toList_append, List.append_assoc]
          rw [List.take_append_of_le_length (by simp [hcs]; omega), List.take_of_length_le (by simp; omega)]
        have hcvl : cv.toList.length = cap := by simpa using hcvs
        have hh0 : ((w.alloc (.cells cv (Try.layI_ren.t 3))).drew).heap[w.heap.size]? = some (.cells cv 3 (0, 0)) := by rw [layI_t]; exact heap_alloc_new w _
        have hd : ((ints l).drop i).length = l.length - i := by simp [hcs]
        have hh1 := setCells_heap [Value.int .i64 x] i _ _ hh0 (by simp; omega)
        have hh2 := setCells_heap ((ints l).drop i) (i + 1) _ _ (show ((((w.alloc (.cells cv (Try.layI_ren.t 3))).drew).setCells w.heap.size i [Value.int .i64 x]).drew).heap[w.heap.size]? = _ from hh1) (by simp [hd]; omega)
        refine ⟨_, rfl, fresh _ _ _ _ ?_ hh2 rfl hg hgm ?_ ?_⟩
        · refine Mod.ext_of (Ext.alloc w (.cells cv (Try.layI_ren.t 3))) (M := fun k => k = w.heap.size) ?_ (fun k hk => by omega)
          exact (Mod.drew _).trans ((setCells_mod (M := fun k => k = w.heap.size) rfl _ _ _).trans ((Mod.drew _).trans (setCells_mod (M := fun k => k = w.heap.size) rfl _ _ _)))
        · simp [hd]; omega
        · rw [hsplit]
          simp only [List.length_singleton]
          have e3 : (cv.toList.take i ++ [Value.int .i64 x]).length = i + 1 := by simp [hcvl]; omega
          have e4 : (cv.toList.take i ++ [Value.int .i64 x] ++ cv.toList.drop (i + 1)).take (i + 1) = cv.toList.take i ++ [Value.int .i64 x] := by
            rw [← e3, List.take_left]
          rw [e4, hcvt]
          have e6 : ((ints l).take i ++ [Value.int .i64 x] ++ (ints l).drop i).length = l.length + 1 := by simp [hcs]; omega
          rw [← e6, List.take_left]
          simp
end
end Go.Proofs.Ytldmnnloakpjlaa
