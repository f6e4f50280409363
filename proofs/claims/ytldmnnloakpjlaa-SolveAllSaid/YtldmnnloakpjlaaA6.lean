/- What a call owns: lists in a block of their own, that it appends to and writes into. -/
import Derived.Test.YtldmnnloakpjlaaA5
namespace Go.Proofs.Ytldmnnloakpjlaa
open Go

/-- v is a slice over a block that no h speaks of (or nil), and says xs. -/
def Own {α : Type} [Rep α] (h : Hp) (w : World) (T : TypeId) (v : Value) (xs : List α) : Prop :=
  (v = .slice none 0 0 ∧ xs = []) ∨
  ∃ b c cur, v = .slice (some ⟨b, 0, none⟩) xs.length c ∧ h b = none ∧ w.heap[b]? = some (.cells cur T (0, 0)) ∧ xs.length ≤ c ∧ c ≤ maxLen ∧ cur.size = c * Rep.sz α ∧
    encs h (cur.toList.take (xs.length * Rep.sz α)) xs

/-- The block that a value owns. -/
def blk (v : Value) (b : Nat) : Prop := v.ownBlock = some b
theorem blk_nil {b : Nat} {n c : Nat} : ¬ blk (.slice none n c) b := by simp [blk, Value.ownBlock]
/-- v' lies where v lay, or in a new block. -/
def movedTo (w : World) (v v' : Value) : Prop := ∀ b, blk v' b → blk v b ∨ w.heap.size ≤ b

section
variable {α : Type} [Rep α] {h : Hp} {w : World} {T : TypeId} {v : Value} {xs : List α}

theorem Own.nil (h : Hp) (w : World) (T : TypeId) : Own h w T (.slice none 0 0) ([] : List α) := .inl ⟨rfl, rfl⟩
theorem Own.free (ho : Own h w T v xs) {b : Nat} (hb : blk v b) : h b = none := by
  rcases ho with ⟨rfl, _⟩ | ⟨b', c, cur, rfl, h1, _⟩
  · exact absurd hb blk_nil
  · simp [blk, Value.ownBlock] at hb; subst hb; exact h1
theorem Own.lt (ho : Own h w T v xs) {b : Nat} (hb : blk v b) : b < w.heap.size := by
  rcases ho with ⟨rfl, _⟩ | ⟨b', c, cur, rfl, h1, h2, _⟩
  · exact absurd hb blk_nil
  · simp [blk, Value.ownBlock] at hb; subst hb; exact (Array.getElem?_eq_some_iff.1 h2).1
theorem Own.isS (ho : Own h w T v xs) : isS v = true := by
  rcases ho with ⟨rfl, _⟩ | ⟨b', c, cur, rfl, _⟩ <;> rfl
theorem Own.vlen (ho : Own h w T v xs) : vlen v = xs.length := by
  rcases ho with ⟨rfl, rfl⟩ | ⟨b', c, cur, rfl, _⟩ <;> rfl
theorem Own.vcap (ho : Own h w T v xs) : xs.length ≤ vcap v := by
  rcases ho with ⟨rfl, rfl⟩ | ⟨b', c, cur, rfl, _, _, h3, _⟩
  · simp
  · exact h3
theorem Own.inS (ho : Own h w T v xs) {k : Nat} (hk : k < xs.length) : inS v k = true := by
  rcases ho with ⟨rfl, rfl⟩ | ⟨b', c, cur, rfl, _⟩
  · simp at hk
  · simp [Go.Proofs.Ytldmnnloakpjlaa.inS, hk]
/-- Another step turns nothing of it. -/
theorem Own.mod {M : Nat → Prop} {w' : World} (ho : Own h w T v xs) (hm : Mod M w w') (hM : ∀ b, blk v b → ¬ M b) : Own h w' T v xs := by
  rcases ho with hn | ⟨b, c, cur, rfl, h1, h2, rest⟩
  · exact .inl hn
  · exact .inr ⟨b, c, cur, rfl, h1, (hm.block b (Array.getElem?_eq_some_iff.1 h2).1 (hM b rfl)).trans h2, rest⟩
theorem Own.ext {w' : World} (ho : Own h w T v xs) (hm : Ext w w') : Own h w' T v xs := ho.mod hm fun _ _ => id
/-- More is known to be shared; its own block is not. -/
theorem Own.up {k : Hp} (ho : Own h w T v xs) (hk : hle h k) (hb : ∀ b, blk v b → k b = none) : Own k w T v xs := by
  rcases ho with hn | ⟨b, c, cur, rfl, h1, h2, h3, h4, h5, h6⟩
  · exact .inl hn
  · exact .inr ⟨b, c, cur, rfl, hb b rfl, h2, h3, h4, h5, encs_mono hk h6⟩
/-- It is let go: its block is shared from now on. -/
theorem Own.ro (ho : Own h w T v xs) {k : Hp} (hk : hle h k) (hb : ∀ b, blk v b → k b = w.heap[b]?) : R k v xs := by
  rcases ho with ⟨rfl, rfl⟩ | ⟨b, c, cur, rfl, h1, h2, h3, h4, h5, h6⟩
  · exact ⟨_, _, _, rfl, rfl, Nat.le_refl _, [], rfl, fun j v hv => by simp at hv⟩
  · refine ⟨_, _, _, rfl, rfl, h3, _, encs_mono hk h6, fun j u hj => ⟨_, rfl, ?_⟩⟩
    have hlt : j < cur.size := by
      have := (List.getElem?_eq_some_iff.1 hj).1
      simp at this; omega
    have hc : cur[j]? = some u := by
      rw [List.getElem?_take] at hj
      split at hj
      · simpa using hj
      · cases hj
    have ha : (⟨b, 0, .none⟩ : Addr).add j = ⟨b, j, .none⟩ := by unfold Addr.add; split <;> simp_all
    rw [ha]
    simp only [cellAt, hb b rfl, h2, Option.isSome_none, Bool.false_eq_true, if_false, hc]
theorem Own.rw_ (ho : Own h w T v xs) (hw : hle h (hpOf w)) : R (hpOf w) v xs := ho.ro hw fun _ _ => rfl
/-- The cells of an element. -/
theorem Own.get (ho : Own h w T v xs) {k : Nat} {x : α} (hk : xs[k]? = some x) :
    ∃ es, Rep.enc h es x ∧ ∀ j u, es[j]? = some u → w.cell? ((sadr v (k * Rep.sz α)).add j) = some u := by
  rcases ho with ⟨rfl, rfl⟩ | ⟨b, c, cur, rfl, h1, h2, h3, h4, h5, h6⟩
  · simp at hk
  · obtain ⟨es, he, hc⟩ := encs_get h6 hk
    refine ⟨es, he, fun j u hj => ?_⟩
    have hjl : j < Rep.sz α := by have := (List.getElem?_eq_some_iff.1 hj).1; rw [Rep.len he] at this; exact this
    have := hc j hjl
    rw [hj, List.getElem?_take] at this
    split at this
    · simp only [sadr]
      rw [Addr.add_add']
      have ha : (⟨b, 0, .none⟩ : Addr).add (k * Rep.sz α + j) = ⟨b, k * Rep.sz α + j, .none⟩ := by unfold Addr.add; split <;> simp_all
      rw [ha, cell_of_row w b _ cur T (0, 0) h2]
      simpa using this
    · cases this
end

section
variable {α : Type} [Rep α] {h : Hp} {P : Program} {w : World} {t T : TypeId} {v : Value}
theorem own_ld_flat {α : Type} [Flat α] {xs : List α} (ho : Own h w T v xs) {k : Nat} {x : α} (hk : xs[k]? = some x) (ht : aggT P t = false) :
    (Instr.loadAt t (.pointer (some (sadr v k)))).run P w = .ok (Flat.val x) w := by
  obtain ⟨es, he, hc⟩ := ho.get hk
  have he' : es = [Flat.val x] := he
  have := hc 0 (Flat.val x) (by rw [he']; rfl)
  rw [add_zero'] at this
  have h1 : (k * Rep.sz α) = k := Nat.mul_one k
  rw [h1] at this
  exact ld_cell ht this
theorem own_ld_list {xs : List (List α)} (ho : Own h w T v xs) {k : Nat} {x : List α} (hk : xs[k]? = some x) (ht : aggT P t = false) :
    ∃ u, R h u x ∧ (Instr.loadAt t (.pointer (some (sadr v k)))).run P w = .ok u w := by
  obtain ⟨es, he, hc⟩ := ho.get hk
  have hl : es.length = 1 := Rep.len he
  match es, hl with
  | [u], _ =>
    have := hc 0 u rfl
    rw [add_zero'] at this
    have h1 : (k * Rep.sz (List α)) = k := Nat.mul_one k
    rw [h1] at this
    exact ⟨u, he, ld_cell ht this⟩

/-! ### Stores -/
theorem run_store_one {a : Addr} {u x : Value} {i : TypeInfo} (hi : P.info? t = some i) (hs : i.size = 1) (hx : x.cells = #[x]) (h1 : x.oneCell' = true) (hc : w.cell? a = some u) (hf : w.frozen? a = false) :
    (Instr.storeAt t (.pointer (some a)) x).run P w = .ok () (w.setCell a x) := by
  have hst : (store (a.add 0) x).run P w = .ok () (w.setCell a x) := by
    rw [add_zero']
    cases x <;> simp [Value.oneCell'] at h1 <;> simp [store, Sem.run, hc, hf]
  unfold Instr.storeAt storeVar
  simp only [Instr.sureAddr, Sem.run_bind, Sem.run_pure, Result.andThen_ok, sizeOf, run_tyinfo, hi, hs, hx, Sem.run_ite]
  simp only [List.size_toArray, List.length_cons, List.length_nil, storeCells, Sem.run_bind, hst, Result.andThen_ok, Sem.run_pure]
  rfl

/-- A store into an element of one cell. -/
theorem own_store {xs : List α} (ho : Own h w T v xs) (hz : Rep.sz α = 1) {k : Nat} (hk : k < xs.length) {x : Value} {y : α} (hy : Rep.enc h [x] y) (hx : x.cells = #[x])
    {i : TypeInfo} (hi : P.info? t = some i) (hs : i.size = 1) :
    ∃ w', (Instr.storeAt t (.pointer (some (sadr v k))) x).run P w = .ok () w' ∧ Own h w' T v (xs.set k y) ∧ Mod (blk v) w w' ∧ w'.heap.size = w.heap.size := by
  obtain ⟨es, he, hc⟩ := ho.get (List.getElem?_eq_getElem hk)
  have hone : x.oneCell' = true := Rep.one hy x (by simp)
  rcases ho with ⟨rfl, rfl⟩ | ⟨b, c, cur, rfl, h1, h2, h3, h4, h5, h6⟩
  · simp at hk
  · have ha : (⟨b, 0, .none⟩ : Addr).add k = ⟨b, k, .none⟩ := by unfold Addr.add; split <;> simp_all
    have hksz : k < cur.size := by rw [h5, hz]; omega
    have hcell : w.cell? ⟨b, k, .none⟩ = some cur[k] := by rw [cell_of_row w b k cur T (0, 0) h2, Array.getElem?_eq_getElem hksz]
    have hfr : w.frozen? ⟨b, k, .none⟩ = false := frozen_of_row w b k cur T h2
    have hrun := run_store_one (P := P) (t := t) hi hs hx hone hcell hfr
    simp only [sadr, ha]
    refine ⟨_, hrun, ?_, Mod.setCell _ _ _ (by simp [blk, Value.ownBlock]), by simp⟩
    right
    refine ⟨b, c, cur.setIfInBounds k x, by simp, h1, heap_setCell_same w b k cur T x h2, by simpa using h3, h4, by simpa using h5, ?_⟩
    have hs' := encs_set h6 hk hy
    have hl : (cur.toList.take xs.length).length = xs.length := by
      rw [hz] at h5
      have h7 : cur.toList.length = cur.size := by simp
      rw [List.length_take, h7]
      omega
    have e1 : (cur.setIfInBounds k x).toList.take ((xs.set k y).length * Rep.sz α) =
        (cur.toList.take (xs.length * Rep.sz α)).take (k * Rep.sz α) ++ [x] ++ (cur.toList.take (xs.length * Rep.sz α)).drop (k * Rep.sz α + Rep.sz α) := by
      rw [hz]
      simp only [Array.toList_setIfInBounds, List.length_set, Nat.mul_one]
      rw [List.take_set]
      rw [List.set_eq_take_append_cons_drop, if_pos (by rw [hl]; exact hk)]
      simp
    rw [e1]
    exact hs'

/-! ### append -/
/-- append of news to an owned list; the news lie at 'ad'. -/
theorem own_append {e : TypeId} {i : TypeInfo} {z : Value} (ht : P.underlying t = some (.slice T)) (hi : P.info? T = some i) (hz : i.zero = some z) (hsize : i.size = Rep.sz α) (hzs : z.cells.size = i.size)
    {xs ys : List α} (ho : Own h w T v xs) {ad : Addr} {m c : Nat} {news : List Value} (hm : m = ys.length) (hn : encs h news ys) (hnews : ∀ j u, news[j]? = some u → w.cell? (ad.add j) = some u)
    (hy : ys ≠ []) (h63 : xs.length + ys.length ≤ maxLen) (hbytes : (xs.length + ys.length) * i.bytes ≤ 140737488355328) (hw : hle h (hpOf w)) :
    ∃ v' w', (Builtin.append_ #[t, t] e #[v, .slice (some ad) m c]).run P w = .ok v' w' ∧ Own h w' T v' (xs ++ ys) ∧ Mod (blk v) w w' ∧ movedTo w v v' := by
  have hl := encs_len hn
  have hone := encs_one hn
  have hy0 : 0 < ys.length := List.length_pos_iff.2 hy
  have fresh : ∀ (old : Nat) (cells : List Value), encs h cells (xs ++ ys) → old < xs.length + ys.length →
      Own h (w.drew.alloc (.cells (cells.toArray ++ Builtin.zeroCells z.cells (grownCap w (xs.length + ys.length) old T - (xs.length + ys.length))) T)) T
        (.slice (some ⟨w.heap.size, 0, .none⟩) (xs.length + ys.length) (grownCap w (xs.length + ys.length) old T)) (xs ++ ys) := by
    intro old cells hc ho'
    have hge := grownCap_ge w (xs.length + ys.length) old T
    have hcm := grownCap_le_maxLen w (xs.length + ys.length) old T h63
    have hcl := encs_len hc
    right
    refine ⟨w.heap.size, _, _, by rw [List.length_append], hle_lt hw (Nat.le_refl _), heap_alloc_new w.drew _, by rw [List.length_append]; exact hge, hcm, ?_, ?_⟩
    · simp only [Array.size_append, List.size_toArray, size_zeroCells, hzs, hsize, hcl, List.length_append, ← Nat.add_mul]
      congr 1
      omega
    · simp only [Array.toList_append]
      rw [← hcl, List.take_left]
      exact hc
  have exta : ∀ (o : Obj), Mod (blk v) w (w.drew.alloc o) := fun o =>
    Mod.trans ((Ext.drew w).weaken (fun _ _ h => h.elim)) ((Ext.alloc w.drew o).weaken (fun _ _ h => h.elim))
  have hmv : ∀ n c, movedTo w v (.slice (some ⟨w.heap.size, 0, .none⟩) n c) := fun n c b hb => by
    simp [blk, Value.ownBlock] at hb; subst hb; exact .inr (Nat.le_refl _)
  subst hm
  rcases ho with ⟨rfl, rfl⟩ | ⟨b, cc, cur, rfl, h1, h2, h3, h4, h5, h6⟩
  · have hr := run_append_nil (P := P) w t e T i z ht hi hz ad ys.length c news (by rw [hl, hsize]) hnews hy0 (by simp only [maxLen, List.length_nil, Nat.zero_add] at h63; omega) (by simp only [List.length_nil, Nat.zero_add] at hbytes; omega)
    have hf := fresh 0 news (by simpa using hn) (by simp; exact hy0)
    simp only [List.length_nil, Nat.zero_add, List.nil_append] at hf ⊢
    exact ⟨_, _, hr, hf, exta _, hmv _ _⟩
  · by_cases hroom : xs.length + ys.length ≤ cc
    · have hfit : xs.length * i.size + news.length ≤ cur.size := by rw [hl, hsize, h5, ← Nat.add_mul]; exact Nat.mul_le_mul_right _ hroom
      have hr := run_append_room (P := P) w t e T i ht hi b xs.length cc cur h2 ad ys.length c news (by rw [hl, hsize]) hnews hone hroom hfit
      refine ⟨_, _, hr, ?_, Mod.setRow _ _ _ (by simp [blk, Value.ownBlock]), fun b' hb' => .inl hb'⟩
      right
      refine ⟨b, cc, _, by rw [List.length_append], h1, setRow_heap w b cur _ T _ h2, by rw [List.length_append]; exact hroom, h4, ?_, ?_⟩
      · simp only [List.size_toArray, List.length_append, List.length_take, List.length_drop, Array.length_toList]
        rw [hsize] at hfit ⊢
        have : xs.length * Rep.sz α ≤ cur.size := by omega
        omega
      · rw [hsize]
        have hlen : (cur.toList.take (xs.length * Rep.sz α) ++ news).length = (xs ++ ys).length * Rep.sz α := by
          rw [List.length_append, hl, encs_len h6, List.length_append, Nat.add_mul]
        rw [← hlen, List.take_left]
        exact encs_append h6 hn
    · have hcs : (cur.toList.take (xs.length * Rep.sz α)).length = xs.length * i.size := by rw [encs_len h6, hsize]
      have holds : ∀ j u, (cur.toList.take (xs.length * Rep.sz α))[j]? = some u → w.cell? ((⟨b, 0, .none⟩ : Addr).add j) = some u := by
        intro j u hj
        have ha : (⟨b, 0, .none⟩ : Addr).add j = ⟨b, j, .none⟩ := by unfold Addr.add; split <;> simp_all
        rw [ha, cell_of_row w b j cur T (0, 0) h2]
        rw [List.getElem?_take] at hj
        split at hj
        · simpa using hj
        · cases hj
      have hr := run_append_grow (P := P) w t e T i z ht hi hz ⟨b, 0, .none⟩ xs.length cc (cur.toList.take (xs.length * Rep.sz α)) hcs holds ad ys.length c news (by rw [hl, hsize]) hnews (by omega)
        (by simp only [maxLen] at h63; omega) (growslice_fits (by omega) hbytes)
      have hf := fresh cc (cur.toList.take (xs.length * Rep.sz α) ++ news) (encs_append h6 hn) (by omega)
      have e1 : ((cur.toList.take (xs.length * Rep.sz α) ++ news).toArray : Array Value) = (cur.toList.take (xs.length * Rep.sz α)).toArray ++ news.toArray := by simp
      rw [e1] at hf
      exact ⟨_, _, hr, hf, exta _, hmv _ _⟩

/-! ### A slice built of values, and what is put behind another -/
theorem foldl_put (off : Nat) : ∀ (l : List Value) (k : Nat) (cs : Array Value), off + k + l.length ≤ cs.size →
    ((l.zipIdx k).foldl (fun cs (p : Value × Nat) => cs.setIfInBounds (off + p.2) p.1) cs).toList = cs.toList.take (off + k) ++ l ++ cs.toList.drop (off + k + l.length)
  | [], k, cs, _ => by simp
  | v :: l, k, cs, hl => by
    simp only [List.length_cons] at hl
    rw [List.zipIdx_cons, List.foldl_cons, foldl_put off l (k + 1) _ (by simp; omega)]
    have hlen : cs.toList.length = cs.size := by simp
    simp only [Array.toList_setIfInBounds, List.length_cons]
    rw [show off + (k + 1) = off + k + 1 by omega, List.take_set, List.take_succ_eq_append_getElem (by omega), List.set_append_right (h := by simp; omega)]
    have e1 : off + k - (cs.toList.take (off + k)).length = 0 := by simp; omega
    rw [e1, List.drop_set_of_lt (by omega)]
    simp [List.append_assoc, Nat.add_assoc, Nat.add_comm 1]

theorem fill_one {place : Nat → Option (Nat × Nat)} {off sz i : Nat} {x : Value} {cs : Array Value} {rest : List (Nat × Value)} (hp : place i = some (off, sz)) (hx : x.cells.size = sz) (hs : off + sz ≤ cs.size) :
    Instr.fill place cs ((i, x) :: rest) = Instr.fill place (cs.toList.take off ++ x.cells.toList ++ cs.toList.drop (off + sz)).toArray rest := by
  conv => lhs; unfold Instr.fill
  simp only [hp]
  rw [if_neg (by simp [hx]; omega)]
  congr 1
  apply Array.ext'
  have := foldl_put off x.cells.toList 0 cs (by simp; omega)
  simp only [Nat.add_zero, Array.length_toList, hx] at this
  rw [← this, ← Array.foldl_toList]
  simp [Array.toList_zipIdx]

theorem fill_all (sz : Nat) : ∀ (xs : List Value) (k : Nat) (cs : Array Value), (∀ x ∈ xs, x.cells.size = sz) → cs.size = (k + xs.length) * sz →
    Instr.fill (fun i => some (i * sz, sz)) cs ((xs.zipIdx k).map fun p => (p.2, p.1)) = some (cs.toList.take (k * sz) ++ xs.flatMap (·.cells.toList)).toArray
  | [], k, cs, _, hc => by
    simp only [List.length_nil, Nat.add_zero] at hc
    simp only [List.zipIdx_nil, List.map_nil, Instr.fill, List.flatMap_nil, List.append_nil]
    congr 1
    apply Array.ext'
    rw [← hc, List.take_of_length_le (by simp)]
  | x :: xs, k, cs, hx, hc => by
    simp only [List.length_cons] at hc
    have hc' : cs.size = k * sz + sz + xs.length * sz := by rw [hc, Nat.add_mul, Nat.add_mul]; omega
    have hxs := hx x (by simp)
    have hlen : cs.toList.length = cs.size := by simp
    rw [List.zipIdx_cons, List.map_cons]
    show Instr.fill _ cs ((k, x) :: _) = _
    rw [fill_one rfl hxs (by omega)]
    have hl : (List.take (k * sz) cs.toList ++ x.cells.toList ++ List.drop (k * sz + sz) cs.toList).toArray.size = (k + 1 + xs.length) * sz := by
      simp [hxs]
      rw [Nat.add_mul, Nat.add_mul]
      omega
    rw [fill_all sz xs (k + 1) _ (fun y hy => hx y (by simp [hy])) hl]
    congr 2
    have e : (k + 1) * sz = (List.take (k * sz) cs.toList ++ x.cells.toList).length := by
      simp [hxs, Nat.add_mul]; omega
    rw [e, List.take_left]
    simp

theorem run_buildSlice {e : TypeId} {z : Value} (ht : elemT P t = some e) (hi : (P.info? e).isSome = true) (hz : zeroT P e = some z) (xs : List Value) (hx : ∀ x ∈ xs, x.cells.size = szT P e) (hn : xs ≠ [])
    (hpos : 0 < szT P e) (hsm : xs.length * szT P e ≤ 16777216) {parts : Array (Nat × Value)} (hp : parts.toList = (xs.zipIdx 0).map fun p => (p.2, p.1)) {n : Nat} (hnl : n = xs.length) :
    (Instr.buildSlice t n parts).run P w = .ok (.slice (some ⟨w.heap.size, 0, none⟩) n n) (w.alloc (.cells (xs.flatMap (·.cells.toList)).toArray e)) := by
  subst hnl
  obtain ⟨i, hi'⟩ := Option.isSome_iff_exists.1 hi
  have hz' : i.zero = some z := by simpa [zeroT, hi'] using hz
  have h0 : ¬ (xs.length * szT P e = 0) := by
    have : 0 < xs.length := List.length_pos_iff.2 hn
    exact Nat.ne_of_gt (Nat.mul_pos this hpos)
  unfold Instr.buildSlice zeroValue
  simp only [Sem.run_bind, run_under, elemT_spec ht, Result.andThen_ok, run_szOf hi, Sem.run_ite, run_tyinfo, hi', hz', Sem.run_pure]
  rw [if_neg (by omega)]
  simp only [h0, if_false]
  rw [hp, fill_all (szT P e) xs 0 _ hx (by simp)]
  simp only [Nat.zero_mul, List.take_zero, List.nil_append]
  rfl

theorem szT_info {i : TypeInfo} (hi : P.info? t = some i) : szT P t = i.size := by simp [szT, hi]
theorem bytT_info {i : TypeInfo} (hi : P.info? t = some i) : bytT P t = i.bytes := by simp [bytT, hi]
theorem zeroT_info {z : Value} (hz : zeroT P t = some z) : ∃ i, P.info? t = some i ∧ i.zero = some z := by
  unfold zeroT at hz
  cases hi : P.info? t with
  | none => simp [hi] at hz
  | some i => exact ⟨i, rfl, by simpa [hi] using hz⟩

/-- One element put behind an owned list (Go: l = append(l, x)). -/
theorem own_push {e : TypeId} {z : Value} (ht : elemT P t = some T) (hz : zeroT P T = some z) (hsize : szT P T = Rep.sz α) (hzs : z.cells.size = Rep.sz α)
    {xs : List α} (ho : Own h w T v xs) {x : Value} {y : α} (hy : Rep.enc h x.cells.toList y) (h63 : xs.length + 1 ≤ 1000000000000) (hbytes : (xs.length + 1) * bytT P T ≤ 140737488355328) (hw : hle h (hpOf w)) :
    ∃ v' w', (Builtin.append_ #[t, t] e #[v, .slice (some ⟨w.heap.size, 0, none⟩) 1 1]).run P (w.alloc (.cells x.cells T)) = .ok v' w' ∧ Own h w' T v' (xs ++ [y]) ∧ Mod (blk v) w w' ∧ movedTo w v v' := by
  obtain ⟨i, hi, hiz⟩ := zeroT_info hz
  rw [szT_info hi] at hsize
  rw [bytT_info hi] at hbytes
  have hw1 : hle h (hpOf (w.alloc (.cells x.cells T))) := hle_trans hw (hle_ext (Ext.alloc w _))
  have hnews : ∀ j u, x.cells.toList[j]? = some u → (w.alloc (.cells x.cells T)).cell? ((⟨w.heap.size, 0, none⟩ : Addr).add j) = some u := by
    intro j u hj
    have ha : (⟨w.heap.size, 0, none⟩ : Addr).add j = ⟨w.heap.size, j, none⟩ := by unfold Addr.add; split <;> simp_all
    rw [ha, World.cell?_alloc_new]
    simpa using hj
  obtain ⟨v', w', h1, h2, h3, h4⟩ := own_append (P := P) (e := e) (elemT_spec ht) hi hiz hsize (by rw [hzs, hsize]) (ho.ext (Ext.alloc w (.cells x.cells T))) (c := 1) (m := 1) (ad := ⟨w.heap.size, 0, none⟩) rfl (encs_single hy) hnews (by simp)
    (by simp [maxLen]; omega) (by simpa using hbytes) hw1
  refine ⟨v', w', h1, h2, ?_, fun b hb => ?_⟩
  · exact Mod.trans ((Ext.alloc w (.cells x.cells T)).weaken (fun _ _ h => h.elim)) h3
  · rcases h4 b hb with h | h
    · exact .inl h
    · simp at h; exact .inr (by omega)

theorem run_buildSlice1 {e : TypeId} {z : Value} (ht : elemT P t = some e) (hz : zeroT P e = some z) (hpos : 0 < szT P e) (hsm : szT P e ≤ 16777216) {x : Value} (hx : x.cells.size = szT P e) :
    (Instr.buildSlice t 1 #[(0, x)]).run P w = .ok (.slice (some ⟨w.heap.size, 0, none⟩) 1 1) (w.alloc (.cells x.cells e)) := by
  obtain ⟨i, hi, hiz⟩ := zeroT_info hz
  have := run_buildSlice (w := w) ht (by rw [hi]; rfl) hz [x] (by simpa using hx) (by simp) hpos (by simpa using hsm) (parts := #[(0, x)]) rfl (n := 1) rfl
  simpa using this
end
end Go.Proofs.Ytldmnnloakpjlaa
