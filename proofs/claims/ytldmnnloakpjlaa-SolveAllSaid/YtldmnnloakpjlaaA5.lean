/- Memory: what a value says in a part of the heap (R), what a call owns (Own), what a step may turn (Mod). -/
import Derived.Test.YtldmnnloakpjlaaA4
import Derived.Laws.AppendOwn
import Derived.Laws.CopyRow
namespace Go.Proofs.Ytldmnnloakpjlaa
open Go

abbrev Hp := Nat → Option Obj
def hpOf (w : World) : Hp := fun b => w.heap[b]?
def hle (h k : Hp) : Prop := ∀ b o, h b = some o → k b = some o
theorem hle_refl (h : Hp) : hle h h := fun _ _ e => e
theorem hle_trans {a b c : Hp} (h : hle a b) (k : hle b c) : hle a c := fun x o e => k x o (h x o e)

def cellAt (h : Hp) (a : Addr) : Option Value := match h a.block with
  | some (.cells c _ _) => if a.spot.isSome then none else c[a.off]?
  | _ => none
theorem cell_eq (w : World) (a : Addr) : w.cell? a = cellAt (hpOf w) a := rfl
theorem cellAt_mono {h k : Hp} (hk : hle h k) {a : Addr} {v : Value} (e : cellAt h a = some v) : cellAt k a = some v := by
  unfold cellAt at *
  cases hb : h a.block with
  | none => simp [hb] at e
  | some o => rw [hk _ _ hb]; rw [hb] at e; exact e

/-! ### What a step may turn -/
structure Mod (M : Nat → Prop) (w w' : World) : Prop where
  os : w'.os = w.os
  tape : w'.tape = w.tape
  output : w'.output = w.output
  size : w.heap.size ≤ w'.heap.size
  block : ∀ k, k < w.heap.size → ¬ M k → w'.heap[k]? = w.heap[k]?
abbrev Ext (w w' : World) : Prop := Mod (fun _ => False) w w'
theorem Mod.refl {M : Nat → Prop} (w : World) : Mod M w w := ⟨rfl, rfl, rfl, Nat.le_refl _, fun _ _ _ => rfl⟩
theorem Mod.trans {M : Nat → Prop} {a b c : World} (h : Mod M a b) (k : Mod M b c) : Mod M a c :=
  ⟨k.os.trans h.os, k.tape.trans h.tape, k.output.trans h.output, Nat.le_trans h.size k.size, fun i hi hm => (k.block i (Nat.lt_of_lt_of_le hi h.size) hm).trans (h.block i hi hm)⟩
theorem Mod.weaken {M N : Nat → Prop} {w w' : World} (h : Mod M w w') (hmn : ∀ k, k < w.heap.size → M k → N k) : Mod N w w' := ⟨h.os, h.tape, h.output, h.size, fun k hk hn => h.block k hk fun hm => hn (hmn k hk hm)⟩
theorem Ext.drew (w : World) : Ext w w.drew := ⟨rfl, rfl, rfl, Nat.le_refl _, fun _ _ _ => rfl⟩
theorem Ext.alloc (w : World) (o : Obj) : Ext w (w.alloc o) := ⟨rfl, rfl, rfl, by simp, fun k hk _ => by
  show (w.heap.push o)[k]? = _
  rw [Array.getElem?_push, if_neg (by omega)]⟩
/-- What was there first is as it was. -/
theorem Mod.ext_of {M : Nat → Prop} {w w1 w2 : World} (h : Ext w w1) (k : Mod M w1 w2) (hM : ∀ b, M b → w.heap.size ≤ b) : Ext w w2 :=
  ⟨k.os.trans h.os, k.tape.trans h.tape, k.output.trans h.output, Nat.le_trans h.size k.size, fun i hi _ => (k.block i (Nat.lt_of_lt_of_le hi h.size) (fun hm => by have := hM i hm; omega)).trans (h.block i hi id)⟩
theorem Mod.setCell {M : Nat → Prop} (w : World) (a : Addr) (v : Value) (h : M a.block) : Mod M w (w.setCell a v) :=
  ⟨rfl, rfl, rfl, by simp [World.setCell], fun k _ hm => by
    simp only [World.setCell, Array.getElem?_modify]
    rw [if_neg (fun e : a.block = k => hm (e ▸ h))]⟩
theorem Mod.setRow {M : Nat → Prop} (w : World) (g : Nat) (cs : Array Value) (h : M g) : Mod M w (w.setRow g cs) :=
  ⟨rfl, rfl, rfl, by simp, fun k _ hm => setRow_other w g k cs (fun e => hm (e ▸ h))⟩
theorem hle_ext {w w' : World} (h : Ext w w') : hle (hpOf w) (hpOf w') := fun b o e => by
  have hb : b < w.heap.size := (Array.getElem?_eq_some_iff.1 (show w.heap[b]? = some o from e)).1
  exact (h.block b hb id).trans e
theorem hle_mod {h : Hp} {M : Nat → Prop} {w w' : World} (hw : hle h (hpOf w)) (hm : Mod M w w') (hM : ∀ b, M b → h b = none) : hle h (hpOf w') := fun b o e => by
  have e1 := hw b o e
  have hb : b < w.heap.size := (Array.getElem?_eq_some_iff.1 (show w.heap[b]? = some o from e1)).1
  exact (hm.block b hb (fun hh => by rw [hM b hh] at e; cases e)).trans e1
theorem hle_lt {h : Hp} {w : World} (hw : hle h (hpOf w)) {b : Nat} (hb : w.heap.size ≤ b) : h b = none := by
  cases e : h b with
  | none => rfl
  | some o =>
    have := (Array.getElem?_eq_some_iff.1 (show w.heap[b]? = some o from hw b o e)).1
    omega

/-! ### Data in memory -/
class Rep (α : Type) where
  sz : Nat
  pos : 0 < sz
  enc : Hp → List Value → α → Prop
  len : ∀ {h cs x}, enc h cs x → cs.length = sz
  mono : ∀ {h k cs x}, hle h k → enc h cs x → enc k cs x
  one : ∀ {h cs x}, enc h cs x → ∀ v ∈ cs, v.oneCell' = true

/-- Data of one cell whose value hangs on no memory. -/
class Flat (α : Type) where
  val : α → Value
  one : ∀ x, (val x).oneCell' = true
instance {α : Type} [Flat α] : Rep α where
  sz := 1
  pos := by omega
  enc _ cs x := cs = [Flat.val x]
  len h := by simp [h]
  mono _ h := h
  one h := by
    intro v hv
    rw [h] at hv
    simp at hv
    subst hv
    exact Flat.one _
instance : Flat Int := ⟨fun n => .int .i64 n, fun _ => rfl⟩
instance : Flat Bool := ⟨fun b => .bool b, fun _ => rfl⟩
instance : Flat ByteArray := ⟨fun s => .string s, fun _ => rfl⟩
instance : Flat Nat := ⟨fun n => .int .u64 n, fun _ => rfl⟩
instance {α β : Type} [Rep α] [Rep β] : Rep (α × β) where
  sz := Rep.sz α + Rep.sz β
  pos := by have := Rep.pos (α := α); omega
  enc h cs x := ∃ c1 c2, cs = c1 ++ c2 ∧ Rep.enc h c1 x.1 ∧ Rep.enc h c2 x.2
  len := by rintro h cs x ⟨c1, c2, rfl, h1, h2⟩; simp [Rep.len h1, Rep.len h2]
  mono := by rintro h k cs x hk ⟨c1, c2, rfl, h1, h2⟩; exact ⟨c1, c2, rfl, Rep.mono hk h1, Rep.mono hk h2⟩
  one := by
    rintro h cs x ⟨c1, c2, rfl, h1, h2⟩ v hv
    rcases List.mem_append.1 hv with hv | hv
    · exact Rep.one h1 v hv
    · exact Rep.one h2 v hv

section
variable {α : Type} [Rep α]
def encs (h : Hp) : List Value → List α → Prop
  | cs, [] => cs = []
  | cs, x :: xs => ∃ c1 c2, cs = c1 ++ c2 ∧ Rep.enc h c1 x ∧ encs h c2 xs
theorem encs_len {h : Hp} : ∀ {xs : List α} {cs : List Value}, encs h cs xs → cs.length = xs.length * Rep.sz α
  | [], cs, e => by simp [encs] at e; simp [e]
  | x :: xs, cs, e => by
    obtain ⟨c1, c2, rfl, h1, h2⟩ := e
    simp only [List.length_append, List.length_cons, Rep.len h1, encs_len h2, Nat.add_mul]
    omega
theorem encs_mono {h k : Hp} (hk : hle h k) : ∀ {xs : List α} {cs : List Value}, encs h cs xs → encs k cs xs
  | [], _, e => e
  | _ :: _, _, ⟨c1, c2, e, h1, h2⟩ => ⟨c1, c2, e, Rep.mono hk h1, encs_mono hk h2⟩
theorem encs_one {h : Hp} : ∀ {xs : List α} {cs : List Value}, encs h cs xs → ∀ v ∈ cs, v.oneCell' = true
  | [], cs, e, v, hv => by simp [encs] at e; subst e; cases hv
  | x :: xs, cs, ⟨c1, c2, e, h1, h2⟩, v, hv => by
    subst e
    rcases List.mem_append.1 hv with hv | hv
    · exact Rep.one h1 v hv
    · exact encs_one h2 v hv
theorem encs_append {h : Hp} : ∀ {xs : List α} {cs ds : List Value} {ys : List α}, encs h cs xs → encs h ds ys → encs h (cs ++ ds) (xs ++ ys)
  | [], cs, ds, ys, e1, e2 => by simp [encs] at e1; subst e1; exact e2
  | x :: xs, cs, ds, ys, ⟨c1, c2, e, h1, h2⟩, e2 => ⟨c1, c2 ++ ds, by rw [e, List.append_assoc], h1, encs_append h2 e2⟩
theorem encs_single {h : Hp} {es : List Value} {x : α} (he : Rep.enc h es x) : encs h es [x] := ⟨es, [], by simp, he, rfl⟩
theorem encs_split {h : Hp} : ∀ (xs ys : List α) {cs : List Value}, encs h cs (xs ++ ys) → ∃ c1 c2, cs = c1 ++ c2 ∧ encs h c1 xs ∧ encs h c2 ys
  | [], ys, cs, e => ⟨[], cs, rfl, rfl, e⟩
  | x :: xs, ys, cs, ⟨c1, c2, e, h1, h2⟩ => by
    obtain ⟨d1, d2, e2, h3, h4⟩ := encs_split xs ys h2
    exact ⟨c1 ++ d1, d2, by rw [e, e2, List.append_assoc], ⟨c1, d1, rfl, h1, h3⟩, h4⟩
/-- The element number k. -/
theorem encs_get {h : Hp} {xs : List α} {cs : List Value} (e : encs h cs xs) {k : Nat} {x : α} (hk : xs[k]? = some x) :
    ∃ es, Rep.enc h es x ∧ ∀ j, j < Rep.sz α → cs[k * Rep.sz α + j]? = es[j]? := by
  have hlt : k < xs.length := (List.getElem?_eq_some_iff.1 hk).1
  have hx : xs = xs.take k ++ x :: xs.drop (k + 1) := by
    have h2 : xs[k] = x := (List.getElem?_eq_some_iff.1 hk).2
    have := List.take_append_drop k xs
    rw [List.drop_eq_getElem_cons hlt, h2] at this
    exact this.symm
  rw [hx] at e
  obtain ⟨c1, c2, rfl, h1, ⟨es, c3, rfl, h2, h3⟩⟩ := encs_split _ _ e
  refine ⟨es, h2, fun j hj => ?_⟩
  have hl : c1.length = k * Rep.sz α := by rw [encs_len h1, List.length_take, Nat.min_eq_left (Nat.le_of_lt hlt)]
  rw [List.getElem?_append_right (by omega), hl, Nat.add_sub_cancel_left, List.getElem?_append_left (by rw [Rep.len h2]; exact hj)]
theorem encs_set {h : Hp} {xs : List α} {cs : List Value} (e : encs h cs xs) {k : Nat} (hk : k < xs.length) {y : α} {ds : List Value} (hd : Rep.enc h ds y) :
    encs h (cs.take (k * Rep.sz α) ++ ds ++ cs.drop (k * Rep.sz α + Rep.sz α)) (xs.set k y) := by
  have hx : xs = xs.take k ++ xs[k] :: xs.drop (k + 1) := by
    have := List.take_append_drop k xs
    rw [List.drop_eq_getElem_cons hk] at this
    exact this.symm
  rw [hx] at e
  obtain ⟨c1, c2, rfl, h1, ⟨es, c3, rfl, h2, h3⟩⟩ := encs_split _ _ e
  have hl : c1.length = k * Rep.sz α := by rw [encs_len h1, List.length_take, Nat.min_eq_left (Nat.le_of_lt hk)]
  have hl2 : es.length = Rep.sz α := Rep.len h2
  have e1 : (c1 ++ (es ++ c3)).take (k * Rep.sz α) = c1 := by rw [← hl]; exact List.take_left
  have e2 : (c1 ++ (es ++ c3)).drop (k * Rep.sz α + Rep.sz α) = c3 := by
    rw [← hl, ← hl2, ← List.append_assoc, ← List.length_append]; exact List.drop_left
  rw [e1, e2]
  have hset : xs.set k y = xs.take k ++ y :: xs.drop (k + 1) := List.set_eq_take_append_cons_drop.trans (by rw [if_pos hk])
  rw [hset, List.append_assoc]
  exact encs_append h1 ⟨ds, c3, rfl, hd, h3⟩

/-- A slice that says a list. -/
instance : Rep (List α) where
  sz := 1
  pos := by omega
  enc h cs xs := ∃ a n c, cs = [.slice a n c] ∧ n = xs.length ∧ n ≤ c ∧ ∃ es, encs h es xs ∧ ∀ j v, es[j]? = some v → ∃ ad, a = some ad ∧ cellAt h (ad.add j) = some v
  len := by rintro h cs x ⟨a, n, c, rfl, _⟩; rfl
  mono := by
    rintro h k cs x hk ⟨a, n, c, e, h1, h2, es, h3, h4⟩
    refine ⟨a, n, c, e, h1, h2, es, encs_mono hk h3, fun j v hv => ?_⟩
    obtain ⟨ad, e1, e2⟩ := h4 j v hv
    exact ⟨ad, e1, cellAt_mono hk e2⟩
  one := by
    rintro h cs x ⟨a, n, c, rfl, _⟩ v hv
    simp at hv
    subst hv
    rfl
end

/-- A value of one cell says x. -/
abbrev R {α : Type} [Rep α] (h : Hp) (v : Value) (x : α) : Prop := Rep.enc h [v] x

theorem Addr.add_add' (a : Addr) (x y : Nat) : (a.add x).add y = a.add (x + y) := by
  unfold Addr.add
  by_cases hx : x = 0
  · subst hx; simp
  · by_cases hy : y = 0
    · subst hy; simp [hx]
    · simp [hx, hy, Nat.add_assoc]

section
variable {α : Type} [Rep α] {h : Hp} {v : Value} {xs : List α}
theorem R.isS (hr : R h v xs) : isS v = true := by
  obtain ⟨a, n, c, e, _⟩ := hr
  simp at e; subst e; rfl
theorem R.vlen (hr : R h v xs) : vlen v = xs.length := by
  obtain ⟨a, n, c, e, h1, _⟩ := hr
  simp at e; subst e; exact h1
theorem R.vcap (hr : R h v xs) : xs.length ≤ vcap v := by
  obtain ⟨a, n, c, e, h1, h2, _⟩ := hr
  simp at e; subst e; rw [← h1]; exact h2
theorem R.get (hr : R h v xs) {k : Nat} {x : α} (hk : xs[k]? = some x) :
    inS v k = true ∧ ∃ es, Rep.enc h es x ∧ ∀ j u, es[j]? = some u → cellAt h ((sadr v (k * Rep.sz α)).add j) = some u := by
  obtain ⟨a, n, c, e, h1, h2, es, h3, h4⟩ := hr
  simp at e; subst e
  obtain ⟨ds, hd1, hd2⟩ := encs_get h3 hk
  have hlt : k < xs.length := (List.getElem?_eq_some_iff.1 hk).1
  have hl := Rep.len hd1
  have hpos := Rep.pos (α := α)
  have h0 : ∃ u, ds[0]? = some u := by
    rw [List.getElem?_eq_getElem (by omega)]; exact ⟨_, rfl⟩
  obtain ⟨u0, hu0⟩ := h0
  obtain ⟨ad, rfl, _⟩ := h4 (k * Rep.sz α + 0) u0 (by rw [hd2 0 hpos]; exact hu0)
  refine ⟨by simp [inS]; omega, ds, hd1, fun j u hj => ?_⟩
  have hjl : j < ds.length := (List.getElem?_eq_some_iff.1 hj).1
  obtain ⟨ad', e', hc⟩ := h4 (k * Rep.sz α + j) u (by rw [hd2 j (by omega)]; exact hj)
  obtain rfl := Option.some.inj e'
  simp only [sadr]
  rw [Addr.add_add']
  exact hc
theorem R.inS (hr : R h v xs) {k : Nat} (hk : k < xs.length) : inS v k = true := (hr.get (List.getElem?_eq_getElem hk)).1
end

theorem add_zero' (a : Addr) : a.add 0 = a := by simp [Addr.add]

/-! ### Loads -/
section
variable {P : Program} {t : TypeId} {w : World} {h : Hp}
theorem ld_cell {a : Addr} {u : Value} (ht : aggT P t = false) (hc : w.cell? a = some u) : (Instr.loadAt t (.pointer (some a))).run P w = .ok u w := by
  unfold Instr.loadAt loadVar
  simp only [Instr.sureAddr, Sem.run_bind, Sem.run_pure, Result.andThen_ok, run_isAgg t (under_of_agg ht), ht, Bool.false_eq_true, if_false, run_load, hc]
theorem ld_agg {a : Addr} {cs : List Value} (ht : aggT P t = true) (hu : (P.underlying t).isSome = true) (hi : (P.info? t).isSome = true) (hs : szT P t = cs.length)
    (hc : ∀ j u, cs[j]? = some u → w.cell? (a.add j) = some u) : (Instr.loadAt t (.pointer (some a))).run P w = .ok (.agg cs.toArray) w := by
  unfold Instr.loadAt loadVar
  simp only [Instr.sureAddr, Sem.run_bind, Sem.run_pure, Result.andThen_ok, run_isAgg t hu, ht, if_true, run_szOf hi, hs, run_loadCells_list w a cs hc]
/-- An element of one cell. -/
theorem ld_flat {α : Type} [Flat α] {v : Value} {xs : List α} (hr : R h v xs) (hw : hle h (hpOf w)) {k : Nat} {x : α} (hk : xs[k]? = some x) (ht : aggT P t = false) :
    (Instr.loadAt t (.pointer (some (sadr v k)))).run P w = .ok (Flat.val x) w := by
  obtain ⟨_, es, he, hc⟩ := hr.get hk
  have he' : es = [Flat.val x] := he
  have := hc 0 (Flat.val x) (by rw [he']; rfl)
  rw [add_zero'] at this
  have h1 : (k * Rep.sz α) = k := Nat.mul_one k
  rw [h1] at this
  exact ld_cell ht (cellAt_mono hw this)
theorem ld_list {α : Type} [Rep α] {v : Value} {xs : List (List α)} (hr : R h v xs) (hw : hle h (hpOf w)) {k : Nat} {x : List α} (hk : xs[k]? = some x) (ht : aggT P t = false) :
    ∃ u, R h u x ∧ (Instr.loadAt t (.pointer (some (sadr v k)))).run P w = .ok u w := by
  obtain ⟨_, es, he, hc⟩ := hr.get hk
  have hl : es.length = 1 := Rep.len he
  match es, hl with
  | [u], _ =>
    have := hc 0 u rfl
    rw [add_zero'] at this
    have h1 : (k * Rep.sz (List α)) = k := Nat.mul_one k
    rw [h1] at this
    exact ⟨u, he, ld_cell ht (cellAt_mono hw this)⟩
end
end Go.Proofs.Ytldmnnloakpjlaa
