/- A variable of one's own in memory (a struct, an array); pairs of numbers as elements. -/
import Derived.Test.YtldmnnloakpjlaaA8
namespace Go.Proofs.Ytldmnnloakpjlaa
open Go

section
variable {P : Program} {w : World} {h : Hp} {t T : TypeId} {v : Value}
theorem setRow_alloc (w : World) (z cs : Array Value) (T : TypeId) : (w.alloc (.cells z T)).setRow w.heap.size cs = w.alloc (.cells cs T) := by
  unfold World.setRow World.alloc
  congr 1
  apply Array.ext
  · simp
  · intro i h1 h2
    simp only [Array.getElem_modify]
    by_cases hi : w.heap.size = i
    · subst hi; simp
    · rw [if_neg hi]
      have : i < w.heap.size := by simp at h2; omega
      simp [Array.getElem_push, this]
/-- var x T, and x = (cs): in a block of its own. -/
theorem locV {z : Value} (hz : zeroT P T = some z) (hs : z.cells.size = szT P T) {cs : Array Value} (hc : cs.size = szT P T) (h1 : ∀ u ∈ cs.toList, u.oneCell' = true) :
    (Instr.alloc T true (.tuple #[])).run P w = .ok (.pointer (some ⟨w.heap.size, 0, none⟩)) (w.alloc (.cells z.cells T)) ∧
    (Instr.storeAt T (.pointer (some ⟨w.heap.size, 0, none⟩)) (.agg cs)).run P (w.alloc (.cells z.cells T)) = .ok () (w.alloc (.cells cs T)) := by
  obtain ⟨i, hi, hiz⟩ := zeroT_info hz
  constructor
  · unfold Instr.alloc zeroValue
    simp only [Sem.run_bind, run_tyinfo, hi, hiz, Sem.run_pure, Result.andThen_ok]
    rfl
  · have hst := run_storeCells_from (P := P) w.heap.size T cs.toList 0 z.cells (w.alloc (.cells z.cells T)) (heap_alloc_new w _) (by simp [hc, hs]) h1
    simp only [List.take_zero, List.nil_append, Array.toArray_toList] at hst
    unfold Instr.storeAt storeVar
    simp only [Instr.sureAddr, Sem.run_bind, Sem.run_pure, Result.andThen_ok, sizeOf, run_tyinfo, hi, Value.cells]
    rw [szT_info hi] at hc
    simp only [hc, ne_eq, not_true_eq_false, if_false]
    rw [← setRow_alloc w z.cells cs T]
    exact hst
/-- A cell of a block that is new. -/
theorem cell_new {cs : Array Value} {i : Nat} {u : Value} (hu : cs[i]? = some u) : (w.alloc (.cells cs T)).cell? ⟨w.heap.size, i, none⟩ = some u := by
  rw [World.cell?_alloc_new]; exact hu
theorem ld_new {cs : Array Value} {i : Nat} {u : Value} (hu : cs[i]? = some u) (ht : aggT P t = false) : (Instr.loadAt t (.pointer (some ⟨w.heap.size, i, none⟩))).run P (w.alloc (.cells cs T)) = .ok u (w.alloc (.cells cs T)) :=
  ld_cell ht (cell_new hu)
/-- An element that is a pair of numbers. -/
theorem ld_pair {xs : List (Int × Int)} (hr : R h v xs) (hw : hle h (hpOf w)) {k : Nat} {x : Int × Int} (hk : xs[k]? = some x) (ht : aggT P t = true) (hu : (P.underlying t).isSome = true) (hi : (P.info? t).isSome = true) (hs : szT P t = 2) :
    (Instr.loadAt t (.pointer (some (sadr v (k * 2))))).run P w = .ok (.agg #[.int .i64 x.1, .int .i64 x.2]) w := by
  obtain ⟨_, es, he, hc⟩ := hr.get hk
  obtain ⟨c1, c2, rfl, h1, h2⟩ := he
  have h1' : c1 = [.int .i64 x.1] := h1
  have h2' : c2 = [.int .i64 x.2] := h2
  subst h1' h2'
  exact ld_agg (cs := [.int .i64 x.1, .int .i64 x.2]) ht hu hi hs fun j u hj => cellAt_mono hw (hc j u hj)
theorem add_lit (b o k : Nat) : (⟨b, o, none⟩ : Addr).add k = ⟨b, o + k, none⟩ := by unfold Addr.add; split <;> simp_all
/-- The slice that is element k. -/
theorem R.row {α : Type} [Rep α] {xss : List (List α)} (hr : R h v xss) {k : Nat} {x : List α} (hk : xss[k]? = some x) : ∃ u, R h u x ∧ cellAt h (sadr v k) = some u := by
  obtain ⟨_, es, he, hc⟩ := hr.get hk
  have hl : es.length = 1 := Rep.len he
  match es, hl with
  | [u], _ =>
    have := hc 0 u rfl
    rw [add_zero'] at this
    have h1 : (k * Rep.sz (List α)) = k := Nat.mul_one k
    rw [h1] at this
    exact ⟨u, he, this⟩
theorem ld_at {a : Addr} {u : Value} (hc : cellAt h a = some u) (hw : hle h (hpOf w)) (ht : aggT P t = false) : (Instr.loadAt t (.pointer (some a))).run P w = .ok u w :=
  ld_cell ht (cellAt_mono hw hc)
theorem Own.ext2 {α : Type} [Rep α] {w0 w2 : World} {xs : List α} (ho : Own (hpOf w0) w T v xs) (hx : Ext w0 w) (hm : Mod (blk v) w w2) : Ext w0 w2 :=
  Mod.ext_of hx hm fun b hb => by
    rcases Nat.lt_or_ge b w0.heap.size with hlt | hge
    · have := ho.free hb
      simp [hpOf, hlt] at this
    · exact hge
theorem encs_flat {α : Type} [Flat α] {k : Hp} : ∀ {xs : List α} {cs : List Value}, encs k cs xs → encs h cs xs
  | [], _, e => e
  | _ :: _, _, ⟨c1, c2, e, h1, h2⟩ => ⟨c1, c2, e, h1, encs_flat h2⟩
/-- Less is known to be shared (data that hang on no memory). -/
theorem Own.down {α : Type} [Flat α] {k : Hp} {xs : List α} (ho : Own k w T v xs) (hk : hle h k) : Own h w T v xs := by
  rcases ho with hn | ⟨b, c, cur, rfl, h1, h2, h3, h4, h5, h6⟩
  · exact .inl hn
  · refine .inr ⟨b, c, cur, rfl, ?_, h2, h3, h4, h5, encs_flat h6⟩
    cases e : h b with
    | none => rfl
    | some o => rw [hk b o e] at h1; cases h1
/-- What a callee that was called later owns is one's own. -/
theorem Own.back {α : Type} [Flat α] {w0 w1 : World} {xs : List α} (ho : Own (hpOf w1) w T v xs) (hx : Ext w0 w1) : Own (hpOf w0) w T v xs := ho.down (hle_ext hx)
end
end Go.Proofs.Ytldmnnloakpjlaa
