/- The solver's state in memory. -/
import Derived.Test.YtldmnnloakpjlaaB20
import Derived.Test.YtldmnnloakpjlaaA12
import Derived.Test.YtldmnnloakpjlaaC13
set_option linter.unusedSimpArgs false
set_option linter.unusedVariables false
set_option maxRecDepth 100000
namespace Go.Proofs.Ytldmnnloakpjlaa
open Go

section
variable {P : Program} {h : Hp} {w : World} {t T : TypeId} {v : Value}
/-- A variable of two cells in a block of its own: a cell is loaded, stored; all is loaded, stored. -/
theorem blk_ld {gb i : Nat} {cs : Array Value} {u : Value} (hh : w.heap[gb]? = some (.cells cs T (0, 0))) (hu : cs[i]? = some u) (ht : aggT P t = false) : (Instr.loadAt t (.pointer (some ⟨gb, i, none⟩))).run P w = .ok u w :=
  ld_cell ht (by rw [cell_of_row w gb i cs T (0, 0) hh]; exact hu)
theorem blk_st {gb i : Nat} {cs : Array Value} {x : Value} (hh : w.heap[gb]? = some (.cells cs T (0, 0))) (hi : i < cs.size) (hx : x.cells = #[x]) (h1 : x.oneCell' = true) {inf : TypeInfo} (hinf : P.info? t = some inf) (hs : inf.size = 1) :
    ∃ w', (Instr.storeAt t (.pointer (some ⟨gb, i, none⟩)) x).run P w = .ok () w' ∧ w'.heap[gb]? = some (.cells (cs.setIfInBounds i x) T (0, 0)) ∧ Mod (fun b => b = gb) w w' := by
  have hcell : w.cell? ⟨gb, i, .none⟩ = some cs[i] := by rw [cell_of_row w gb i cs T (0, 0) hh, Array.getElem?_eq_getElem hi]
  have hfr : w.frozen? ⟨gb, i, .none⟩ = false := frozen_of_row w gb i cs T hh
  exact ⟨_, run_store_one (P := P) (t := t) hinf hs hx h1 hcell hfr, heap_setCell_same w gb i cs T x hh, Mod.setCell _ _ _ rfl⟩
theorem blk_sta {gb : Nat} {cur cs : Array Value} (hh : w.heap[gb]? = some (.cells cur T (0, 0))) {z : Value} (hz : zeroT P T = some z) (hcur : cur.size = szT P T) (hc : cs.size = szT P T) (h1 : ∀ u ∈ cs.toList, u.oneCell' = true) :
    ∃ w', (Instr.storeAt T (.pointer (some ⟨gb, 0, none⟩)) (.agg cs)).run P w = .ok () w' ∧ w'.heap[gb]? = some (.cells cs T (0, 0)) ∧ Mod (fun b => b = gb) w w' := by
  obtain ⟨i, hi, hiz⟩ := zeroT_info hz
  have hst := run_storeCells_from (P := P) gb T cs.toList 0 cur w hh (by simp [hc, hcur]) h1
  simp only [List.take_zero, List.nil_append, Array.toArray_toList] at hst
  refine ⟨_, ?_, setRow_heap w gb cur cs T (0, 0) hh, Mod.setRow _ _ _ rfl⟩
  unfold Instr.storeAt storeVar
  simp only [Instr.sureAddr, Sem.run_bind, Sem.run_pure, Result.andThen_ok, sizeOf, run_tyinfo, hi, Value.cells]
  rw [szT_info hi] at hc
  simp only [hc, ne_eq, not_true_eq_false, if_false]
  exact hst
theorem blk_lda {gb : Nat} {cs : Array Value} (hh : w.heap[gb]? = some (.cells cs T (0, 0))) (ht : aggT P T = true) (hu : (P.underlying T).isSome = true) (hi : (P.info? T).isSome = true) (hs : szT P T = cs.size) :
    (Instr.loadAt T (.pointer (some ⟨gb, 0, none⟩))).run P w = .ok (.agg cs) w := by
  have := ld_agg (P := P) (w := w) (a := ⟨gb, 0, none⟩) (cs := cs.toList) ht hu hi (by simpa using hs) fun j u hj => by
    have ha : (⟨gb, 0, .none⟩ : Addr).add j = ⟨gb, j, .none⟩ := by unfold Addr.add; split <;> simp_all
    rw [ha, cell_of_row w gb j cs T (0, 0) hh]
    simpa using hj
  simpa using this
theorem retqc {fn : Func} {R : Value → World → Prop} {f : Fr} {a : Nat} {ty : TypeId} {ad : Addr} (h : fn.results = #[.cell a ty]) (hf : f a = .pointer (some ad)) (hl : (Instr.loadAt ty (.pointer (some ad))).run P w = .ok v w) (hR : R v w) : RetQ P fn R .ret f w := by
  refine ⟨[v], ?_, hR⟩
  rw [h]
  refine ⟨?_, trivial⟩
  show (do loadVar ty (← asAddr (f a)) : Sem Value).run P w = .ok v w
  rw [hf]
  exact hl
theorem retqcn {fn : Func} {R : Value → World → Prop} {f : Fr} {a : Nat} {ty : TypeId} {ad : Addr} (h : fn.results = #[.cell a ty]) (hf : f a = .pointer (some ad)) (hl : (Instr.loadAt ty (.pointer (some ad))).run P w = .ok v w) (hR : R v w) : RetQ P fn R .normal f w := by
  refine ⟨[v], ?_, hR⟩
  rw [h]
  refine ⟨?_, trivial⟩
  show (do loadVar ty (← asAddr (f a)) : Sem Value).run P w = .ok v w
  rw [hf]
  exact hl
theorem OwnQ.set {xs : List Int} (ho : OwnQ h w T v xs) {k : Nat} (hk : k < xs.length) (y : Int) {inf : TypeInfo} (hinf : P.info? t = some inf) (hs : inf.size = 1) :
    ∃ w', (Instr.storeAt t (.pointer (some (sadr v k))) (.int .i64 y)).run P w = .ok () w' ∧ OwnQ h w' T v (xs.set k y) ∧ Mod (blk v) w w' := by
  rcases ho with ⟨rfl, rfl⟩ | ⟨b, off, c, cur, rfl, h1, h2, h3, h4, h5, h6⟩
  · simp at hk
  · have ha : (⟨b, off, .none⟩ : Addr).add k = ⟨b, off + k, .none⟩ := by unfold Addr.add; split <;> simp_all
    obtain ⟨w', s1, s2, s3⟩ := blk_st (P := P) (t := t) (i := off + k) (x := .int .i64 y) h2 (by omega) rfl rfl hinf hs
    refine ⟨w', by simp only [sadr, ha]; exact s1, .inr ⟨b, off, c, _, by simp, h1, s2, by simpa using h3, h4, by simpa using h5, fun j x hj => ?_⟩, s3.weaken fun b' _ hb => by subst hb; rfl⟩
    rw [Array.getElem?_setIfInBounds]
    rw [List.getElem?_set] at hj
    by_cases hkj : k = j
    · subst hkj
      rw [if_pos rfl, if_pos hk] at hj
      obtain rfl := Option.some.inj hj
      rw [if_pos rfl, if_pos (by omega)]
    · rw [if_neg hkj] at hj
      rw [if_neg (by omega)]
      exact h6 j x hj
end

/-- The solver's state: two variables of its own, the sets, who waits, the queue. -/
structure ST (w0 w : World) (rb gb : Nat) (ui uw vt : Value) (us : List Raw) (ins : List (List W)) (waits : List Bool) (todo : List Int) (T : Int) : Prop where
  rows : Rows (hpOf w0) w 79 80 ui us ins
  wts : Own (hpOf w0) w 4 uw waits
  q : OwnQ (hpOf w0) w 3 vt todo
  cg : w.heap[gb]? = some (.cells #[.slice none 0 0, .int .i64 T] 27 (0, 0))
  cr : w.heap[rb]? = some (.cells #[.slice none 0 0, .int .i64 0] 27 (0, 0))
  d1 : ∀ b, rblk ui us b → ¬ blk vt b ∧ ¬ blk uw b ∧ b ≠ gb ∧ b ≠ rb
  d2 : ∀ b, blk vt b → ¬ blk uw b ∧ b ≠ gb ∧ b ≠ rb
  d3 : ∀ b, blk uw b → b ≠ gb ∧ b ≠ rb
  d4 : gb ≠ rb
  ext : Ext w0 w
  fg : w0.heap.size ≤ gb
  frb : w0.heap.size ≤ rb
section
variable {w0 w : World} {rb gb : Nat} {ui uw vt : Value} {us : List Raw} {ins : List (List W)} {waits : List Bool} {todo : List Int} {T : Int}
theorem ST.lg (s : ST w0 w rb gb ui uw vt us ins waits todo T) : gb < w.heap.size := (Array.getElem?_eq_some_iff.1 s.cg).1
theorem ST.lr (s : ST w0 w rb gb ui uw vt us ins waits todo T) : rb < w.heap.size := (Array.getElem?_eq_some_iff.1 s.cr).1
theorem ST.ge (s : ST w0 w rb gb ui uw vt us ins waits todo T) {b : Nat} (hb : hpOf w0 b = none) : w0.heap.size ≤ b :=
  Nat.le_of_not_lt fun hlt => by simp [hpOf, hlt] at hb
theorem ST.more (s : ST w0 w rb gb ui uw vt us ins waits todo T) {w' : World} (hx : Ext w w') : ST w0 w' rb gb ui uw vt us ins waits todo T :=
  ⟨s.rows.ext hx, s.wts.ext hx, s.q.ext hx, (hx.block gb s.lg id).trans s.cg, (hx.block rb s.lr id).trans s.cr, s.d1, s.d2, s.d3, s.d4, s.ext.trans hx, s.fg, s.frb⟩
theorem ST.wait {P : Program} {t : TypeId} (s : ST w0 w rb gb ui uw vt us ins waits todo T) {k : Nat} (hk : k < waits.length) (y : Bool) {inf : TypeInfo} (hinf : P.info? t = some inf) (hs : inf.size = 1) :
    ∃ w', (Instr.storeAt t (.pointer (some (sadr uw k))) (.bool y)).run P w = .ok () w' ∧ ST w0 w' rb gb ui uw vt us ins (waits.set k y) todo T := by
  obtain ⟨w', s1, s2, s3, s4⟩ := own_store (P := P) (t := t) s.wts rfl hk (x := .bool y) (y := y) rfl rfl hinf hs
  refine ⟨w', s1, s.rows.mod s3 fun b hb => (s.d1 b hb).2.1, s2, s.q.mod s3 fun b hb => (s.d2 b hb).1, (s3.block gb s.lg fun h => (s.d3 gb h).1 rfl).trans s.cg, (s3.block rb s.lr fun h => (s.d3 rb h).2 rfl).trans s.cr, s.d1, s.d2, s.d3, s.d4, Mod.ext_of s.ext s3 fun b hb => s.ge (s.wts.free hb), s.fg, s.frb⟩
theorem ST.wait2 {P : Program} {t : TypeId} (s : ST w0 w rb gb ui uw vt us ins waits todo T) {k : Nat} (hk : k < waits.length) (y : Bool) {inf : TypeInfo} (hinf : P.info? t = some inf) (hs : inf.size = 1) :
    ∃ w', (Instr.storeAt t (.pointer (some (sadr uw k))) (.bool y)).run P w = .ok () w' ∧ ST w0 w' rb gb ui uw vt us ins (waits.set k y) todo T ∧ Mod (blk uw) w w' := by
  obtain ⟨w', s1, s2, s3, s4⟩ := own_store (P := P) (t := t) s.wts rfl hk (x := .bool y) (y := y) rfl rfl hinf hs
  refine ⟨w', s1, ⟨s.rows.mod s3 fun b hb => (s.d1 b hb).2.1, s2, s.q.mod s3 fun b hb => (s.d2 b hb).1, (s3.block gb s.lg fun h => (s.d3 gb h).1 rfl).trans s.cg, (s3.block rb s.lr fun h => (s.d3 rb h).2 rfl).trans s.cr, s.d1, s.d2, s.d3, s.d4, Mod.ext_of s.ext s3 fun b hb => s.ge (s.wts.free hb), s.fg, s.frb⟩, s3⟩
theorem ST.times {P : Program} {t : TypeId} (s : ST w0 w rb gb ui uw vt us ins waits todo T) (T' : Int) {inf : TypeInfo} (hinf : P.info? t = some inf) (hs : inf.size = 1) :
    ∃ w', (Instr.storeAt t (.pointer (some ⟨gb, 1, none⟩)) (.int .i64 T')).run P w = .ok () w' ∧ ST w0 w' rb gb ui uw vt us ins waits todo T' := by
  obtain ⟨w', s1, s2, s3⟩ := blk_st (P := P) (t := t) (i := 1) (x := .int .i64 T') s.cg (by simp) rfl rfl hinf hs
  refine ⟨w', s1, s.rows.mod s3 fun b hb => (s.d1 b hb).2.2.1, s.wts.mod s3 fun b hb => (s.d3 b hb).1, s.q.mod s3 fun b hb => (s.d2 b hb).2.1, s2, (s3.block rb s.lr fun h => s.d4 h.symm).trans s.cr, s.d1, s.d2, s.d3, s.d4, Mod.ext_of s.ext s3 fun b hb => by subst hb; exact s.fg, s.fg, s.frb⟩
theorem ST.tail {x : Int} {rest : List Int} (s : ST w0 w rb gb ui uw vt us ins waits (x :: rest) T) : ST w0 w rb gb ui uw (reS vt 1 (rest.length + 1) 1) us ins waits rest T := by
  obtain ⟨h1, h2⟩ := s.q.tail
  exact ⟨s.rows, s.wts, h1, s.cg, s.cr, fun b hb => ⟨fun h => (s.d1 b hb).1 ((h2 b).1 h), (s.d1 b hb).2⟩, fun b hb => s.d2 b ((h2 b).1 hb), s.d3, s.d4, s.ext, s.fg, s.frb⟩
theorem ST.push {P : Program} {t e : TypeId} {by_ : Nat} (hsl : sliceOk P t 3 1 by_ = true) (s : ST w0 w rb gb ui uw vt us ins waits todo T) (y : Int) (hl : todo.length + 1 ≤ 1000000000000) (hb : (todo.length + 1) * by_ ≤ 140737488355328) :
    (Instr.buildSlice t 1 #[(0, .int .i64 y)]).run P w = .ok (.slice (some ⟨w.heap.size, 0, none⟩) 1 1) (w.alloc (.cells #[.int .i64 y] 3)) ∧
    ∃ v' w', (Builtin.append_ #[t, t] e #[vt, .slice (some ⟨w.heap.size, 0, none⟩) 1 1]).run P (w.alloc (.cells #[.int .i64 y] 3)) = .ok v' w' ∧ ST w0 w' rb gb ui uw v' us ins waits (todo ++ [y]) T := by
  obtain ⟨h1, v', w', h2, h3, h4, h5⟩ := s.q.push (e := e) hsl y hl hb (hle_ext s.ext)
  refine ⟨h1, v', w', h2, s.rows.mod h4 fun b hb => (s.d1 b hb).1, s.wts.mod h4 fun b hb hb2 => (s.d2 b hb2).1 hb, h3, (h4.block gb s.lg fun h => (s.d2 gb h).2.1 rfl).trans s.cg, (h4.block rb s.lr fun h => (s.d2 rb h).2.2 rfl).trans s.cr, fun b hb => ⟨fun h => ?_, (s.d1 b hb).2⟩, fun b hb => ?_, s.d3, s.d4, Mod.ext_of s.ext h4 fun b hb => s.ge (s.q.free hb), s.fg, s.frb⟩
  · rcases h5 b h with h | h
    · exact (s.d1 b hb).1 h
    · have := s.rows.lt hb; omega
  · rcases h5 b hb with h | h
    · exact s.d2 b h
    · exact ⟨fun hh => by have := s.wts.lt hh; omega, by have := s.lg; omega, by have := s.lr; omega⟩
theorem ST.push2 {P : Program} {t e : TypeId} {by_ : Nat} (hsl : sliceOk P t 3 1 by_ = true) (s : ST w0 w rb gb ui uw vt us ins waits todo T) (y : Int) (hl : todo.length + 1 ≤ 1000000000000) (hb : (todo.length + 1) * by_ ≤ 140737488355328) :
    (Instr.buildSlice t 1 #[(0, .int .i64 y)]).run P w = .ok (.slice (some ⟨w.heap.size, 0, none⟩) 1 1) (w.alloc (.cells #[.int .i64 y] 3)) ∧
    ∃ v' w', (Builtin.append_ #[t, t] e #[vt, .slice (some ⟨w.heap.size, 0, none⟩) 1 1]).run P (w.alloc (.cells #[.int .i64 y] 3)) = .ok v' w' ∧ ST w0 w' rb gb ui uw v' us ins waits (todo ++ [y]) T ∧ Mod (blk vt) w w' ∧ movedTo w vt v' := by
  obtain ⟨h1, v', w', h2, h3, h4, h5⟩ := s.q.push (e := e) hsl y hl hb (hle_ext s.ext)
  refine ⟨h1, v', w', h2, ⟨s.rows.mod h4 fun b hb => (s.d1 b hb).1, s.wts.mod h4 fun b hb hb2 => (s.d2 b hb2).1 hb, h3, (h4.block gb s.lg fun h => (s.d2 gb h).2.1 rfl).trans s.cg, (h4.block rb s.lr fun h => (s.d2 rb h).2.2 rfl).trans s.cr, fun b hb => ⟨fun h => ?_, (s.d1 b hb).2⟩, fun b hb => ?_, s.d3, s.d4, Mod.ext_of s.ext h4 fun b hb => s.ge (s.q.free hb), s.fg, s.frb⟩, h4, h5⟩
  · rcases h5 b h with h | h
    · exact (s.d1 b hb).1 h
    · have := s.rows.lt hb; omega
  · rcases h5 b hb with h | h
    · exact s.d2 b h
    · exact ⟨fun hh => by have := s.wts.lt hh; omega, by have := s.lg; omega, by have := s.lr; omega⟩
theorem ST.row (s : ST w0 w rb gb ui uw vt us ins waits todo T) {w' : World} {i : Nat} {u : Raw} (hi : us[i]? = some u) {r : List W} (hm : Mod (blk u.v) w w') (ho : Own (hpOf w0) w' 80 u.v r) : ST w0 w' rb gb ui uw vt us (ins.set i r) waits todo T := by
  have hu : ∀ b, blk u.v b → rblk ui us b := fun b hb => .inr ⟨u, List.mem_of_getElem? hi, hb⟩
  exact ⟨s.rows.write hi hm ho, s.wts.mod hm fun b hb hb2 => (s.d1 b (hu b hb2)).2.1 hb, s.q.mod hm fun b hb hb2 => (s.d1 b (hu b hb2)).1 hb, (hm.block gb s.lg fun h => (s.d1 gb (hu gb h)).2.2.1 rfl).trans s.cg, (hm.block rb s.lr fun h => (s.d1 rb (hu rb h)).2.2.2 rfl).trans s.cr, s.d1, s.d2, s.d3, s.d4, Mod.ext_of s.ext hm fun b hb => s.ge (s.rows.free (hu b hb)), s.fg, s.frb⟩
theorem ST.put {P : Program} {t : TypeId} (s : ST w0 w rb gb ui uw vt us ins waits todo T) {w1 : World} (hx : Ext w w1) {i : Nat} {u : Raw} (hi : us[i]? = some u) {u' : Value} {r : List W} (ho : Own (hpOf w0) w1 80 u' r) (hf : ∀ b, blk u' b → w.heap.size ≤ b) {inf : TypeInfo} (hinf : P.info? t = some inf) (hs : inf.size = 1) :
    ∃ w2, (Instr.storeAt t (.pointer (some (sadr ui i))) u').run P w1 = .ok () w2 ∧ ST w0 w2 rb gb ui uw vt (us.set i ⟨u'⟩) (ins.set i r) waits todo T := by
  obtain ⟨w2, s1, s2, s3, s4⟩ := s.rows.put (P := P) (t := t) hi (hx.weaken fun _ _ h => h.elim) ho (fun b hb => .inr (hf b hb)) hinf hs
  have hv : ∀ b, blk ui b → rblk ui us b := fun b hb => .inl hb
  have s' := s.more hx
  refine ⟨w2, s1, s2, s'.wts.mod s3 fun b hb hb2 => (s.d1 b (hv b hb2)).2.1 hb, s'.q.mod s3 fun b hb hb2 => (s.d1 b (hv b hb2)).1 hb, (s3.block gb s'.lg fun h => (s.d1 gb (hv gb h)).2.2.1 rfl).trans s'.cg, (s3.block rb s'.lr fun h => (s.d1 rb (hv rb h)).2.2.2 rfl).trans s'.cr, fun b hb => ?_, s.d2, s.d3, s.d4, Mod.ext_of s'.ext s3 fun b hb => s.ge (s.rows.free (hv b hb)), s.fg, s.frb⟩
  rcases hb with hb | ⟨x, hx', hb⟩
  · exact s.d1 b (.inl hb)
  · rcases List.mem_or_eq_of_mem_set hx' with h | h
    · exact s.d1 b (.inr ⟨x, h, hb⟩)
    · subst h
      have h9 := hf b hb
      exact ⟨fun hh => by have := s.q.lt hh; omega, fun hh => by have := s.wts.lt hh; omega, by have := s.lg; omega, by have := s.lr; omega⟩
theorem ST.qset {P : Program} {t : TypeId} (s : ST w0 w rb gb ui uw vt us ins waits todo T) {k : Nat} (hk : k < todo.length) (y : Int) {inf : TypeInfo} (hinf : P.info? t = some inf) (hs : inf.size = 1) :
    ∃ w', (Instr.storeAt t (.pointer (some (sadr vt k))) (.int .i64 y)).run P w = .ok () w' ∧ ST w0 w' rb gb ui uw vt us ins waits (todo.set k y) T := by
  obtain ⟨w', h1, h3, h4⟩ := s.q.set (P := P) (t := t) hk y hinf hs
  exact ⟨w', h1, s.rows.mod h4 fun b hb => (s.d1 b hb).1, s.wts.mod h4 fun b hb hb2 => (s.d2 b hb2).1 hb, h3, (h4.block gb s.lg fun h => (s.d2 gb h).2.1 rfl).trans s.cg, (h4.block rb s.lr fun h => (s.d2 rb h).2.2 rfl).trans s.cr, s.d1, s.d2, s.d3, s.d4, Mod.ext_of s.ext h4 fun b hb => s.ge (s.q.free hb), s.fg, s.frb⟩
end
end Go.Proofs.Ytldmnnloakpjlaa
