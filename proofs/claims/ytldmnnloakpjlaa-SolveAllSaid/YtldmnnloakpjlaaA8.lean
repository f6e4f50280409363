/- More words on memory: numbers that fit, made slices, literals, pointers, rows of rows. -/
import Derived.Test.YtldmnnloakpjlaaA7
import Derived.IntWalk
namespace Go.Proofs.Ytldmnnloakpjlaa
open Go

theorem i64w (n : Int) (h : -9223372036854775808 ≤ n ∧ n ≤ 9223372036854775807) : IntKind.i64.wrap n = n := IntWalk.i64_in n h
theorem i64s (k : Nat) (h : k < 4000000000000000000) : IntKind.i64.wrap ((k : Int) + 1) = ((k + 1 : Nat) : Int) := by
  rw [i64w _ (by omega)]; rfl
theorem i64n (k : Nat) (h : k < 4000000000000000000) : IntKind.i64.wrap (k : Int) = (k : Int) := i64w _ (by omega)
theorem le0n (k : Nat) : decide ((0 : Int) ≤ (k : Int)) = true := by simp

/-- Slices of type t have elements of type T, of sz cells and by bytes. -/
def sliceOk (P : Program) (t T sz by_ : Nat) : Bool :=
  (elemT P t == some T) && (match zeroT P T with | some z => z.cells.size == sz | none => false) && (szT P T == sz) && (bytT P T == by_) && decide (0 < sz) && decide (sz ≤ 1000000)
theorem sliceOk_spec {P : Program} {t T sz by_ : Nat} (h : sliceOk P t T sz by_ = true) :
    elemT P t = some T ∧ (∃ z, zeroT P T = some z ∧ z.cells.size = sz) ∧ szT P T = sz ∧ bytT P T = by_ ∧ 0 < sz ∧ sz ≤ 1000000 := by
  simp only [sliceOk, Bool.and_eq_true, beq_iff_eq, decide_eq_true_eq] at h
  obtain ⟨⟨⟨⟨⟨h1, h2⟩, h3⟩, h4⟩, h5⟩, h6⟩ := h
  refine ⟨h1, ?_, h3, h4, h5, h6⟩
  cases hz : zeroT P T with
  | none => simp [hz] at h2
  | some z => exact ⟨z, rfl, by simpa [hz] using h2⟩

section
variable {P : Program} {w : World} {h : Hp} {t T sz by_ : Nat} {v : Value}
/-- l = append(l, x) on an owned list. -/
theorem push {α : Type} [Rep α] {e : TypeId} (hs : sliceOk P t T sz by_ = true) (hsz : Rep.sz α = sz) {xs : List α} (ho : Own h w T v xs) {x : Value} {y : α} (hy : Rep.enc h x.cells.toList y)
    (hl : xs.length + 1 ≤ 1000000000000) (hb : (xs.length + 1) * by_ ≤ 140737488355328) (hw : hle h (hpOf w)) :
    (Instr.buildSlice t 1 #[(0, x)]).run P w = .ok (.slice (some ⟨w.heap.size, 0, none⟩) 1 1) (w.alloc (.cells x.cells T)) ∧
    ∃ v' w', (Builtin.append_ #[t, t] e #[v, .slice (some ⟨w.heap.size, 0, none⟩) 1 1]).run P (w.alloc (.cells x.cells T)) = .ok v' w' ∧ Own h w' T v' (xs ++ [y]) ∧ Mod (blk v) w w' ∧ movedTo w v v' := by
  obtain ⟨h1, ⟨z, hz, hzs⟩, h3, h4, h5, h6⟩ := sliceOk_spec hs
  have hx : x.cells.size = sz := by have := Rep.len hy; simpa [hsz] using this
  exact ⟨run_buildSlice1 h1 hz (by omega) (by omega) (by rw [hx, h3]), own_push h1 hz (by rw [h3, hsz]) (by rw [hzs, hsz]) ho hy hl (by rw [h4]; exact hb) hw⟩

/-- A slice literal. -/
theorem lit {α : Type} [Rep α] (hs : sliceOk P t T sz by_ = true) {xs : List Value} {ys : List α} {parts : Array (Nat × Value)} {n : Nat} (hp : parts.toList = (xs.zipIdx 0).map fun p => (p.2, p.1))
    (he : encs h (xs.flatMap (·.cells.toList)) ys) (hx : ∀ x ∈ xs, x.cells.size = sz) (hn : n = xs.length) (hyl : ys.length = xs.length) (hne : xs ≠ []) (hlt : xs.length ≤ 16) (hw : hle h (hpOf w)) :
    ∃ v w', (Instr.buildSlice t n parts).run P w = .ok v w' ∧ Own h w' T v ys ∧ Ext w w' ∧ (∀ b, blk v b → w.heap.size ≤ b) := by
  obtain ⟨h1, ⟨z, hz, hzs⟩, h3, h4, h5, h6⟩ := sliceOk_spec hs
  obtain ⟨i, hi, hiz⟩ := zeroT_info hz
  have hr := run_buildSlice (w := w) h1 (by rw [hi]; rfl) hz xs (by rw [h3]; exact hx) hne (by omega) (Nat.le_trans (Nat.mul_le_mul hlt (show szT P T ≤ 1000000 by omega)) (by omega)) hp hn
  refine ⟨_, _, hr, .inr ⟨w.heap.size, n, _, by rw [hn, hyl], hle_lt hw (Nat.le_refl _), heap_alloc_new w _, by omega, by rw [hn]; simp only [maxLen]; omega, ?_, ?_⟩, Ext.alloc _ _, fun b hb => by simp [blk, Value.ownBlock] at hb; omega⟩
  · have := encs_len he
    simp only [List.size_toArray, this, hyl, hn]
  · rw [← encs_len he]
    simp only [List.take_length]
    exact he

theorem enc_rep {α : Type} [Rep α] {c : List Value} {y : α} (he : Rep.enc h c y) : ∀ n : Nat, encs h (List.replicate n c).flatten (List.replicate n y)
  | 0 => rfl
  | n + 1 => ⟨c, (List.replicate n c).flatten, by simp [List.replicate_succ], he, enc_rep he n⟩

theorem flat_rep (z : Array Value) (hz : 0 < z.size) : ∀ n : Nat, ((Array.range (n * z.size)).map fun i => z[i % z.size]!).toList = (List.replicate n z.toList).flatten
  | 0 => by simp
  | n + 1 => by
    have ih := flat_rep z hz n
    simp only [Array.toList_map, Array.toList_range] at ih ⊢
    rw [Nat.add_mul, Nat.one_mul, List.range_add, List.map_append, ih, List.replicate_succ', List.flatten_append]
    congr 1
    simp only [List.map_map, List.flatten_cons, List.flatten_nil, List.append_nil]
    apply List.ext_getElem
    · simp
    · intro i h1 h2
      simp only [List.length_map, List.length_range] at h1
      have : (n * z.size + i) % z.size = i := by rw [Nat.add_comm, Nat.add_mul_mod_self_right]; exact Nat.mod_eq_of_lt h1
      simp [this, h1]

/-- make([]T, n) -/
theorem mk {α : Type} [Rep α] (hs : sliceOk P t T sz by_ = true) {z : Value} (hz : zeroT P T = some z) {y : α} (he : Rep.enc h z.cells.toList y) {n : Nat} (hb : by_ * n ≤ 281474976710656) (hn : n ≤ 1000000000000) (hw : hle h (hpOf w)) :
    ∃ v w', (Instr.makeSlice t (.int .i64 n) (.int .i64 n)).run P w = .ok v w' ∧ Own h w' T v (List.replicate n y) ∧ Ext w w' ∧ (∀ b, blk v b → w.heap.size ≤ b) ∧ w'.heap.size = w.heap.size + 1 := by
  obtain ⟨h1, ⟨z', hz', hzs⟩, h3, h4, h5, h6⟩ := sliceOk_spec hs
  obtain rfl : z = z' := Option.some.inj (hz.symm.trans hz')
  obtain ⟨i, hi, hiz⟩ := zeroT_info hz
  have hby : i.bytes = by_ := by rw [← h4, bytT_info hi]
  have hsi : i.size = sz := by rw [← h3, szT_info hi]
  have hl := Rep.len he
  have hszα : Rep.sz α = sz := by rw [← hl]; simpa using hzs
  have hnw : IntKind.i64.wrap (n : Int) = n := i64n n (by omega)
  have hnb : ¬ ((by_ : Int) * (n : Int) > 281474976710656) := by
    have := Int.ofNat_le.2 hb
    rw [Int.natCast_mul] at this
    omega
  have hpow : (2 : Int) ^ 48 = 281474976710656 := by decide +kernel
  have hroom : ∀ b w, (askRoom b).run P w = .ok () w := by
    intro b w
    unfold askRoom
    split
    · rfl
    · rfl
  refine ⟨.slice (some ⟨w.heap.size, 0, none⟩) n n, w.alloc (.cells ((Array.range (n * sz)).map fun i => z.cells[i % z.cells.size]!) T), ?_, ?_, Ext.alloc _ _, fun b hb' => by simp [blk, Value.ownBlock] at hb'; omega, by simp⟩
  · unfold Instr.makeSlice
    simp only [Sem.run_bind, run_under, elemT_spec h1, Result.andThen_ok, asInt, asIntOf, Sem.run_pure, run_tyinfo, hi, hby, hnw, hpow]
    have hc : ((decide ((n : Int) < 0) || decide ((by_ : Int) * (n : Int) > 281474976710656)) || decide ((n : Int) < 0) || decide ((n : Int) > (n : Int))) = false := by
      rw [decide_eq_false (show ¬ ((n : Int) < 0) by omega), decide_eq_false hnb, decide_eq_false (show ¬ ((n : Int) > (n : Int)) by omega)]
      rfl
    simp only [hc, Bool.false_eq_true, if_false, Sem.run_bind, hroom, Result.andThen_ok, Int.toNat_natCast, run_szOf (show (P.info? T).isSome = true by rw [hi]; rfl), h3]
    by_cases h0 : n * sz = 0
    · have e0 : ∀ (g : Nat → Value), (Array.range 0).map g = #[] := fun g => by simp
      simp only [h0, if_true, e0]
      simp only [Sem.run_bind, Sem.run_pure, Result.andThen_ok]
      rfl
    · simp only [h0, if_false, Sem.run_bind, zeroValue, run_tyinfo, hi, Result.andThen_ok, hiz, Sem.run_pure]
      rfl
  · right
    refine ⟨w.heap.size, n, _, by simp, hle_lt hw (Nat.le_refl _), heap_alloc_new w _, by simp, by simp only [maxLen]; omega, by simp [hszα], ?_⟩
    have := flat_rep z.cells (by omega) n
    rw [hzs] at this ⊢
    rw [this, List.length_replicate, hszα]
    have hlen : (List.replicate n z.cells.toList).flatten.length = n * sz := by simp [hzs]
    rw [← hlen, List.take_length]
    exact enc_rep he n
end

/-! ### A pointer to data -/
structure Ptr (α : Type) where
  to : α
instance {α : Type} [Rep α] : Rep (Ptr α) where
  sz := 1
  pos := by omega
  enc h cs x := ∃ a es, cs = [.pointer (some a)] ∧ Rep.enc h es x.to ∧ ∀ j v, es[j]? = some v → cellAt h (a.add j) = some v
  len := by rintro h cs x ⟨a, es, rfl, _⟩; rfl
  mono := by
    rintro h k cs x hk ⟨a, es, e, h1, h2⟩
    exact ⟨a, es, e, Rep.mono hk h1, fun j v hv => cellAt_mono hk (h2 j v hv)⟩
  one := by
    rintro h cs x ⟨a, es, rfl, _⟩ v hv
    simp at hv
    subst hv
    rfl

/-! ### Values as they lie -/
structure Raw where
  v : Value
instance : Rep Raw where
  sz := 1
  pos := by omega
  enc _ cs x := cs = [x.v] ∧ x.v.oneCell' = true
  len h := by simp [h.1]
  mono _ h := h
  one h := by
    intro v hv
    rw [h.1] at hv
    simp at hv
    subst hv
    exact h.2

/-- Rows, each in a block of its own, under an owned list of slices. -/
structure Rows {α : Type} [Rep α] (h : Hp) (w : World) (T T' : TypeId) (v : Value) (us : List Raw) (xss : List (List α)) : Prop where
  outer : Own h w T v us
  len : us.length = xss.length
  row : ∀ (i : Nat) (u : Raw) (xs : List α), us[i]? = some u → xss[i]? = some xs → Own h w T' u.v xs
  apart : ∀ (i j : Nat) (u u' : Raw), i ≠ j → us[i]? = some u → us[j]? = some u' → ∀ b, blk u.v b → ¬ blk u'.v b
  off : ∀ (i : Nat) (u : Raw), us[i]? = some u → ∀ b, blk u.v b → ¬ blk v b
/-- The blocks of rows. -/
def rblk (v : Value) (us : List Raw) (b : Nat) : Prop := blk v b ∨ ∃ u ∈ us, blk u.v b

section
variable {α : Type} [Rep α] {h : Hp} {w : World} {T T' : TypeId} {v : Value} {us : List Raw} {xss : List (List α)}
theorem Rows.free (hr : Rows h w T T' v us xss) {b : Nat} (hb : rblk v us b) : h b = none := by
  rcases hb with hb | ⟨u, hu, hb⟩
  · exact hr.outer.free hb
  · obtain ⟨i, hi⟩ := List.mem_iff_getElem?.1 hu
    have hlt : i < xss.length := by rw [← hr.len]; exact (List.getElem?_eq_some_iff.1 hi).1
    exact (hr.row i u _ hi (List.getElem?_eq_getElem hlt)).free hb
theorem Rows.lt (hr : Rows h w T T' v us xss) {b : Nat} (hb : rblk v us b) : b < w.heap.size := by
  rcases hb with hb | ⟨u, hu, hb⟩
  · exact hr.outer.lt hb
  · obtain ⟨i, hi⟩ := List.mem_iff_getElem?.1 hu
    have hlt : i < xss.length := by rw [← hr.len]; exact (List.getElem?_eq_some_iff.1 hi).1
    exact (hr.row i u _ hi (List.getElem?_eq_getElem hlt)).lt hb
theorem Rows.mod {M : Nat → Prop} {w' : World} (hr : Rows h w T T' v us xss) (hm : Mod M w w') (hM : ∀ b, rblk v us b → ¬ M b) : Rows h w' T T' v us xss :=
  ⟨hr.outer.mod hm fun b hb => hM b (.inl hb), hr.len, fun i u xs hi hx => (hr.row i u xs hi hx).mod hm fun b hb => hM b (.inr ⟨u, List.mem_of_getElem? hi, hb⟩), hr.apart, hr.off⟩
theorem Rows.ext {w' : World} (hr : Rows h w T T' v us xss) (hm : Ext w w') : Rows h w' T T' v us xss := hr.mod hm fun _ _ => id
/-- One row is another one now, in its own block or a new one. -/
theorem Rows.set {w' w'' : World} (hr : Rows h w T T' v us xss) {i : Nat} {u : Raw} (hi : us[i]? = some u) {u' : Value} {xs : List α}
    (hm : Mod (blk u.v) w w') (ho : Own h w' T' u' xs) (hv : movedTo w u.v u')
    (hm2 : Mod (blk v) w' w'') (ho2 : Own h w'' T v (us.set i ⟨u'⟩)) : Rows h w'' T T' v (us.set i ⟨u'⟩) (xss.set i xs) := by
  have hil : i < us.length := (List.getElem?_eq_some_iff.1 hi).1
  have hnew : ∀ b, blk u' b → ¬ blk v b := fun b hb hb2 => by
    rcases hv b hb with hb3 | hb3
    · exact hr.off i u hi b hb3 hb2
    · have := hr.outer.lt hb2; omega
  have hget : ∀ (j : Nat) (x : Raw), (us.set i ⟨u'⟩)[j]? = some x → (j = i ∧ x = ⟨u'⟩) ∨ (j ≠ i ∧ us[j]? = some x) := by
    intro j x hj
    rw [List.getElem?_set] at hj
    by_cases hji : i = j
    · subst hji
      simp only [if_true, if_pos hil] at hj
      exact .inl ⟨rfl, (Option.some.inj hj).symm⟩
    · rw [if_neg hji] at hj
      exact .inr ⟨fun e => hji e.symm, hj⟩
  have hother : ∀ (j : Nat) (x : Raw), j ≠ i → us[j]? = some x → ∀ b, blk x.v b → ¬ blk u' b := by
    intro j x hji hj b hb hb2
    rcases hv b hb2 with hb3 | hb3
    · exact hr.apart j i x u hji hj hi b hb hb3
    · have hlt : j < xss.length := by rw [← hr.len]; exact (List.getElem?_eq_some_iff.1 hj).1
      have := (hr.row j x _ hj (List.getElem?_eq_getElem hlt)).lt hb
      omega
  refine ⟨ho2, by simp [hr.len], ?_, ?_, ?_⟩
  · intro j x ys hj hy
    rcases hget j x hj with ⟨rfl, rfl⟩ | ⟨hji, hj'⟩
    · rw [List.getElem?_set, if_pos rfl, if_pos (by rw [← hr.len]; exact hil)] at hy
      obtain rfl := Option.some.inj hy
      exact ho.mod hm2 hnew
    · rw [List.getElem?_set, if_neg (fun e => hji e.symm)] at hy
      refine ((hr.row j x ys hj' hy).mod hm fun b hb hb2 => hr.apart j i x u hji hj' hi b hb hb2).mod hm2 fun b hb => hr.off j x hj' b hb
  · intro j k x y hjk hj hk b hb hb2
    rcases hget j x hj with ⟨rfl, rfl⟩ | ⟨hji, hj'⟩ <;> rcases hget k y hk with ⟨rfl, rfl⟩ | ⟨hki, hk'⟩
    · exact hjk rfl
    · exact hother k y hki hk' b hb2 hb
    · exact hother j x hji hj' b hb hb2
    · exact hr.apart j k x y hjk hj' hk' b hb hb2
  · intro j x hj b hb
    rcases hget j x hj with ⟨rfl, rfl⟩ | ⟨hji, hj'⟩
    · exact hnew b hb
    · exact hr.off j x hj' b hb
/-- Rows are read. -/
theorem Rows.ro (hr : Rows h w T T' v us xss) (hw : hle h (hpOf w)) : R (hpOf w) v xss := by
  have ho := hr.outer.rw_ hw
  obtain ⟨a, n, c, e, h1, h2, es, h3, h4⟩ := ho
  refine ⟨a, n, c, e, by rw [h1, hr.len], h2, es, ?_, h4⟩
  have key : ∀ (us : List Raw) (xss : List (List α)) (es : List Value), us.length = xss.length → encs (hpOf w) es us →
      (∀ (i : Nat) (u : Raw) (xs : List α), us[i]? = some u → xss[i]? = some xs → R (hpOf w) u.v xs) → encs (hpOf w) es xss := by
    intro us
    induction us with
    | nil =>
      intro xss es hl he _
      have : xss = [] := List.eq_nil_of_length_eq_zero hl.symm
      subst this
      exact he
    | cons u us ih =>
      intro xss es hl he hx
      cases xss with
      | nil => simp at hl
      | cons xs xss =>
        obtain ⟨c1, c2, rfl, ⟨hc1, _⟩, hc2⟩ := he
        subst hc1
        exact ⟨[u.v], c2, rfl, hx 0 u xs rfl rfl, ih xss c2 (by simpa using hl) hc2 fun i u' xs' h5 h6 => hx (i + 1) u' xs' (by simpa using h5) (by simpa using h6)⟩
  exact key us xss es hr.len h3 fun i u xs hi hx => (hr.row i u xs hi hx).rw_ hw
end
end Go.Proofs.Ytldmnnloakpjlaa
