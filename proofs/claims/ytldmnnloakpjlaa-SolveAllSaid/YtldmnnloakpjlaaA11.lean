/- Words of 64 bits; sets of facts as words. -/
import Derived.Test.YtldmnnloakpjlaaA9
set_option linter.unusedVariables false
set_option linter.unusedSimpArgs false
namespace Go.Proofs.Ytldmnnloakpjlaa
open Go

abbrev W := BitVec 64
instance : Flat W := ⟨fun x => .int .u64 (x.toNat : Nat), fun _ => rfl⟩

section
variable {P : Program} {t : TypeId}
theorem u64_wrap (n : Nat) (h : n < 18446744073709551616) : IntKind.u64.wrap (n : Int) = (n : Int) := by
  have : IntKind.u64.wrap (n : Int) = IntKind.u64.wrap (n : Int) := rfl
  unfold IntKind.wrap
  simp [IntKind.bits, IntKind.signed]
  omega
theorem ofInt_w (x : W) : BitVec.ofInt IntKind.u64.bits ((x.toNat : Nat) : Int) = x := by
  show BitVec.ofInt 64 ((x.toNat : Nat) : Int) = x
  rw [BitVec.ofInt_natCast, BitVec.ofNat_toNat]
  simp
theorem bv_quo (f : Nat) (hf : f < 1000000000000) : binV P .quo t (.int .i64 f) (.int .i64 64) = some (.int .i64 ((f / 64 : Nat) : Int)) := by
  have h1 : (f : Int).tdiv 64 = ((f / 64 : Nat) : Int) := by rfl
  simp only [binV, binI, if_true, h1]
  rw [if_neg (by decide), IntWalk.i64_in _ (by omega)]
theorem bv_rem (f : Nat) : binV P .rem t (.int .i64 f) (.int .i64 64) = some (.int .i64 ((f % 64 : Nat) : Int)) := by
  have h1 : (f : Int).tmod 64 = ((f % 64 : Nat) : Int) := by rfl
  simp only [binV, binI, if_true, h1]
  rw [if_neg (by decide)]
theorem bv_shr (x : W) (k : Nat) (hk : k < 64) : binV P .shr t (.int .u64 ((x.toNat : Nat) : Int)) (.int .i64 k) = some (.int .u64 (((x >>> k).toNat : Nat) : Int)) := by
  simp only [binV]
  rw [if_neg (by omega)]
  have h1 : min ((k : Int).toNat) IntKind.u64.bits = k := by
    show min ((k : Int).toNat) 64 = k
    omega
  rw [h1, BitVec.toNat_ushiftRight, Nat.shiftRight_eq_div_pow]
  have h2 : ((x.toNat : Nat) : Int).fdiv (2 ^ k) = ((x.toNat / 2 ^ k : Nat) : Int) := by
    rw [Int.fdiv_eq_ediv_of_nonneg _ (by exact Int.le_of_lt (Int.pow_pos (by decide)))]
    simp
  rw [h2]
theorem bv_one (x : W) (k : Nat) : binV P .and t (.int .u64 (((x >>> k).toNat : Nat) : Int)) (.int .u64 1) = some (.int .u64 (if x.getLsbD k then 1 else 0)) := by
  have h1 : BitVec.ofInt IntKind.u64.bits 1 = (1#64 : W) := rfl
  simp only [binV, binI, if_true, ofInt_w, h1]
  have h2 : ((x >>> k) &&& 1#64 : W) = if x.getLsbD k then 1#64 else 0#64 := by
    apply BitVec.eq_of_getLsbD_eq
    intro i hi
    rw [BitVec.getLsbD_and, BitVec.getLsbD_ushiftRight]
    by_cases h0 : i = 0
    · subst h0
      cases hx : x.getLsbD k <;> simp [hx]
    · have : (1#64 : W).getLsbD i = false := by
        rw [BitVec.getLsbD_one]; simp [h0]
      rw [this, Bool.and_false]
      split
      · exact this.symm
      · simp
  show some (Value.int .u64 (IntKind.u64.wrap ((((x >>> k) &&& 1#64 : W).toNat : Nat) : Int))) = _
  rw [h2]
  cases x.getLsbD k <;> rfl
theorem bv_eq0 (b : Bool) : binV P .eql t (.int .u64 (if b then 1 else 0)) (.int .u64 0) = some (.bool (!b)) := by
  cases b <;> rfl
theorem bv_eq1 (b : Bool) : binV P .eql t (.int .u64 (if b then 1 else 0)) (.int .u64 1) = some (.bool b) := by
  cases b <;> rfl
theorem bv_shl (k : Nat) (hk : k < 64) : binV P .shl t (.int .u64 1) (.int .i64 k) = some (.int .u64 (((1#64 <<< k : W).toNat : Nat) : Int)) := by
  simp only [binV]
  rw [if_neg (by omega)]
  have h1 : min ((k : Int).toNat) IntKind.u64.bits = k := by
    show min ((k : Int).toNat) 64 = k
    omega
  rw [h1]
  have h2 : (1 : Int) * 2 ^ k = ((2 ^ k : Nat) : Int) := by simp
  have h3 : 2 ^ k < 18446744073709551616 := by
    have : (2 : Nat) ^ k < 2 ^ 64 := Nat.pow_lt_pow_right (by decide) hk
    simpa using this
  have h5 : (1#64 <<< k : W).toNat = 2 ^ k := by
    rw [BitVec.toNat_shiftLeft, Nat.shiftLeft_eq]
    show (1 * 2 ^ k) % 2 ^ 64 = 2 ^ k
    rw [Nat.one_mul]
    exact Nat.mod_eq_of_lt (Nat.pow_lt_pow_right (by decide) hk)
  rw [h2, u64_wrap _ h3, h5]
theorem bv_or (x y : W) : binV P .or t (.int .u64 ((x.toNat : Nat) : Int)) (.int .u64 ((y.toNat : Nat) : Int)) = some (.int .u64 (((x ||| y).toNat : Nat) : Int)) := by
  simp only [binV, binI, if_true, ofInt_w]
  rw [u64_wrap _ (by exact (x ||| y).isLt)]
  rfl
theorem bv_andnot (x y : W) : binV P .andNot t (.int .u64 ((x.toNat : Nat) : Int)) (.int .u64 ((y.toNat : Nat) : Int)) = some (.int .u64 (((x &&& ~~~y).toNat : Nat) : Int)) := by
  simp only [binV, binI, if_true, ofInt_w]
  rw [u64_wrap _ (by exact (x &&& ~~~y).isLt)]
  rfl
theorem bv_ne0 (x : W) : binV P .neq t (.int .u64 ((x.toNat : Nat) : Int)) (.int .u64 0) = some (.bool (x != 0#64)) := by
  simp only [binV, binI, if_true]
  congr 2
  rw [Bool.eq_iff_iff]
  simp only [bne_iff_ne, ne_eq]
  constructor
  · intro h e; subst e; exact h rfl
  · intro h e
    apply h
    apply BitVec.eq_of_toNat_eq
    simpa using e
end

/-- As optP_s, but a step of its own in the proof: where values are dear to compare. -/
theorem optP_p {K : Fr → World → Prop} {f : Fr} {d : Option Nat} {w : World} {v : Value} {D : Prop} : optP (some v) K f d w D = K (updo f d v) w := propext Iff.rfl

/-! ### Sets of facts -/
def hasB (ws : List W) (f : Nat) : Bool := (ws.getD (f / 64) 0#64).getLsbD (f % 64)
def putB (ws : List W) (f : Nat) : List W := ws.set (f / 64) (ws.getD (f / 64) 0#64 ||| (1#64 <<< (f % 64)))
theorem hasB_put {ws : List W} {f : Nat} (hf : f / 64 < ws.length) (g : Nat) : hasB (putB ws f) g = (decide (g = f) || hasB ws g) := by
  unfold hasB putB
  by_cases hd : g / 64 = f / 64
  · have h1 : (ws.set (f / 64) (ws.getD (f / 64) 0#64 ||| (1#64 <<< (f % 64)))).getD (g / 64) 0#64 = ws.getD (f / 64) 0#64 ||| (1#64 <<< (f % 64)) := by
      rw [hd]; simp [List.getD, hf]
    rw [h1, BitVec.getLsbD_or, hd]
    have h2 : (1#64 <<< (f % 64) : W).getLsbD (g % 64) = decide (g = f) := by
      rw [BitVec.getLsbD_shiftLeft, BitVec.getLsbD_one]
      rw [Bool.eq_iff_iff]
      simp
      omega
    rw [h2, Bool.or_comm]
  · have h1 : (ws.set (f / 64) (ws.getD (f / 64) 0#64 ||| (1#64 <<< (f % 64)))).getD (g / 64) 0#64 = ws.getD (g / 64) 0#64 := by
      simp only [List.getD]
      rw [List.getElem?_set_ne (fun e => hd e.symm)]
    have h3 : g ≠ f := fun e => hd (by rw [e])
    rw [h1]
    simp [h3]
theorem hasB_rep {n f : Nat} : hasB (List.replicate n 0#64) f = false := by
  unfold hasB
  have : (List.replicate n (0#64 : W)).getD (f / 64) 0#64 = 0#64 := by
    simp only [List.getD, List.getElem?_replicate]
    split <;> rfl
  rw [this]; simp
theorem putB_len (ws : List W) (f : Nat) : (putB ws f).length = ws.length := by simp [putB]
def orB (b c : List W) : List W := List.zipWith (· ||| ·) b c
def moreB (b c : List W) : Bool := (List.zipWith (fun x y => (y &&& ~~~x : W) != 0#64) b c).any id
theorem getD_zip {α : Type} (g : W → W → α) (d : α) (hd : g 0#64 0#64 = d) {b c : List W} (hl : b.length = c.length) (i : Nat) : (List.zipWith g b c).getD i d = g (b.getD i 0#64) (c.getD i 0#64) := by
  simp only [List.getD, List.getElem?_zipWith]
  by_cases hi : i < b.length
  · rw [List.getElem?_eq_getElem hi, List.getElem?_eq_getElem (by omega)]; rfl
  · rw [List.getElem?_eq_none (by omega), List.getElem?_eq_none (by omega)]; simp [hd]
theorem hasB_or {b c : List W} (hl : b.length = c.length) (f : Nat) : hasB (orB b c) f = (hasB b f || hasB c f) := by
  unfold hasB orB
  rw [getD_zip (· ||| ·) 0#64 (by simp) hl, BitVec.getLsbD_or]
theorem moreB_iff {b c : List W} (hl : b.length = c.length) : moreB b c = true ↔ ∃ f, hasB c f = true ∧ hasB b f = false := by
  unfold moreB
  rw [List.any_eq_true]
  constructor
  · rintro ⟨x, hx, hx1⟩
    simp only [id] at hx1
    subst hx1
    obtain ⟨i, hi, e⟩ := List.mem_iff_getElem.1 hx
    rw [List.getElem_zipWith] at e
    simp only [List.length_zipWith] at hi
    have hne : (c[i]'(by omega) &&& ~~~b[i]'(by omega) : W) ≠ 0#64 := by simpa using e
    have : ∃ k, k < 64 ∧ (c[i]'(by omega) &&& ~~~b[i]'(by omega) : W).getLsbD k = true := by
      refine Classical.byContradiction fun hno => hne ?_
      apply BitVec.eq_of_getLsbD_eq
      intro k hk
      have h1 : ¬ (c[i]'(by omega) &&& ~~~b[i]'(by omega) : W).getLsbD k = true := fun h2 => hno ⟨k, hk, h2⟩
      simp only [Bool.not_eq_true] at h1
      rw [h1]; simp
    obtain ⟨k, hk, hk2⟩ := this
    rw [BitVec.getLsbD_and, BitVec.getLsbD_not] at hk2
    have hd1 : (i * 64 + k) / 64 = i := by omega
    have hd2 : (i * 64 + k) % 64 = k := by omega
    simp only [Bool.and_eq_true, decide_eq_true_eq, Bool.not_eq_true'] at hk2
    refine ⟨i * 64 + k, ?_, ?_⟩
    · unfold hasB; rw [hd1, hd2]
      simp only [List.getD, List.getElem?_eq_getElem (show i < c.length by omega), Option.getD_some]
      exact hk2.1
    · unfold hasB; rw [hd1, hd2]
      simp only [List.getD, List.getElem?_eq_getElem (show i < b.length by omega), Option.getD_some]
      exact hk2.2.2
  · rintro ⟨f, h1, h2⟩
    have hi : f / 64 < c.length := by
      refine Classical.byContradiction fun hno => ?_
      unfold hasB at h1
      simp only [List.getD, List.getElem?_eq_none (show c.length ≤ f / 64 by omega), Option.getD_none] at h1
      simp at h1
    refine ⟨true, ?_, rfl⟩
    refine List.mem_iff_getElem.2 ⟨f / 64, by simp; omega, ?_⟩
    rw [List.getElem_zipWith]
    simp only [bne_iff_ne, ne_eq]
    intro e
    unfold hasB at h1 h2
    simp only [List.getD, List.getElem?_eq_getElem hi, List.getElem?_eq_getElem (show f / 64 < b.length by omega), Option.getD_some] at h1 h2
    have := congrArg (fun x : W => x.getLsbD (f % 64)) e
    simp only [BitVec.getLsbD_and, BitVec.getLsbD_not, h1, h2] at this
    simp at this
    omega
theorem orB_len {b c : List W} (hl : b.length = c.length) : (orB b c).length = b.length := by simp [orB, hl]
end Go.Proofs.Ytldmnnloakpjlaa
