/- What an operation that touches no memory gives, as a function on values; the front of the calculus: Rn, RnF. -/
import Derived.Test.YtldmnnloakpjlaaA1
namespace Go.Proofs.Ytldmnnloakpjlaa
open Go

/-! ### Types, as numbers -/
def elemT (P : Program) (t : TypeId) : Option TypeId := match P.underlying t with
  | some (.slice e) => some e
  | _ => none
def strT (P : Program) (t : TypeId) : Bool := match P.underlying t with
  | some .string => true
  | _ => false
def arrT (P : Program) (t : TypeId) : Option (Nat × TypeId) := match P.underlying t with
  | some (.array n e) => some (n, e)
  | _ => none
def szT (P : Program) (t : TypeId) : Nat := ((P.info? t).map (·.size)).getD 0
def zeroT (P : Program) (t : TypeId) : Option Value := (P.info? t).bind (·.zero)
def bytT (P : Program) (t : TypeId) : Nat := ((P.info? t).map (·.bytes)).getD 0
def aggT (P : Program) (t : TypeId) : Bool := match P.underlying t with
  | some (.struct _) => true
  | some (.array _ _) => true
  | none => true
  | _ => false
/-- The field's offset and type, of a field that has cells. -/
def fieldT (P : Program) (s : TypeId) (i : Nat) : Option (Nat × TypeId) := match P.underlying s with
  | some (.struct fs) => match fs[i]? with
    | some fl => if szT P fl.type = 0 then none else some (fl.offset, fl.type)
    | none => none
  | _ => none
def eqT (P : Program) (t : TypeId) : Nat := match P.underlying t with
  | some .bool => 1
  | some (.pointer _) => 2
  | some (.slice _) => 3
  | some (.map _ _) => 4
  | some (.func _ _ _) => 5
  | some (.interface _) => 6
  | _ => 0
def intT (P : Program) (t : TypeId) : Option IntKind := match P.underlying t with
  | some (.int k) => some k
  | _ => none
def buildT (P : Program) (t : TypeId) : Option (Array Value × List (Nat × Nat)) := match (P.info? t).bind (·.zero), P.underlying t with
  | some z, some (.struct fs) => if fs.toList.all (fun fl => (P.info? fl.type).isSome) then some (z.cells, fs.toList.map fun fl => (fl.offset, szT P fl.type)) else none
  | some z, some (.array n e) => if (P.info? e).isSome then some (z.cells, (List.range n).map fun i => (i * szT P e, szT P e)) else none
  | _, _ => none

/-! ### Slices, by what is asked of them -/
def isS : Value → Bool
  | .slice _ _ _ => true
  | _ => false
def vlen : Value → Nat
  | .slice _ n _ => n
  | _ => 0
def nilS : Value → Bool
  | .slice none _ _ => true
  | _ => false
def vcap : Value → Nat
  | .slice _ _ c => c
  | _ => 0
/-- Is there a cell number k? -/
def inS : Value → Nat → Bool
  | .slice (some _) n _, k => decide (k < n)
  | _, _ => false
def sadr : Value → Nat → Addr
  | .slice (some a) _ _, k => a.add k
  | _, _ => default
def reS (v : Value) (l h sz : Nat) : Value := match v with
  | .slice a _ cap => .slice (if cap = l then a else a.map (·.add (l * sz))) (h - l) (cap - l)
  | _ => undef

def binI (op : BinOp) (k : IntKind) (a b : Int) : Option Value := match op with
  | .add => some (.int k (k.wrap (a + b)))
  | .sub => some (.int k (k.wrap (a - b)))
  | .mul => some (.int k (k.wrap (a * b)))
  | .quo => if b = 0 then none else some (.int k (k.wrap (a.tdiv b)))
  | .rem => if b = 0 then none else some (.int k (a.tmod b))
  | .eql => some (.bool (a == b))
  | .neq => some (.bool (a != b))
  | .lss => some (.bool (a < b))
  | .leq => some (.bool (a ≤ b))
  | .gtr => some (.bool (a > b))
  | .geq => some (.bool (a ≥ b))
  | .and => some (.int k (k.wrap (BitVec.ofInt k.bits a &&& BitVec.ofInt k.bits b).toNat))
  | .or => some (.int k (k.wrap (BitVec.ofInt k.bits a ||| BitVec.ofInt k.bits b).toNat))
  | .xor => some (.int k (k.wrap (BitVec.ofInt k.bits a ^^^ BitVec.ofInt k.bits b).toNat))
  | .andNot => some (.int k (k.wrap (BitVec.ofInt k.bits a &&& ~~~BitVec.ofInt k.bits b).toNat))
  | _ => none
def binV (P : Program) (op : BinOp) (t : TypeId) : Value → Value → Option Value
  | .int k a, .int k' b => match op with
    | .shl => if b < 0 then none else some (.int k (k.wrap (a * 2 ^ (min b.toNat k.bits))))
    | .shr => if b < 0 then none else some (.int k (a.fdiv (2 ^ (min b.toNat k.bits))))
    | _ => if k = k' then binI op k a b else none
  | .string a, .string b => match op with
    | .eql => some (.bool (a.toList == b.toList))
    | .neq => some (.bool !(a.toList == b.toList))
    | .lss => some (.bool (Op.bytesLess a.toList b.toList))
    | .leq => some (.bool (Op.bytesLess a.toList b.toList || a.toList == b.toList))
    | .gtr => some (.bool !(Op.bytesLess a.toList b.toList || a.toList == b.toList))
    | .geq => some (.bool !(Op.bytesLess a.toList b.toList))
    | .add => if ((a.size + b.size : Nat) : Int) > IntKind.i64.max then none else some (.string (a ++ b))
    | _ => none
  | .bool a, .bool b => match op with
    | .eql => if eqT P t = 1 then some (.bool (a == b)) else none
    | .neq => if eqT P t = 1 then some (.bool !(a == b)) else none
    | _ => none
  | .pointer a, .pointer none => match op with
    | .eql => if eqT P t = 2 then some (.bool a.isNone) else none
    | .neq => if eqT P t = 2 then some (.bool !a.isNone) else none
    | _ => none
  | a, .slice none 0 0 => match op with
    | .eql => if isS a && eqT P t == 3 then some (.bool (nilS a)) else none
    | .neq => if isS a && eqT P t == 3 then some (.bool !(nilS a)) else none
    | _ => none
  | _, _ => none
def unV (op : UnOp) : Value → Option Value
  | .bool b => match op with
    | .not => some (.bool !b)
    | _ => none
  | .int k n => match op with
    | .neg => some (.int k (k.wrap (0 - n)))
    | _ => none
  | _ => none
def fieldV (P : Program) (s : TypeId) (i : Nat) : Value → Option Value
  | .pointer (some a) => match fieldT P s i with
    | some (o, _) => some (.pointer (some (a.add o)))
    | none => none
  | _ => none
def partV (P : Program) (t : TypeId) (cs : Array Value) (o : Nat) : Option Value :=
  if aggT P t then (if (P.info? t).isSome && (P.underlying t).isSome then some (.agg (cs.extract o (o + szT P t))) else none) else cs[o]?
def extV (P : Program) (s : TypeId) (i : Nat) : Value → Option Value
  | .agg cs => match fieldT P s i with
    | some (o, t) => partV P t cs o
    | none => none
  | _ => none
def idxV (P : Program) (t : TypeId) (x : Value) : Value → Option Value
  | .int _ n => match elemT P t with
    | some e => if (P.info? e).isSome && decide (0 ≤ n) && inS x n.toNat then some (.pointer (some (sadr x (n.toNat * szT P e)))) else none
    | none => match arrT P t, x with
      | some (len, e), .pointer (some a) => if (P.info? e).isSome && decide (0 ≤ n) && decide (n < len) then some (.pointer (some (a.add (n.toNat * szT P e)))) else none
      | _, _ => none
  | _ => none
def indexV (P : Program) (t : TypeId) (x : Value) : Value → Option Value
  | .int _ n => match arrT P t, x with
    | some (len, e), .agg cs => if (P.info? e).isSome && decide (0 ≤ n) && decide (n < len) then partV P e cs (n.toNat * szT P e) else none
    | none, .string s => if strT P t && decide (0 ≤ n) then (s[n.toNat]?).map fun b => .int .u8 b.toNat else none
    | _, _ => none
  | _ => none
def sliceV (P : Program) (t : TypeId) (x : Value) (lo hi : Option Value) : Option Value :=
  match (match lo with | none => some 0 | some (.int _ n) => some n | _ => none : Option Int),
    (match hi with | none => some ((if isS x then vlen x else match x with | .string s => s.size | _ => 0 : Nat) : Int) | some (.int _ n) => some n | _ => none : Option Int) with
  | some l, some h => match elemT P t with
    | some e => if (P.info? e).isSome && isS x && decide (0 ≤ l) && decide (l ≤ h) && decide (h ≤ vcap x) then some (reS x l.toNat h.toNat (szT P e)) else none
    | none => match x with
      | .string s => if strT P t && decide (0 ≤ l) && decide (l ≤ h) && decide (h ≤ s.size) then some (.string (s.extract l.toNat h.toNat)) else none
      | _ => none
  | _, _ => none
def lenV (P : Program) (t : TypeId) (x : Value) : Option Value :=
  if (elemT P t).isSome then (if isS x then some (.int .i64 (vlen x)) else none)
  else match x with
    | .string s => if strT P t then some (.int .i64 s.size) else none
    | _ => match arrT P t with
      | some (n, _) => some (.int .i64 n)
      | none => none
def capV (P : Program) (t : TypeId) (x : Value) : Option Value :=
  if (elemT P t).isSome && isS x then some (.int .i64 (vcap x)) else none
def convV (P : Program) (s d : TypeId) : Value → Option Value
  | .int _ n => match intT P d with
    | some k => if (P.underlying s).isSome then some (.int k (k.wrap n)) else none
    | none => none
  | _ => none
def fillL (pl : List (Nat × Nat)) (cs : Array Value) (parts : List (Nat × Value)) : Option (Array Value) := Instr.fill (fun i => pl[i]?) cs parts
def buildV (P : Program) (t : TypeId) (parts : List (Nat × Value)) : Option Value :=
  match buildT P t with
  | some (z, pl) => (fillL pl z parts).map .agg
  | none => none
def min2V : Value → Value → Option Value
  | .int k x, .int _ y => some (.int k (if y < x then y else x))
  | _, _ => none
def max2V : Value → Value → Option Value
  | .int k x, .int _ y => some (.int k (if y > x then y else x))
  | _, _ => none

def pureV (P : Program) (f : Fr) : Op → Option Value
  | .move x => some (ev f x)
  | .assign x => some (ev f x)
  | .pick c a b => match ev f c with
    | .bool t => some (if t then ev f a else ev f b)
    | _ => none
  | .binOp op t x y _ => binV P op t (ev f x) (ev f y)
  | .unOp op _ x => unV op (ev f x)
  | .fieldAddr s x i => fieldV P s i (ev f x)
  | .field s x i => extV P s i (ev f x)
  | .indexAddr t x i => idxV P t (ev f x) (ev f i)
  | .index t x i => indexV P t (ev f x) (ev f i)
  | .slice t x lo hi none => sliceV P t (ev f x) (lo.map (ev f)) (hi.map (ev f))
  | .extract x i => match ev f x with
    | .tuple vs => vs[i]?
    | _ => none
  | .convert s d x => convV P s d (ev f x)
  | .nilCheck x => match ev f x with
    | .pointer (some a) => some (.pointer (some a))
    | _ => none
  | .makeFunc fn first cap => some (.func fn (first.map (ev f)) (cap.map (ev f)))
  | .build t parts => buildV P t (parts.toList.map fun p => (p.1, ev f p.2))
  | .call c => match c.callee with
    | .builtin .len => match c.args.toList, c.argTypes.toList with
      | [x], [t] => lenV P t (ev f x)
      | _, _ => none
    | .builtin .cap => match c.args.toList, c.argTypes.toList with
      | [x], [t] => capV P t (ev f x)
      | _, _ => none
    | .builtin .min => match c.args.toList with
      | [x, y] => min2V (ev f x) (ev f y)
      | _ => none
    | .builtin .max => match c.args.toList with
      | [x, y] => max2V (ev f x) (ev f y)
      | _ => none
    | _ => none
  | _ => none

section
variable {P : Program}

theorem run_under (t : TypeId) (w : World) : (underlying t).run P w = match P.underlying t with
    | some d => .ok d w
    | none => .halt (.stuck "no such type") w := by
  simp only [underlying, program, Sem.run_bind, Sem.run, Result.andThen_ok]
  cases P.underlying t <;> rfl
theorem run_tyinfo (t : TypeId) (w : World) : (typeInfo t).run P w = match P.info? t with
    | some d => .ok d w
    | none => .halt (.stuck "no such type") w := by
  simp only [typeInfo, program, Sem.run_bind, Sem.run, Result.andThen_ok]
  cases P.info? t <;> rfl
theorem run_szOf {t : TypeId} (h : (P.info? t).isSome = true) (w : World) : (sizeOf t).run P w = .ok (szT P t) w := by
  obtain ⟨i, hi⟩ := Option.isSome_iff_exists.1 h
  simp [sizeOf, run_tyinfo, hi, szT]
theorem run_isAgg (t : TypeId) (h : (P.underlying t).isSome = true) (w : World) : (isAgg t).run P w = .ok (aggT P t) w := by
  obtain ⟨i, hi⟩ := Option.isSome_iff_exists.1 h
  unfold isAgg aggT
  rw [Sem.run_bind, run_under, hi]
  cases i <;> rfl
theorem under_of_agg {t : TypeId} (h : aggT P t = false) : (P.underlying t).isSome = true := by
  unfold aggT at h
  cases hu : P.underlying t with
  | none => simp [hu] at h
  | some d => rfl

theorem run_part {t : TypeId} {cs : Array Value} {o : Nat} {v : Value} (h : partV P t cs o = some v) (w : World) : (part t cs o).run P w = .ok v w := by
  unfold partV at h
  unfold part
  by_cases ha : aggT P t = true
  · rw [if_pos ha] at h
    by_cases hi : ((P.info? t).isSome && (P.underlying t).isSome) = true
    · rw [if_pos hi] at h
      simp only [Bool.and_eq_true] at hi
      obtain rfl := Option.some.inj h
      simp only [Sem.run_bind, run_isAgg t hi.2, Result.andThen_ok, ha, Sem.run_ite, if_true, run_szOf hi.1, Sem.run_pure]
    · rw [if_neg hi] at h; cases h
  · have ha' : aggT P t = false := by simpa using ha
    rw [if_neg ha] at h
    simp only [Sem.run_bind, run_isAgg t (under_of_agg ha'), Result.andThen_ok, ha', Bool.false_eq_true, if_false, h, Sem.run_pure]

theorem run_eqGuard_none {op : BinOp} {t : TypeId} {x y : Operand} {a b : Value} (h1 : a ≠ .nilIface) (h2 : ∀ cs, a ≠ .agg cs) (w : World) :
    (eqGuard op t x y a b).run P w = .ok () w := by
  unfold eqGuard
  cases op <;> first | rfl | (cases a <;> first | rfl | exact absurd rfl h1 | exact absurd rfl (h2 _))

theorem binV_sound {op : BinOp} {t : TypeId} {x y : Operand} {a b v : Value} (h : binV P op t a b = some v) (w : World) :
    (do eqGuard op t x y a b; binOp op t a b : Sem Value).run P w = .ok v w := by
  have hg : (eqGuard op t x y a b).run P w = .ok () w := by
    apply run_eqGuard_none
    · rintro rfl
      unfold binV at h
      split at h <;> first
        | (simp_all; done)
        | (split at h <;> simp_all [isS])
    · rintro cs rfl
      unfold binV at h
      split at h <;> first
        | (simp_all; done)
        | (split at h <;> simp_all [isS])
  rw [Sem.run_bind, hg, Result.andThen_ok]
  unfold binV at h
  split at h
  · split at h
    · split at h
      · cases h
      · rename_i hb; obtain rfl := Option.some.inj h; simp [binOp, Op.shift, hb]
    · split at h
      · cases h
      · rename_i hb; obtain rfl := Option.some.inj h; simp [binOp, Op.shift, hb]
    · rename_i h1 h2
      split at h
      · rename_i hk
        subst hk
        unfold binI at h
        cases op <;> simp only [Option.some.injEq] at h <;>
          first
          | (subst h; simp [binOp, Op.intArith, Op.intCmp, Op.intBits])
          | (split at h <;> first | (rename_i hb; obtain rfl := Option.some.inj h; simp [binOp, Op.intDiv, hb]; done) | (cases h; done))
          | (exact absurd rfl (by assumption))
          | cases h
      · cases h
  · split at h <;> first
      | (obtain rfl := Option.some.inj h; simp [binOp, Op.stringOp])
      | (split at h <;> first | (rename_i hb; obtain rfl := Option.some.inj h; simp only [binOp, Op.stringOp]; rw [if_neg hb]; rfl) | (cases h; done))
      | cases h
  · have key : ∀ {p q : Bool}, eqT P t = 1 → (Op.equal t (.bool p) (.bool q)).run P w = .ok (p == q) w := by
      intro p q ht
      unfold eqT at ht
      unfold Op.equal Op.maxDepth Op.equalIn
      rw [Sem.run_bind, run_under]
      cases hu : P.underlying t with
      | none => simp [hu] at ht
      | some d => cases d <;> simp [hu] at ht ⊢
    split at h <;> first
      | (split at h
         · rename_i ht; obtain rfl := Option.some.inj h; simp [binOp, key ht]
         · cases h)
      | cases h
  · have key : ∀ {p : Option Addr}, eqT P t = 2 → (Op.equal t (.pointer p) (.pointer none)).run P w = .ok p.isNone w := by
      intro p ht
      unfold eqT at ht
      unfold Op.equal Op.maxDepth Op.equalIn
      rw [Sem.run_bind, run_under]
      cases hu : P.underlying t with
      | none => simp [hu] at ht
      | some d => cases d <;> simp [hu] at ht ⊢ <;> (cases p <;> rfl)
    split at h <;> first
      | (split at h
         · rename_i ht; obtain rfl := Option.some.inj h; simp [binOp, key ht]
         · cases h)
      | cases h
  · have key : isS a = true → eqT P t = 3 → (Op.equal t a (.slice none 0 0)).run P w = .ok (nilS a) w := by
      intro hs ht
      cases a
      case slice p n c =>
        unfold eqT at ht
        unfold Op.equal Op.maxDepth Op.equalIn
        rw [Sem.run_bind, run_under]
        cases hu : P.underlying t with
        | none => simp [hu] at ht
        | some d => cases d <;> simp [hu] at ht ⊢ <;> (cases p <;> rfl)
      all_goals (simp [isS] at hs)
    have hop : isS a = true → binOp .eql t a (.slice none 0 0) = (do pure (.bool (← Op.equal t a (.slice none 0 0)))) ∧ binOp .neq t a (.slice none 0 0) = (do pure (.bool (!(← Op.equal t a (.slice none 0 0))))) := by
      intro hs
      cases a
      case slice p n c => exact ⟨rfl, rfl⟩
      all_goals (simp [isS] at hs)
    split at h <;> first
      | (split at h
         · rename_i ht
           simp only [Bool.and_eq_true, beq_iff_eq] at ht
           obtain rfl := Option.some.inj h
           first | rw [(hop ht.1).1] | rw [(hop ht.1).2]
           simp [key ht.1 ht.2]
         · cases h)
      | cases h
  · cases h

theorem elemT_spec {t e : TypeId} (h : elemT P t = some e) : P.underlying t = some (.slice e) := by
  unfold elemT at h
  cases hu : P.underlying t with
  | none => simp [hu] at h
  | some d => cases d <;> simp [hu] at h; subst h; rfl
theorem arrT_spec {t e : TypeId} {n : Nat} (h : arrT P t = some (n, e)) : P.underlying t = some (.array n e) := by
  unfold arrT at h
  cases hu : P.underlying t with
  | none => simp [hu] at h
  | some d => cases d <;> simp [hu] at h; obtain ⟨rfl, rfl⟩ := h; rfl
theorem strT_spec {t : TypeId} (h : strT P t = true) : P.underlying t = some .string := by
  unfold strT at h
  cases hu : P.underlying t with
  | none => simp [hu] at h
  | some d => cases d <;> simp [hu] at h; rfl
theorem szT_isSome {t : TypeId} (h : ¬ szT P t = 0) : (P.info? t).isSome = true := by
  unfold szT at h
  cases hi : P.info? t with
  | none => simp [hi] at h
  | some i => rfl
theorem fieldT_spec {s : TypeId} {i o t : Nat} (h : fieldT P s i = some (o, t)) : ∃ fs fl, P.underlying s = some (.struct fs) ∧ fs[i]? = some fl ∧ ¬ szT P t = 0 ∧ fl.offset = o ∧ fl.type = t := by
  unfold fieldT at h
  cases hu : P.underlying s with
  | none => simp [hu] at h
  | some d =>
    cases d
    case struct fs =>
      simp only [hu] at h
      cases hf : fs[i]? with
      | none => simp [hf] at h
      | some fl =>
        simp only [hf] at h
        split at h
        · cases h
        · rename_i hz
          simp only [Option.some.injEq, Prod.mk.injEq] at h
          obtain ⟨rfl, rfl⟩ := h
          exact ⟨fs, fl, rfl, hf, hz, rfl, rfl⟩
    all_goals simp [hu] at h

theorem fieldV_sound {s i : Nat} {x v : Value} (h : fieldV P s i x = some v) (w : World) : (Instr.fieldAt s x i).run P w = .ok v w := by
  unfold fieldV at h
  split at h
  · split at h
    · rename_i a o t hf
      obtain ⟨fs, fl, h1, h2, h3, h4, h5⟩ := fieldT_spec hf
      obtain rfl := Option.some.inj h
      subst h4 h5
      unfold Instr.fieldAt
      rw [Sem.run_bind, run_under, h1]
      simp only [Result.andThen_ok, h2, Sem.run_bind, Instr.sureAddr, Sem.run_pure, Go.fieldPlace, run_szOf (szT_isSome h3), Sem.run_ite]
      rw [if_neg h3]
      rfl
    · cases h
  · cases h

theorem extV_sound {s i : Nat} {x v : Value} (h : extV P s i x = some v) (w : World) : (Instr.field s x i).run P w = .ok v w := by
  unfold extV at h
  split at h
  · split at h
    · rename_i cs o t hf
      obtain ⟨fs, fl, h1, h2, h3, h4, h5⟩ := fieldT_spec hf
      subst h4 h5
      unfold Instr.field
      rw [Sem.run_bind, run_under, h1]
      simp only [Result.andThen_ok, h2, Sem.run_bind, asAgg, Sem.run_pure, run_part h]
    · cases h
  · cases h

theorem inS_spec {x : Value} {k : Nat} (h : inS x k = true) : ∃ a n c, x = .slice (some a) n c ∧ k < n := by
  unfold inS at h
  split at h
  · exact ⟨_, _, _, rfl, by simpa using h⟩
  · cases h

theorem idxV_sound {t : Nat} {x i v : Value} (h : idxV P t x i = some v) (w : World) : (Instr.indexAt t x i).run P w = .ok v w := by
  unfold idxV at h
  split at h
  · rename_i k n
    split at h
    · rename_i e he
      split at h
      · rename_i hc
        simp only [Bool.and_eq_true, decide_eq_true_eq] at hc
        obtain ⟨⟨hi, h0⟩, hin⟩ := hc
        obtain ⟨a, m, c, rfl, hlt⟩ := inS_spec hin
        obtain rfl := Option.some.inj h
        unfold Instr.indexAt
        simp only [asIntOf, Sem.run_bind, Sem.run_pure, Result.andThen_ok, run_under, elemT_spec he]
        have : 0 ≤ n ∧ n < (m : Int) := by omega
        simp only [this, and_self, if_true, Sem.run_bind, run_szOf hi, Result.andThen_ok, Sem.run_pure, sadr]
      · cases h
    · split at h
      · rename_i len e a he
        split at h
        · rename_i hc
          simp only [Bool.and_eq_true, decide_eq_true_eq] at hc
          obtain ⟨⟨hi, h0⟩, hlt⟩ := hc
          obtain rfl := Option.some.inj h
          unfold Instr.indexAt
          simp only [asIntOf, Sem.run_bind, Sem.run_pure, Result.andThen_ok, run_under, arrT_spec he, Instr.sureAddr]
          have : 0 ≤ n ∧ n < (len : Int) := by omega
          simp only [this, and_self, if_true, Sem.run_bind, run_szOf hi, Result.andThen_ok, Sem.run_pure]
        · cases h
      · cases h
  · cases h

theorem indexV_sound {t : Nat} {x i v : Value} (h : indexV P t x i = some v) (w : World) : (Instr.index t x i).run P w = .ok v w := by
  unfold indexV at h
  split at h
  · rename_i k n
    split at h
    · rename_i len e cs he
      split at h
      · rename_i hc
        simp only [Bool.and_eq_true, decide_eq_true_eq] at hc
        obtain ⟨⟨hi, h0⟩, hlt⟩ := hc
        unfold Instr.index
        simp only [asIntOf, Sem.run_bind, Sem.run_pure, Result.andThen_ok, run_under, arrT_spec he]
        have : 0 ≤ n ∧ n < (len : Int) := by omega
        simp only [this, and_self, if_true, Sem.run_bind, run_szOf hi, Result.andThen_ok, run_part h]
      · cases h
    · rename_i s he
      split at h
      · rename_i hc
        simp only [Bool.and_eq_true, decide_eq_true_eq] at hc
        obtain ⟨hs, h0⟩ := hc
        unfold Instr.index
        simp only [asIntOf, Sem.run_bind, Sem.run_pure, Result.andThen_ok, run_under, strT_spec hs, h0, if_true]
        cases hb : s[n.toNat]? with
        | none => simp [hb] at h
        | some b =>
          simp only [hb, Option.map_some, Option.some.injEq] at h
          subst h
          rfl
      · cases h
    · cases h
  · cases h

theorem lenV_sound {t : TypeId} {x v : Value} {ty : TypeId} (h : lenV P t x = some v) (w : World) : (Builtin.len_ #[t] ty #[x]).run P w = .ok v w := by
  unfold lenV at h
  split at h
  · rename_i he
    obtain ⟨e, he⟩ := Option.isSome_iff_exists.1 he
    split at h
    · rename_i hs
      obtain rfl := Option.some.inj h
      cases x
      case slice a n c => simp [Builtin.len_, run_under, elemT_spec he, vlen, goInt]
      all_goals simp [isS] at hs
    · cases h
  · split at h
    · rename_i s
      split at h
      · rename_i hs
        obtain rfl := Option.some.inj h
        simp [Builtin.len_, run_under, strT_spec hs, goInt]
      · cases h
    · rename_i hns
      split at h
      · rename_i n e he
        obtain rfl := Option.some.inj h
        cases x <;> simp [Builtin.len_, run_under, arrT_spec he, goInt]
      · cases h

theorem capV_sound {t : TypeId} {x v : Value} {ty : TypeId} (h : capV P t x = some v) (w : World) : (Builtin.cap_ #[t] ty #[x]).run P w = .ok v w := by
  unfold capV at h
  split at h
  · rename_i hc
    simp only [Bool.and_eq_true] at hc
    obtain ⟨e, he⟩ := Option.isSome_iff_exists.1 hc.1
    obtain rfl := Option.some.inj h
    cases x
    case slice a n c => simp [Builtin.cap_, run_under, elemT_spec he, vcap, goInt]
    all_goals (simp [isS] at hc)
  · cases h
theorem convV_sound {s d : TypeId} {x v : Value} (h : convV P s d x = some v) (w : World) : (convert s d x).run P w = .ok v w := by
  unfold convV at h
  split at h
  · split at h
    · rename_i k hk
      split at h
      · rename_i hs
        obtain rfl := Option.some.inj h
        obtain ⟨sd, hsd⟩ := Option.isSome_iff_exists.1 hs
        have hd : P.underlying d = some (.int k) := by
          unfold intT at hk
          cases hu : P.underlying d with
          | none => simp [hu] at hk
          | some dd => cases dd <;> simp [hu] at hk; subst hk; rfl
        unfold convert
        simp only [Sem.run_bind, run_under, hsd, hd, Result.andThen_ok, Conv.intToInt, Sem.run_pure]
      · cases h
    · cases h
  · cases h
theorem buildV_sound {t : TypeId} {parts : List (Nat × Value)} {v : Value} (h : buildV P t parts = some v) (w : World) : (Instr.build t parts.toArray).run P w = .ok v w := by
  unfold buildV at h
  cases hb : buildT P t with
  | none => simp [hb] at h
  | some zp =>
    obtain ⟨z, pl⟩ := zp
    simp only [hb] at h
    unfold buildT at hb
    have hmap : ∀ (fs : List Field), (fs.all fun fl => (P.info? fl.type).isSome) = true →
        (fs.mapM (m := Sem) fun f => do pure (f.offset, ← sizeOf f.type)).run P w = .ok (fs.map fun fl => (fl.offset, szT P fl.type)) w := by
      intro fs
      induction fs with
      | nil => intro _; simp
      | cons f fs ih =>
        intro hall
        simp only [List.all_cons, Bool.and_eq_true] at hall
        simp only [List.mapM_cons, Sem.run_bind, run_szOf hall.1, Result.andThen_ok, Sem.run_pure, ih hall.2, List.map_cons]
    unfold Instr.build zeroValue
    cases hi : P.info? t with
    | none => simp [hi] at hb
    | some i =>
      cases hz : i.zero with
      | none => simp [hi, hz] at hb
      | some zv =>
        simp only [hi, Option.bind_some, hz] at hb
        simp only [Sem.run_bind, run_tyinfo, hi, Result.andThen_ok, hz, Sem.run_pure, run_under]
        cases hu : P.underlying t with
        | none => simp [hu] at hb
        | some d =>
          cases d
          case struct fs =>
            simp only [hu] at hb
            split at hb
            · rename_i hall
              simp only [Option.some.injEq, Prod.mk.injEq] at hb
              obtain ⟨rfl, rfl⟩ := hb
              simp only [Result.andThen_ok]
              rw [Array.mapM_eq_mapM_toList]
              simp only [Sem.run_bind, Sem.run_map]
              erw [hmap _ hall]
              simp only [Result.andThen_ok]
              unfold fillL at h
              simp only [List.getElem?_toArray]
              cases hf : Instr.fill (fun i => (fs.toList.map fun fl => (fl.offset, szT P fl.type))[i]?) zv.cells parts with
              | none => rw [hf] at h; cases h
              | some cells =>
                simp only [hf, Option.map_some, Option.some.injEq] at h
                subst h
                rfl
            · cases hb
          case array n e =>
            simp only [hu] at hb
            split at hb
            · rename_i he
              simp only [Option.some.injEq, Prod.mk.injEq] at hb
              obtain ⟨rfl, rfl⟩ := hb
              simp only [Result.andThen_ok, Sem.run_bind, run_szOf he]
              unfold fillL at h
              have hle : ∀ (ps : List (Nat × Value)) (cs cs' : Array Value), Instr.fill (fun i => ((List.range n).map fun i => (i * szT P e, szT P e))[i]?) cs ps = some cs' →
                  Instr.fill (fun i => some (i * szT P e, szT P e)) cs ps = some cs' := by
                intro ps
                induction ps with
                | nil => intro cs cs' hh; exact hh
                | cons q ps ih =>
                  intro cs cs' hh
                  obtain ⟨qi, qv⟩ := q
                  unfold Instr.fill at hh ⊢
                  by_cases hq : qi < n
                  · have hq' : ((List.range n).map fun i => (i * szT P e, szT P e))[qi]? = some (qi * szT P e, szT P e) := by simp [hq]
                    rw [hq'] at hh
                    simp only at hh ⊢
                    split at hh
                    · cases hh
                    · rename_i hc; rw [if_neg hc]; exact ih _ _ hh
                  · rw [List.getElem?_eq_none (by simpa using hq)] at hh
                    cases hh
              cases hf : Instr.fill (fun i => ((List.range n).map fun i => (i * szT P e, szT P e))[i]?) zv.cells parts with
              | none => rw [hf] at h; cases h
              | some cells =>
                simp only [hf, Option.map_some, Option.some.injEq] at h
                subst h
                simp only [hle _ _ _ hf]
                rfl
            · cases hb
          all_goals simp [hu] at hb

theorem sliceV_sound {t : TypeId} {x v : Value} {lo hi : Option Value} (h : sliceV P t x lo hi = some v) (w : World) : (Instr.sliceAt t x lo hi none).run P w = .ok v w := by
  unfold sliceV at h
  split at h
  · rename_i l hh hlo hhi
    have hlo' : (∃ k, lo = some (.int k l)) ∨ lo = none ∧ l = 0 := by
      split at hlo
      · exact .inr ⟨rfl, (Option.some.inj hlo).symm⟩
      · obtain rfl := Option.some.inj hlo; exact .inl ⟨_, rfl⟩
      · cases hlo
    split at h
    · rename_i e he
      split at h
      · rename_i hc
        simp only [Bool.and_eq_true, decide_eq_true_eq] at hc
        obtain ⟨⟨⟨⟨hi1, hs⟩, h0⟩, h1⟩, h2⟩ := hc
        obtain rfl := Option.some.inj h
        have hhi' : (∃ k, hi = some (.int k hh)) ∨ hi = none ∧ hh = vlen x := by
          split at hhi
          · rw [hs, if_pos rfl] at hhi; exact .inr ⟨rfl, (Option.some.inj hhi).symm⟩
          · obtain rfl := Option.some.inj hhi; exact .inl ⟨_, rfl⟩
          · cases hhi
        cases x
        case slice a n c =>
          simp only [vcap] at h2
          simp only [vlen] at hhi'
          have hb : (Instr.sliceBounds true n c lo hi none).run P w = .ok (l.toNat, hh.toNat, c) w := by
            rcases hlo' with ⟨k, rfl⟩ | ⟨rfl, rfl⟩ <;> rcases hhi' with ⟨k', rfl⟩ | ⟨rfl, rfl⟩ <;>
              simp only [Instr.sliceBounds, Instr.sliceBound, asIntOf, Sem.run_bind, Sem.run_pure, Result.andThen_ok]
            · rw [if_pos (by omega)]; simp only [Sem.run_pure, Result.andThen_ok]; rw [if_pos (by omega)]; rfl
            · rw [if_pos (by omega)]; rfl
            · rw [if_pos (by omega)]; rfl
            · rfl
          unfold Instr.sliceAt
          simp only [Sem.run_bind, run_under, elemT_spec he, Result.andThen_ok]
          unfold Instr.slice
          simp only [Sem.run_bind, run_under, elemT_spec he, Result.andThen_ok, hb, run_szOf hi1, Sem.run_pure, reS]
        all_goals simp [isS] at hs
      · cases h
    · split at h
      · rename_i s
        split at h
        · rename_i hc
          simp only [Bool.and_eq_true, decide_eq_true_eq] at hc
          obtain ⟨⟨⟨hs, h0⟩, h1⟩, h2⟩ := hc
          obtain rfl := Option.some.inj h
          have hhi' : (∃ k, hi = some (.int k hh)) ∨ hi = none ∧ hh = s.size := by
            split at hhi
            · simp only [isS, Bool.false_eq_true, if_false] at hhi; exact .inr ⟨rfl, (Option.some.inj hhi).symm⟩
            · obtain rfl := Option.some.inj hhi; exact .inl ⟨_, rfl⟩
            · cases hhi
          have hb : (Instr.sliceBounds false s.size s.size lo hi none).run P w = .ok (l.toNat, hh.toNat, s.size) w := by
            rcases hlo' with ⟨k, rfl⟩ | ⟨rfl, rfl⟩ <;> rcases hhi' with ⟨k', rfl⟩ | ⟨rfl, rfl⟩ <;>
              simp only [Instr.sliceBounds, Instr.sliceBound, asIntOf, Sem.run_bind, Sem.run_pure, Result.andThen_ok]
            · rw [if_pos (by omega)]; simp only [Sem.run_pure, Result.andThen_ok]; rw [if_pos (by omega)]; rfl
            · rw [if_pos (by omega)]; rfl
            · rw [if_pos (by omega)]; rfl
            · rfl
          unfold Instr.sliceAt
          simp only [Sem.run_bind, run_under, strT_spec hs, Result.andThen_ok]
          unfold Instr.slice
          simp only [Sem.run_bind, run_under, strT_spec hs, Result.andThen_ok, hb, Sem.run_pure, Option.isSome_none, Bool.false_eq_true, if_false]
        · cases h
      · cases h
  · cases h

theorem pureV_sound {f : Fr} {o : Oper} {v : Value} (h : pureV P f o.op = some v) (w : World) : (execOp (ev f) o).run P w = .ok (.value v) w := by
  have lift : ∀ {s : Sem Value}, s.run P w = .ok v w → (do pure (.value (← s)) : Sem Next).run P w = .ok (.value v) w := fun hs => by
    rw [Sem.run_bind, hs]; rfl
  obtain ⟨d, op, ty, pos, aft, gd⟩ := o
  unfold pureV at h
  simp only at h
  cases op <;> try simp only at h
  case move x => obtain rfl := Option.some.inj h; rfl
  case assign x => obtain rfl := Option.some.inj h; rfl
  case pick c a b =>
    split at h
    · rename_i t ht
      obtain rfl := Option.some.inj h
      simp only [execOp, ht, asBool, Sem.run_bind, Sem.run_pure, Result.andThen_ok]
    · cases h
  case binOp op t x y t2 => exact lift (binV_sound h w)
  case unOp op t x =>
    refine lift ?_
    unfold unV at h
    split at h
    · rename_i b hb
      split at h
      · obtain rfl := Option.some.inj h; simp [hb, Op.unary]
      · cases h
    · rename_i k n hb
      split at h
      · obtain rfl := Option.some.inj h; simp [hb, Op.unary, Op.intArith]
      · cases h
    · cases h
  case fieldAddr s x i => exact lift (fieldV_sound h w)
  case field s x i => exact lift (extV_sound h w)
  case indexAddr t x i => exact lift (idxV_sound h w)
  case index t x i => exact lift (indexV_sound h w)
  case slice t x lo hi mx =>
    cases mx
    case none => exact lift (sliceV_sound h w)
    case some m => cases h
  case extract x i =>
    refine lift ?_
    split at h
    · rename_i vs hv
      unfold Instr.extract
      simp only [hv, h]
      rfl
    · cases h
  case nilCheck x =>
    split at h
    · rename_i a ha
      obtain rfl := Option.some.inj h
      simp only [execOp, ha, Sem.run_pure]
    · cases h
  case convert s d' x => exact lift (convV_sound h w)
  case makeFunc fn first cap => obtain rfl := Option.some.inj h; rfl
  case build t parts =>
    refine lift ?_
    have := buildV_sound h w
    have e : (parts.toList.map fun p => (p.1, ev f p.2)).toArray = parts.map fun p => (p.1, ev f p.2) := by
      apply Array.ext'; simp
    rw [e] at this
    exact this
  case call c =>
    obtain ⟨cal, args, tys⟩ := c
    simp only at h
    cases cal
    case builtin b =>
      cases b <;> try simp only at h
      case len =>
        split at h
        · rename_i x t hx ht
          have hx' : args = #[x] := by apply Array.ext'; simpa using hx
          have ht' : tys = #[t] := by apply Array.ext'; simpa using ht
          subst hx' ht'
          have := lenV_sound (ty := ty) h w
          simp only [execOp, resolve, invoke, builtin, Sem.run_bind, Sem.run_pure, Result.andThen_ok]
          simp only [List.map_toArray, List.map_cons, List.map_nil, this, Result.andThen_ok]
        · cases h
      case cap =>
        split at h
        · rename_i x t hx ht
          have hx' : args = #[x] := by apply Array.ext'; simpa using hx
          have ht' : tys = #[t] := by apply Array.ext'; simpa using ht
          subst hx' ht'
          have := capV_sound (ty := ty) h w
          simp only [execOp, resolve, invoke, builtin, Sem.run_bind, Sem.run_pure, Result.andThen_ok]
          simp only [List.map_toArray, List.map_cons, List.map_nil, this, Result.andThen_ok]
        · cases h
      case min =>
        split at h
        · rename_i x y hx
          have hx' : args = #[x, y] := by apply Array.ext'; simpa using hx
          subst hx'
          unfold min2V at h
          split at h
          · rename_i k a k' b hx hy
            obtain rfl := Option.some.inj h
            simp [execOp, resolve, invoke, builtin, Builtin.min_, Builtin.min2, hx, hy]
          · cases h
        · cases h
      case max =>
        split at h
        · rename_i x y hx
          have hx' : args = #[x, y] := by apply Array.ext'; simpa using hx
          subst hx'
          unfold max2V at h
          split at h
          · rename_i k a k' b hx hy
            obtain rfl := Option.some.inj h
            simp [execOp, resolve, invoke, builtin, Builtin.max_, Builtin.max2, hx, hy]
          · cases h
        · cases h
      all_goals cases h
    all_goals cases h
  all_goals cases h
end
end Go.Proofs.Ytldmnnloakpjlaa
