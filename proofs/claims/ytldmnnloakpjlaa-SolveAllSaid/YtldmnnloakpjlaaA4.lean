/- The rules by which the calculus is unfolded. -/
import Derived.Test.YtldmnnloakpjlaaA3
namespace Go.Proofs.Ytldmnnloakpjlaa
open Go

section
variable {P : Program} {Q : Exit → Fr → World → Prop} {f : Fr} {w : World} {K : Fr → World → Prop} {ops : Array Oper} {l : List Oper}

theorem CW_skip : CW P .skip Q f w = Q .normal f w := rfl
theorem CW_seq {a b : Code} : CW P (.seq a b) Q f w = CW P a (thenF (CW P b Q) Q) f w := rfl
theorem CW_cond {c : Operand} {a b : Code} : CW P (.cond c a b) Q f w = condF (ev f c) (CW P a Q) (CW P b Q) f w := rfl
theorem CW_block {id : Nat} {a : Code} : CW P (.block id a) Q f w = CW P a (blockF id Q) f w := rfl
theorem CW_loop {a : Code} : CW P (.loop a) Q f w = LoopF (CW P a) Q f w := rfl
theorem CW_reg {id : Nat} : CW P (.region id ops false) Q f w = Rn P ops ops.toList (Q .normal) f w := rfl
theorem CW_draw {id : Nat} : CW P (.region id ops true) Q f w = Draw P ops (Q .normal) f w := rfl
theorem CW_exit {id : Nat} : CW P (.exit id) Q f w = Q (.exit id) f w := rfl
theorem CW_ret : CW P .ret Q f w = Q .ret f w := rfl
theorem CW_label {i : Nat} : CW P (.label i) Q f w = Q .normal f w := rfl
theorem thenF_n : thenF K Q .normal f w = K f w := rfl
theorem thenF_nK : thenF K Q .normal = K := rfl
theorem thenF_r : thenF K Q .ret f w = Q .ret f w := rfl
theorem thenF_x {i : Nat} : thenF K Q (.exit i) f w = Q (.exit i) f w := rfl
theorem blockF_n {i : Nat} : blockF i Q .normal f w = Q .normal f w := rfl
theorem blockF_nK {i : Nat} : blockF i Q .normal = Q .normal := rfl
theorem blockF_r {i : Nat} : blockF i Q .ret f w = Q .ret f w := rfl
theorem blockF_x {i j : Nat} : blockF i Q (.exit j) f w = if j = i then Q .normal f w else Q (.exit j) f w := rfl
theorem condF_t {A B : Fr → World → Prop} : condF (.bool true) A B f w = A f w := rfl
theorem condF_f {A B : Fr → World → Prop} : condF (.bool false) A B f w = B f w := rfl
theorem condF_b {A B : Fr → World → Prop} {b : Bool} : condF (.bool b) A B f w = ((b = true → A f w) ∧ (b = false → B f w)) := by
  cases b <;> simp [condF]
theorem condF_split {A B : Fr → World → Prop} {b : Bool} (h1 : b = true → A f w) (h2 : b = false → B f w) : condF (.bool b) A B f w := by
  cases b
  · exact h2 rfl
  · exact h1 rfl
theorem Rn_nil : Rn P ops [] K f w = K f w := rfl
theorem Rn_ng {d : Option Nat} {op : Op} {ty : TypeId} {pos : String} {aft : Array Edge} :
    Rn P ops (⟨d, op, ty, pos, aft, none⟩ :: l) K f w = oneStep P none ⟨d, op, ty, pos, aft, none⟩ (Rn P ops l K) f w := rfl
theorem Rn_g {d : Option Nat} {op : Op} {ty : TypeId} {pos : String} {aft : Array Edge} {j : Nat} {b : Bool} :
    Rn P ops (⟨d, op, ty, pos, aft, some (j, b)⟩ :: l) K f w =
      if gval ops f j = some b then oneStep P none ⟨d, op, ty, pos, aft, none⟩ (Rn P ops l K) f w else Rn P ops l K (updo f d undef) w := rfl
theorem oneStep_g {S : Option (World → Prop)} {d : Option Nat} {op : Op} {ty : TypeId} {pos : String} {aft : Array Edge} {g : Nat × Bool} :
    oneStep P S ⟨d, op, ty, pos, aft, some g⟩ K f w = oneStep P S ⟨d, op, ty, pos, aft, none⟩ K f w := rfl
/-- The guard's slot, read off the list of operations. -/
def gslot (ops : Array Oper) (j : Nat) : Option Nat := (ops[j]?).bind (·.dst)
theorem gval_slot {j : Nat} : gval ops f j = match gslot ops j with | some d => (match f d with | .bool b => some b | _ => none) | none => none := rfl

section
variable {S : World → Prop} {n i : Nat} {r : OrdT}
theorem RnF_nil : RnF P ops S .nil K f w = K f w := rfl
theorem RnF_op : RnF P ops S (.op i r) K f w =
    match ops[i]? with
    | none => False
    | some o => match o.guard with
      | none => oneStep P (some S) o (RnF P ops S r K) f w
      | some (j, b) => if gval ops f j = some b then oneStep P (some S) o (RnF P ops S r K) f w else RnF P ops S r K (updo f o.dst undef) w := rfl
end

section
variable {S : Option (World → Prop)} {d : Option Nat} {ty : TypeId} {pos : String} {aft : Array Edge}
theorem os_move {x : Operand} : oneStep P S ⟨d, .move x, ty, pos, aft, none⟩ K f w = K (updo f d (ev f x)) w := rfl
theorem os_assign {x : Operand} : oneStep P S ⟨d, .assign x, ty, pos, aft, none⟩ K f w = K (updo f d (ev f x)) w := rfl
/-- A pure operation's value, or (where it is none) the rest of the case. -/
def optP (v : Option Value) (K : Fr → World → Prop) (f : Fr) (d : Option Nat) (w : World) (D : Prop) : Prop := match v with
  | some v => K (updo f d v) w
  | none => D
theorem optP_s {v : Value} {D : Prop} : optP (some v) K f d w D = K (updo f d v) w := rfl
theorem resP_ok {v : Value} : resP (.ok v w) K f d = K (updo f d v) w := rfl
theorem resU_ok {v : Unit} : resU (.ok v w) K f d = K (updo f d undef) w := rfl
theorem os_pick {c a b : Operand} : oneStep P S ⟨d, .pick c a b, ty, pos, aft, none⟩ K f w =
    optP (match ev f c with | .bool t => some (if t then ev f a else ev f b) | _ => none) K f d w (memF P S ⟨d, .pick c a b, ty, pos, aft, none⟩ K f w) := rfl
theorem os_bin {op : BinOp} {t t2 : TypeId} {x y : Operand} : oneStep P S ⟨d, .binOp op t x y t2, ty, pos, aft, none⟩ K f w =
    optP (binV P op t (ev f x) (ev f y)) K f d w (memF P S ⟨d, .binOp op t x y t2, ty, pos, aft, none⟩ K f w) := rfl
theorem os_un {op : UnOp} {t : TypeId} {x : Operand} : oneStep P S ⟨d, .unOp op t x, ty, pos, aft, none⟩ K f w =
    optP (unV op (ev f x)) K f d w (memF P S ⟨d, .unOp op t x, ty, pos, aft, none⟩ K f w) := rfl
theorem os_fieldAddr {s : TypeId} {x : Operand} {i : Nat} : oneStep P S ⟨d, .fieldAddr s x i, ty, pos, aft, none⟩ K f w =
    optP (fieldV P s i (ev f x)) K f d w (memF P S ⟨d, .fieldAddr s x i, ty, pos, aft, none⟩ K f w) := rfl
theorem os_field {s : TypeId} {x : Operand} {i : Nat} : oneStep P S ⟨d, .field s x i, ty, pos, aft, none⟩ K f w =
    optP (extV P s i (ev f x)) K f d w (memF P S ⟨d, .field s x i, ty, pos, aft, none⟩ K f w) := rfl
theorem os_indexAddr {t : TypeId} {x i : Operand} : oneStep P S ⟨d, .indexAddr t x i, ty, pos, aft, none⟩ K f w =
    optP (idxV P t (ev f x) (ev f i)) K f d w (memF P S ⟨d, .indexAddr t x i, ty, pos, aft, none⟩ K f w) := rfl
theorem os_index {t : TypeId} {x i : Operand} : oneStep P S ⟨d, .index t x i, ty, pos, aft, none⟩ K f w =
    optP (indexV P t (ev f x) (ev f i)) K f d w (memF P S ⟨d, .index t x i, ty, pos, aft, none⟩ K f w) := rfl
theorem os_slice {t : TypeId} {x : Operand} {lo hi : Option Operand} : oneStep P S ⟨d, .slice t x lo hi none, ty, pos, aft, none⟩ K f w =
    optP (sliceV P t (ev f x) (lo.map (ev f)) (hi.map (ev f))) K f d w (memF P S ⟨d, .slice t x lo hi none, ty, pos, aft, none⟩ K f w) := rfl
theorem os_extract {x : Operand} {i : Nat} : oneStep P S ⟨d, .extract x i, ty, pos, aft, none⟩ K f w =
    optP (match ev f x with | .tuple vs => vs[i]? | _ => none) K f d w (memF P S ⟨d, .extract x i, ty, pos, aft, none⟩ K f w) := rfl
theorem os_nilCheck {x : Operand} : oneStep P S ⟨d, .nilCheck x, ty, pos, aft, none⟩ K f w =
    optP (match ev f x with | .pointer (some a) => some (.pointer (some a)) | _ => none) K f d w (memF P S ⟨d, .nilCheck x, ty, pos, aft, none⟩ K f w) := rfl
theorem os_makeFunc {fn : Fn} {first cap : Array Operand} : oneStep P S ⟨d, .makeFunc fn first cap, ty, pos, aft, none⟩ K f w = K (updo f d (.func fn (first.map (ev f)) (cap.map (ev f)))) w := rfl
theorem os_build {t : TypeId} {parts : Array (Nat × Operand)} : oneStep P S ⟨d, .build t parts, ty, pos, aft, none⟩ K f w =
    optP (buildV P t (parts.toList.map fun p => (p.1, ev f p.2))) K f d w (memF P S ⟨d, .build t parts, ty, pos, aft, none⟩ K f w) := rfl
theorem os_len {x : Operand} {t : TypeId} : oneStep P S ⟨d, .call { callee := .builtin .len, args := #[x], argTypes := #[t] }, ty, pos, aft, none⟩ K f w =
    optP (lenV P t (ev f x)) K f d w (memF P S ⟨d, .call { callee := .builtin .len, args := #[x], argTypes := #[t] }, ty, pos, aft, none⟩ K f w) := rfl
theorem os_cap {x : Operand} {t : TypeId} : oneStep P S ⟨d, .call { callee := .builtin .cap, args := #[x], argTypes := #[t] }, ty, pos, aft, none⟩ K f w =
    optP (capV P t (ev f x)) K f d w (memF P S ⟨d, .call { callee := .builtin .cap, args := #[x], argTypes := #[t] }, ty, pos, aft, none⟩ K f w) := rfl
theorem os_convert {s t : Nat} {x : Operand} : oneStep P S ⟨d, .convert s t x, ty, pos, aft, none⟩ K f w =
    optP (convV P s t (ev f x)) K f d w (memF P S ⟨d, .convert s t x, ty, pos, aft, none⟩ K f w) := rfl
theorem optP_n {D : Prop} : optP none K f d w D = D := rfl
theorem os_min {x y : Operand} {ts : Array TypeId} : oneStep P S ⟨d, .call { callee := .builtin .min, args := #[x, y], argTypes := ts }, ty, pos, aft, none⟩ K f w =
    optP (min2V (ev f x) (ev f y)) K f d w (memF P S ⟨d, .call { callee := .builtin .min, args := #[x, y], argTypes := ts }, ty, pos, aft, none⟩ K f w) := rfl
theorem os_max {x y : Operand} {ts : Array TypeId} : oneStep P S ⟨d, .call { callee := .builtin .max, args := #[x, y], argTypes := ts }, ty, pos, aft, none⟩ K f w =
    optP (max2V (ev f x) (ev f y)) K f d w (memF P S ⟨d, .call { callee := .builtin .max, args := #[x, y], argTypes := ts }, ty, pos, aft, none⟩ K f w) := rfl
end

section
variable {d : Option Nat} {ty : TypeId} {pos : String} {aft : Array Edge} {S : World → Prop}
theorem on_load {t : TypeId} {a : Operand} : oneStep P none ⟨d, .load t a, ty, pos, aft, none⟩ K f w = resP ((Instr.loadAt t (ev f a)).run P w) K f d := rfl
theorem on_buildSlice {t n : Nat} {ps : Array (Nat × Operand)} : oneStep P none ⟨d, .buildSlice t n ps, ty, pos, aft, none⟩ K f w = resP ((Instr.buildSlice t n (ps.map fun p => (p.1, ev f p.2))).run P w) K f d := rfl
theorem on_alloc {t : Nat} : oneStep P none ⟨d, .alloc t, ty, pos, aft, none⟩ K f w = resP ((Instr.alloc t true (.tuple #[])).run P w) K f d := rfl
theorem on_box {t : Nat} {x : Operand} : oneStep P none ⟨d, .box t x, ty, pos, aft, none⟩ K f w = resP ((Instr.box t (ev f x)).run P w) K f d := rfl
theorem on_makeSlice {t : Nat} {x y : Operand} : oneStep P none ⟨d, .makeSlice t x y, ty, pos, aft, none⟩ K f w = resP ((Instr.makeSlice t (ev f x) (ev f y)).run P w) K f d := rfl
theorem on_makeMap {t : Nat} {r : Option Operand} : oneStep P none ⟨d, .makeMap t r, ty, pos, aft, none⟩ K f w = resP ((Instr.makeMap t (r.map (ev f))).run P w) K f d := rfl
theorem on_lookup {t : Nat} {x i : Operand} {ok : Bool} : oneStep P none ⟨d, .lookup t x i ok, ty, pos, aft, none⟩ K f w = resP ((Instr.lookup t (ev f x) (ev f i) ok).run P w) K f d := rfl
theorem mn_convert {s t : Nat} {x : Operand} : memF P none ⟨d, .convert s t x, ty, pos, aft, none⟩ K f w = resP ((convert s t (ev f x)).run P w) K f d := rfl
theorem mn_bin {op : BinOp} {t t2 : TypeId} {x y : Operand} : memF P none ⟨d, .binOp op t x y t2, ty, pos, aft, none⟩ K f w = resP ((do eqGuard op t x y (ev f x) (ev f y); binOp op t (ev f x) (ev f y) : Sem Value).run P w) K f d := rfl
theorem on_append {x y : Operand} {ts : Array TypeId} : oneStep P none ⟨d, .call { callee := .builtin .append, args := #[x, y], argTypes := ts }, ty, pos, aft, none⟩ K f w = resP ((Builtin.append_ ts ty #[ev f x, ev f y]).run P w) K f d := by
  simp [oneStep, pureV, memF, actV, actF]
theorem on_copy {x y : Operand} {ts : Array TypeId} : oneStep P none ⟨d, .call { callee := .builtin .copy, args := #[x, y], argTypes := ts }, ty, pos, aft, none⟩ K f w = resP ((Builtin.copy_ ts ty #[ev f x, ev f y]).run P w) K f d := by
  simp [oneStep, pureV, memF, actV, actF]
theorem on_store {t : Nat} {a x : Operand} : oneStep P none ⟨d, .store t a x, ty, pos, aft, none⟩ K f w = resU ((Instr.storeAt t (ev f a) (ev f x)).run P w) K f d := rfl
theorem on_mapUpdate {t : Nat} {m k x : Operand} : oneStep P none ⟨d, .mapUpdate t m k x, ty, pos, aft, none⟩ K f w = resU ((Instr.mapUpdate t (ev f m) (ev f k) (ev f x)).run P w) K f d := rfl
theorem on_call {k : Nat} {as : Array Operand} {ts : Array TypeId} : oneStep P none ⟨d, .call { callee := .value (.func k), args := as, argTypes := ts }, ty, pos, aft, none⟩ K f w = CallF P k (as.toList.map (ev f)) w K f d := by
  simp [oneStep, pureV, memF, actV, ev, keepK]
theorem of_load {t : TypeId} {a : Operand} : oneStep P (some S) ⟨d, .load t a, ty, pos, aft, none⟩ K f w = stdP P S (Instr.loadAt t (ev f a)) K f d w := rfl
theorem of_lookup {t : Nat} {x i : Operand} {ok : Bool} : oneStep P (some S) ⟨d, .lookup t x i ok, ty, pos, aft, none⟩ K f w = stdP P S (Instr.lookup t (ev f x) (ev f i) ok) K f d w := rfl
theorem mf_convert {s t : Nat} {x : Operand} : memF P (some S) ⟨d, .convert s t x, ty, pos, aft, none⟩ K f w = stdP P S (convert s t (ev f x)) K f d w := rfl
theorem mf_bin {op : BinOp} {t t2 : TypeId} {x y : Operand} : memF P (some S) ⟨d, .binOp op t x y t2, ty, pos, aft, none⟩ K f w = stdP P S (do eqGuard op t x y (ev f x) (ev f y); binOp op t (ev f x) (ev f y)) K f d w := rfl
theorem of_buildSlice {t n : Nat} {ps : Array (Nat × Operand)} : oneStep P (some S) ⟨d, .buildSlice t n ps, ty, pos, aft, none⟩ K f w = resP ((Instr.buildSlice t n (ps.map fun p => (p.1, ev f p.2))).run P w) (keepS S K) f d := rfl
theorem of_alloc {t : Nat} : oneStep P (some S) ⟨d, .alloc t, ty, pos, aft, none⟩ K f w = resP ((Instr.alloc t true (.tuple #[])).run P w) (keepS S K) f d := rfl
theorem of_box {t : Nat} {x : Operand} : oneStep P (some S) ⟨d, .box t x, ty, pos, aft, none⟩ K f w = resP ((Instr.box t (ev f x)).run P w) (keepS S K) f d := rfl
theorem of_makeSlice {t : Nat} {x y : Operand} : oneStep P (some S) ⟨d, .makeSlice t x y, ty, pos, aft, none⟩ K f w = resP ((Instr.makeSlice t (ev f x) (ev f y)).run P w) (keepS S K) f d := rfl
theorem of_append {x y : Operand} {ts : Array TypeId} : oneStep P (some S) ⟨d, .call { callee := .builtin .append, args := #[x, y], argTypes := ts }, ty, pos, aft, none⟩ K f w = resP ((Builtin.append_ ts ty #[ev f x, ev f y]).run P w) (keepS S K) f d := by
  simp [oneStep, pureV, memF, actV, actF, flt]
theorem of_copy {x y : Operand} {ts : Array TypeId} : oneStep P (some S) ⟨d, .call { callee := .builtin .copy, args := #[x, y], argTypes := ts }, ty, pos, aft, none⟩ K f w = resP ((Builtin.copy_ ts ty #[ev f x, ev f y]).run P w) (keepS S K) f d := by
  simp [oneStep, pureV, memF, actV, actF, flt]
theorem of_store {t : Nat} {a x : Operand} : oneStep P (some S) ⟨d, .store t a x, ty, pos, aft, none⟩ K f w = resU ((Instr.storeAt t (ev f a) (ev f x)).run P w) (keepS S K) f d := rfl
theorem of_call {k : Nat} {as : Array Operand} {ts : Array TypeId} : oneStep P (some S) ⟨d, .call { callee := .value (.func k), args := as, argTypes := ts }, ty, pos, aft, none⟩ K f w = CallF P k (as.toList.map (ev f)) w (keepS S K) f d := by
  simp [oneStep, pureV, memF, actV, ev, keepK]
end
end
end Go.Proofs.Ytldmnnloakpjlaa
