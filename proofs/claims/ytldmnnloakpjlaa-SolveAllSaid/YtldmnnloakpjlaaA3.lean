/- The calculus of code: CW says by recursion on the code what it does; its soundness; the entry of a function. -/
import Derived.Test.YtldmnnloakpjlaaA2
namespace Go.Proofs.Ytldmnnloakpjlaa
open Go


/-! ### The front: an operation that touches memory is a named action -/
def actV (f : Fr) (o : Oper) : Option (Sem Value) := match o.op with
  | .load t a => some (Instr.loadAt t (ev f a))
  | .buildSlice t n parts => some (Instr.buildSlice t n (parts.map fun p => (p.1, ev f p.2)))
  | .alloc e => some (Instr.alloc e true (.tuple #[]))
  | .box e x => some (Instr.box e (ev f x))
  | .makeSlice t l c => some (Instr.makeSlice t (ev f l) (ev f c))
  | .binOp op t x y _ => some (do eqGuard op t x y (ev f x) (ev f y); binOp op t (ev f x) (ev f y))
  | .convert s d x => some (convert s d (ev f x))
  | .makeMap t r => some (Instr.makeMap t (r.map (ev f)))
  | .lookup t x i ok => some (Instr.lookup t (ev f x) (ev f i) ok)
  | .makeInterface t x => some (Instr.makeInterface t (ev f x))
  | .call c => match c.callee with
    | .builtin .append => some (Builtin.append_ c.argTypes o.type (c.args.map (ev f)))
    | .builtin .copy => some (Builtin.copy_ c.argTypes o.type (c.args.map (ev f)))
    | .builtin .clear => some (Builtin.clear_ c.argTypes o.type (c.args.map (ev f)))
    | .builtin .len => some (Builtin.len_ c.argTypes o.type (c.args.map (ev f)))
    | .builtin .delete => some (Builtin.delete_ c.argTypes o.type (c.args.map (ev f)))
    | _ => none
  | _ => none
/-- What follows an action that was run. -/
def resP (r : Result Value) (K : Fr → World → Prop) (f : Fr) (d : Option Nat) : Prop := match r with
  | .ok v w => K (updo f d v) w
  | _ => False
def resU (r : Result Unit) (K : Fr → World → Prop) (f : Fr) (d : Option Nat) : Prop := match r with
  | .ok _ w => K (updo f d undef) w
  | _ => False
/-- An action in a region that draws: one that only reads, one that acts. -/
def stdP (P : Program) (S : World → Prop) (s : Sem Value) (K : Fr → World → Prop) (f : Fr) (d : Option Nat) (w : World) : Prop :=
  ∃ v, (∀ w', S w' → s.run P w' = .ok v w') ∧ K (updo f d v) w
def keepS (S : World → Prop) (K : Fr → World → Prop) : Fr → World → Prop := fun f w => S w ∧ K f w
def actF (P : Program) (S : Option (World → Prop)) (fl : Bool) (s : Sem Value) (K : Fr → World → Prop) (f : Fr) (d : Option Nat) (w : World) : Prop :=
  match S with
  | none => resP (s.run P w) K f d
  | some S => if fl then stdP P S s K f d w else resP (s.run P w) (keepS S K) f d
def keepK (S : Option (World → Prop)) (K : Fr → World → Prop) : Fr → World → Prop :=
  match S with
  | none => K
  | some S => keepS S K
def hasBody (P : Program) (k : Nat) : Bool := match P.funcs[k]? with
  | some fn => fn.name != "runtime.NumGoroutine" && fn.body.isSome
  | none => false
def CallF (P : Program) (k : Nat) (args : List Value) (w : World) (K : Fr → World → Prop) (f : Fr) (d : Option Nat) : Prop :=
  (hasBody P k = true ∧ Calls P k args.toArray w fun e w' => ∃ v, e = .returned v ∧ K (updo f d v) w') ∨ ∃ v w', (callFunc k args.toArray).run P w = .ok (.value v) w' ∧ K (updo f d v) w'

def memF (P : Program) (S : Option (World → Prop)) (o : Oper) (K : Fr → World → Prop) (f : Fr) (w : World) : Prop :=
  match actV f o with
  | some s => actF P S (flt o.op) s K f o.dst w
  | none => match o.op with
    | .store t a x => resU ((Instr.storeAt t (ev f a) (ev f x)).run P w) (keepK S K) f o.dst
    | .mapUpdate t m k x => resU ((Instr.mapUpdate t (ev f m) (ev f k) (ev f x)).run P w) (keepK S K) f o.dst
    | .insert t m k x => resU ((Instr.mapUpdate t (ev f m) (ev f k) (ev f x)).run P w) (keepK S K) f o.dst
    | .call c => match c.callee with
      | .value g => match ev f g with
        | .func (.func k) first cap => CallF P k (first.toList ++ c.args.toList.map (ev f) ++ cap.toList) w (keepK S K) f o.dst
        | _ => False
      | _ => False
    | _ => match S with
      | none => stepS P o K f w
      | some S => if flt o.op then ∃ v, steady P S o f v ∧ K (updo f o.dst v) w else stepS P o (fun f' w' => S w' ∧ K f' w') f w

def oneStep (P : Program) (S : Option (World → Prop)) (o : Oper) (K : Fr → World → Prop) (f : Fr) (w : World) : Prop :=
  match pureV P f o.op with
  | some v => K (updo f o.dst v) w
  | none => memF P S o K f w

/-- Operations in a row. -/
def Rn (P : Program) (ops : Array Oper) : List Oper → (Fr → World → Prop) → Fr → World → Prop
  | [], K, f, w => K f w
  | o :: l, K, f, w => match o.guard with
    | none => oneStep P none o (Rn P ops l K) f w
    | some (j, b) => if gval ops f j = some b then oneStep P none o (Rn P ops l K) f w else Rn P ops l K (updo f o.dst undef) w
/-- Operations of a region that draws. -/
def RnF (P : Program) (ops : Array Oper) (S : World → Prop) : OrdT → (Fr → World → Prop) → Fr → World → Prop
  | .nil, K, f, w => K f w
  | .op i l, K, f, w =>
    match ops[i]? with
    | none => False
    | some o => match o.guard with
      | none => oneStep P (some S) o (RnF P ops S l K) f w
      | some (j, b) => if gval ops f j = some b then oneStep P (some S) o (RnF P ops S l K) f w else RnF P ops S l K (updo f o.dst undef) w
  | .fork rs k, K, f, w => ∀ i ∈ rs,
    match ops[i]? with
    | none => False
    | some o => match o.guard with
      | none => oneStep P (some S) o (RnF P ops S (k i) K) f w ∧ flt o.op = false
      | some (j, b) => if gval ops f j = some b then oneStep P (some S) o (RnF P ops S (k i) K) f w ∧ flt o.op = false else RnF P ops S (k i) K (updo f o.dst undef) w

section
variable {P : Program}
theorem callF_run {k : Nat} {args : List Value} {w : World} {K : Fr → World → Prop} {f : Fr} {d : Option Nat} (h : CallF P k args w K f d) :
    match (callFunc k args.toArray).run P w with
    | .ok (.value v) w' => K (updo f d v) w'
    | .ok (.enter g as) w' => Calls P g as w' fun e w'' => ∃ v, e = .returned v ∧ K (updo f d v) w''
    | _ => False := by
  rcases h with ⟨hb, h⟩ | ⟨v, w', hr, h⟩
  · unfold hasBody at hb
    cases hf : P.funcs[k]? with
    | none => simp [hf] at hb
    | some fn =>
      simp only [hf, Bool.and_eq_true, bne_iff_ne, ne_eq] at hb
      obtain ⟨hn, hbd⟩ := hb
      have hbn : fn.body.isNone = false := by cases hx : fn.body <;> simp [hx] at hbd ⊢
      have hne : (fn.name == "runtime.NumGoroutine") = false := by simpa using hn
      simp only [callFunc, program, Sem.run_bind, Sem.run, Result.andThen_ok, hf, hne, hbn, Bool.false_eq_true, if_false]
      exact h
  · rw [hr]; exact h

theorem call_step {d : Option Nat} {g : Operand} {args : Array Operand} {tys : Array TypeId} {ty : TypeId} {pos : String} {aft : Array Edge} {gd : Option (Nat × Bool)} {K : Fr → World → Prop} {f : Fr} {w : World}
    (h : match ev f g with
        | .func (.func k) first cap => CallF P k (first.toList ++ args.toList.map (ev f) ++ cap.toList) w K f d
        | _ => False) : stepS P ⟨d, .call ⟨.value g, args, tys⟩, ty, pos, aft, gd⟩ K f w := by
  cases hg : ev f g
  case func fn first cap =>
    cases fn
    case func k =>
      simp only [hg] at h
      have h2 := callF_run h
      unfold stepS
      have e : (execOp (ev f) ⟨d, .call ⟨.value g, args, tys⟩, ty, pos, aft, gd⟩).run P w = (callFunc k (first.toList ++ args.toList.map (ev f) ++ cap.toList).toArray).run P w := by
        simp only [execOp, resolve, hg, Deferred.ofValue, invoke, Sem.run_bind, Sem.run_pure, Result.andThen_ok]
        congr 2
        apply Array.ext'
        simp
      rw [e]
      generalize (callFunc k (first.toList ++ args.toList.map (ev f) ++ cap.toList).toArray).run P w = r at *
      cases r with
      | halt x w' => exact h2
      | ok n w' =>
        cases n
        case value v => exact h2
        case enter g as => exact h2
        all_goals exact h2.elim
    all_goals (simp only [hg] at h)
  all_goals (simp only [hg] at h)

theorem unit_step {o : Oper} {s : Sem Unit} {K : Fr → World → Prop} {f : Fr} {w : World} (he : execOp (ev f) o = (do s; pure .skip : Sem Next)) (h : resU (s.run P w) K f o.dst) : stepS P o K f w := by
  unfold stepS
  rw [he, Sem.run_bind]
  unfold resU at h
  cases hr : s.run P w with
  | ok u w' => rw [hr] at h; exact h
  | halt x w' => rw [hr] at h; exact h.elim
theorem value_step {o : Oper} {s : Sem Value} {K : Fr → World → Prop} {f : Fr} {w : World} (he : execOp (ev f) o = (do pure (.value (← s)) : Sem Next)) (h : resP (s.run P w) K f o.dst) : stepS P o K f w := by
  unfold stepS
  rw [he, Sem.run_bind]
  unfold resP at h
  cases hr : s.run P w with
  | ok u w' => rw [hr] at h; exact h
  | halt x w' => rw [hr] at h; exact h.elim

theorem stepS_of_one {o : Oper} {K : Fr → World → Prop} {f : Fr} {w : World} (h : oneStep P none o K f w) : stepS P o K f w := by
  unfold oneStep at h
  cases hp : pureV P f o.op with
  | some v =>
    simp only [hp] at h
    unfold stepS
    rw [pureV_sound hp]
    exact h
  | none =>
    simp only [hp] at h
    obtain ⟨d, op, ty, pos, aft, gd⟩ := o
    unfold memF actV at h
    cases op
    case call c =>
      obtain ⟨cal, args, tys⟩ := c
      cases cal
      case builtin b =>
        cases b
        case append => exact value_step rfl h
        case copy => exact value_step rfl h
        case clear => exact value_step rfl h
        case len => exact value_step rfl h
        case delete => exact value_step rfl h
        all_goals exact h.elim
      case value g => exact call_step h
      case invoke r m => exact h.elim
    case store t a x => exact unit_step rfl h
    case mapUpdate t m k x => exact unit_step rfl h
    case insert t m k x => exact unit_step rfl h
    all_goals first
      | exact value_step rfl h
      | exact h

theorem stepF_of_one {S : World → Prop} {o : Oper} {K : Fr → World → Prop} {f : Fr} {w : World} (h : oneStep P (some S) o K f w) (hS : S w) :
    if flt o.op then ∃ v, steady P S o f v ∧ K (updo f o.dst v) w else stepS P o (fun f' w' => S w' ∧ K f' w') f w := by
  unfold oneStep at h
  cases hp : pureV P f o.op with
  | some v =>
    simp only [hp] at h
    split
    · exact ⟨v, fun w' _ => pureV_sound hp w', h⟩
    · unfold stepS
      rw [pureV_sound hp]
      exact ⟨hS, h⟩
  | none =>
    simp only [hp] at h
    obtain ⟨d, op, ty, pos, aft, gd⟩ := o
    have lift : ∀ {s : Sem Value}, (execOp (ev f) ⟨d, op, ty, pos, aft, gd⟩) = (do pure (.value (← s)) : Sem Next) → actF P (some S) (flt op) s K f d w →
        if flt op then ∃ v, steady P S ⟨d, op, ty, pos, aft, gd⟩ f v ∧ K (updo f d v) w else stepS P ⟨d, op, ty, pos, aft, gd⟩ (fun f' w' => S w' ∧ K f' w') f w := by
      intro s he hs
      unfold actF at hs
      cases hfl : flt op with
      | true =>
        simp only [hfl, if_true] at hs
        obtain ⟨v, hr, hk⟩ := hs
        rw [if_pos rfl]
        refine ⟨v, fun w' hw' => ?_, hk⟩
        rw [he, Sem.run_bind, hr w' hw']; rfl
      | false =>
        simp only [hfl, Bool.false_eq_true, if_false] at hs
        rw [if_neg (by simp)]
        exact value_step he hs
    unfold memF actV at h
    cases op
    case call c =>
      obtain ⟨cal, args, tys⟩ := c
      cases cal
      case builtin b =>
        cases b
        case append => exact lift rfl h
        case copy => exact lift rfl h
        case clear => exact lift rfl h
        case len => exact lift rfl h
        case delete => exact lift rfl h
        all_goals exact h.elim
      case value g => exact call_step (K := keepS S K) h
      case invoke r m => exact h.elim
    case store t a x => exact unit_step (K := keepS S K) rfl h
    case mapUpdate t m k x => exact unit_step (K := keepS S K) rfl h
    case insert t m k x => exact unit_step (K := keepS S K) rfl h
    all_goals first
      | exact lift rfl h
      | exact h

theorem Run_of_Rn {ops : Array Oper} {K : Fr → World → Prop} : ∀ (l : List Oper) (f : Fr) (w : World), Rn P ops l K f w → Run P ops l K f w
  | [], f, w, h => h
  | o :: l, f, w, h => by
    unfold Rn at h
    unfold Run Region.wanted
    cases hg : o.guard with
    | none =>
      simp only [hg] at h
      simp only [if_true]
      exact stepS_mono (Run_of_Rn l) (stepS_of_one h)
    | some jb =>
      obtain ⟨j, b⟩ := jb
      simp only [hg] at h
      simp only [beq_iff_eq]
      split
      · rename_i hc; rw [if_pos hc] at h; exact stepS_mono (Run_of_Rn l) (stepS_of_one h)
      · rename_i hc; rw [if_neg hc] at h; exact Run_of_Rn l _ _ h

theorem RunF_mono {ops : Array Oper} {S : World → Prop} {K K' : Fr → World → Prop} (hk : ∀ f w, K f w → K' f w) : ∀ (l : OrdT) (f : Fr) (w : World), RunF P ops S l K f w → RunF P ops S l K' f w
  | .nil, f, w, h => hk _ _ h
  | .op i l, f, w, h => by
    unfold RunF at *
    cases ho : ops[i]? with
    | none => simp [ho] at h
    | some o =>
      simp only [ho] at h ⊢
      split
      · rename_i hw
        rw [if_pos hw] at h
        split
        · rename_i hf
          rw [if_pos hf] at h
          obtain ⟨v, h1, h2⟩ := h
          exact ⟨v, h1, RunF_mono hk l _ _ h2⟩
        · rename_i hf
          rw [if_neg hf] at h
          exact stepS_mono (fun f w hh => ⟨hh.1, RunF_mono hk l _ _ hh.2⟩) h
      · rename_i hw
        rw [if_neg hw] at h
        exact RunF_mono hk l _ _ h
  | .fork rs k, f, w, h => by
    unfold RunF at *
    intro i hi
    have h := h i hi
    cases ho : ops[i]? with
    | none => simp [ho] at h
    | some o =>
      simp only [ho] at h ⊢
      split
      · rename_i hw
        rw [if_pos hw] at h
        exact stepS_mono (fun f w hh => ⟨hh.1, RunF_mono hk (k i) _ _ hh.2⟩) h
      · rename_i hw
        rw [if_neg hw] at h
        exact RunF_mono hk (k i) _ _ h

theorem RunF_of_RnF {ops : Array Oper} {S : World → Prop} {K : Fr → World → Prop} : ∀ (l : OrdT) (f : Fr) (w : World), S w → RnF P ops S l K f w → RunF P ops S l K f w
  | .nil, f, w, _, h => h
  | .op i l, f, w, hS, h => by
    unfold RnF at h
    unfold RunF Region.wanted
    cases ho : ops[i]? with
    | none => simp [ho] at h
    | some o =>
      simp only [ho] at h ⊢
      have main : oneStep P (some S) o (RnF P ops S l K) f w → (if flt o.op then ∃ v, steady P S o f v ∧ RunF P ops S l K (updo f o.dst v) w else stepS P o (fun f' w' => S w' ∧ RunF P ops S l K f' w') f w) := by
        intro h1
        have h2 := stepF_of_one h1 hS
        split
        · rename_i hf
          rw [if_pos hf] at h2
          obtain ⟨v, h3, h4⟩ := h2
          exact ⟨v, h3, RunF_of_RnF l _ _ hS h4⟩
        · rename_i hf
          rw [if_neg hf] at h2
          exact stepS_mono (fun f w hh => ⟨hh.1, RunF_of_RnF l _ _ hh.1 hh.2⟩) h2
      cases hg : o.guard with
      | none =>
        simp only [hg] at h
        simp only [if_true]
        exact main h
      | some jb =>
        obtain ⟨j, b⟩ := jb
        simp only [hg] at h
        simp only [beq_iff_eq]
        split
        · rename_i hc; rw [if_pos hc] at h; exact main h
        · rename_i hc; rw [if_neg hc] at h; exact RunF_of_RnF l _ _ hS h
  | .fork rs k, f, w, hS, h => by
    unfold RnF at h
    unfold RunF Region.wanted
    intro i hi
    have h := h i hi
    cases ho : ops[i]? with
    | none => simp [ho] at h
    | some o =>
      simp only [ho] at h ⊢
      have main : oneStep P (some S) o (RnF P ops S (k i) K) f w ∧ flt o.op = false → stepS P o (fun f' w' => S w' ∧ RunF P ops S (k i) K f' w') f w := by
        rintro ⟨h1, hf⟩
        have h2 := stepF_of_one h1 hS
        rw [if_neg (by simp [hf])] at h2
        exact stepS_mono (fun f w hh => ⟨hh.1, RunF_of_RnF (k i) _ _ hh.1 hh.2⟩) h2
      cases hg : o.guard with
      | none =>
        simp only [hg] at h
        simp only [if_true]
        exact main h
      | some jb =>
        obtain ⟨j, b⟩ := jb
        simp only [hg] at h
        simp only [beq_iff_eq]
        split
        · rename_i hc; rw [if_pos hc] at h; exact main h
        · rename_i hc; rw [if_neg hc] at h; exact RunF_of_RnF (k i) _ _ hS h
end

def thenF (K : Fr → World → Prop) (Q : Exit → Fr → World → Prop) : Exit → Fr → World → Prop
  | .normal, f, w => K f w
  | e, f, w => Q e f w
def blockF (id : Nat) (Q : Exit → Fr → World → Prop) : Exit → Fr → World → Prop
  | .exit id', f, w => if id' = id then Q .normal f w else Q (.exit id') f w
  | e, f, w => Q e f w
def condF (v : Value) (A B : Fr → World → Prop) (f : Fr) (w : World) : Prop :=
  match v with
  | .bool true => A f w
  | .bool false => B f w
  | _ => False
def LoopF (B : (Exit → Fr → World → Prop) → Fr → World → Prop) (Q : Exit → Fr → World → Prop) (f : Fr) (w : World) : Prop :=
  ∃ (σ : Type) (I : σ → Fr → World → Prop) (m : σ → Nat) (s0 : σ), I s0 f w ∧
    ∀ s f' w', I s f' w' → B (thenF (fun f'' w'' => ∃ s', m s' < m s ∧ I s' f'' w'') Q) f' w'
def Draw (P : Program) (ops : Array Oper) (K : Fr → World → Prop) (f : Fr) (w : World) : Prop :=
  ∃ (S : World → Prop) (n : Nat) (ord : OrdT), regOk ops n ord = true ∧ S w.drew ∧ RnF P ops S ord (Rn P ops (ops.toList.drop n) K) f w.drew

def CW (P : Program) : Code → (Exit → Fr → World → Prop) → Fr → World → Prop
  | .skip, Q, f, w => Q .normal f w
  | .seq a b, Q, f, w => CW P a (thenF (CW P b Q) Q) f w
  | .cond c a b, Q, f, w => condF (ev f c) (CW P a Q) (CW P b Q) f w
  | .block id a, Q, f, w => CW P a (blockF id Q) f w
  | .loop a, Q, f, w => LoopF (CW P a) Q f w
  | .region _ ops d, Q, f, w => if d then Draw P ops (Q .normal) f w else Rn P ops ops.toList (Q .normal) f w
  | .exit id, Q, f, w => Q (.exit id) f w
  | .label _, Q, f, w => Q .normal f w
  | .ret, Q, f, w => Q .ret f w
  | _, _, _, _ => False

def codeOk (N : Nat) : Code → Bool
  | .seq a b => codeOk N a && codeOk N b
  | .cond _ a b => codeOk N a && codeOk N b
  | .block _ a => codeOk N a
  | .loop a => codeOk N a
  | .region _ ops _ => dstsOk N ops
  | _ => true

/-- No exit by a panic is let. -/
def calm (Q : Exit → Fr → World → Prop) : Prop := ∀ c f w, ¬ Q (.panic c) f w
theorem calm_then {K : Fr → World → Prop} {Q : Exit → Fr → World → Prop} (h : calm Q) : calm (thenF K Q) := fun c f w => h c f w
theorem calm_block {id : Nat} {Q : Exit → Fr → World → Prop} (h : calm Q) : calm (blockF id Q) := fun c f w => h c f w

theorem wp_loop_ix {P : Program} {Q : Exit → Act → World → Prop} {a : Act} {w : World} {c : Code} {σ : Type} (I : σ → Act → World → Prop) (m : σ → Nat) (s0 : σ) (h₀ : I s0 a w)
    (round : ∀ s a w, I s a w → c.wp P (Exit.then (fun a' w' => ∃ s', m s' < m s ∧ I s' a' w') Q) a w) : (Code.loop c).wp P Q a w := by
  intro b k cs
  have key : ∀ n s a w, m s = n → I s a w →
      ∃ e a' w', Q e a' w' ∧ Arrives P (lone (b.at a (.code c :: .inLoop c :: k)) cs w) b k cs e a' w' := by
    intro n
    induction n using Nat.strongRecOn with
    | _ n ih =>
      intro s a w hn hI
      obtain ⟨e, a₁, w₁, hq, harr⟩ := round s a w hI b (.inLoop c :: k) cs
      cases e with
      | normal =>
        obtain ⟨s', hlt, hI₁⟩ := hq
        obtain ⟨e₂, a₂, w₂, hq₂, harr₂⟩ := ih (m s') (hn ▸ hlt) s' a₁ w₁ rfl hI₁
        exact ⟨e₂, a₂, w₂, hq₂, .of_steps (Steps.trans harr (.one step_inLoop)) harr₂⟩
      | exit id => exact ⟨_, a₁, w₁, hq, .pass (x := .inLoop c) rfl (fun _ _ => .inl (by simp)) harr⟩
      | goto l => exact ⟨_, a₁, w₁, hq, .pass (x := .inLoop c) rfl (fun _ _ => .inl (by simp)) harr⟩
      | ret => exact ⟨_, a₁, w₁, hq, .pass (x := .inLoop c) rfl (fun _ _ => .inl (by simp)) harr⟩
      | panic ch => exact ⟨_, a₁, w₁, hq, .pass (x := .inLoop c) rfl (fun _ _ => .inl (by simp)) harr⟩
      | outgrown => exact ⟨_, a₁, w₁, hq, .pass (x := .inLoop c) rfl (fun _ _ => .inl (by simp)) harr⟩
  obtain ⟨e, a', w', hq, harr⟩ := key _ s0 a w rfl h₀
  exact ⟨e, a', w', hq, .of_steps (.one step_loop) harr⟩

theorem CW_sound {P : Program} {N : Nat} (hm : P.follows .mixedOrders = true) : ∀ (c : Code) (Q : Exit → Fr → World → Prop) (a : Act) (w : World), calm Q → codeOk N c = true →
    a.tmps.size = N → a.defers = [] → CW P c Q (frOf a) w → c.wp P (lft N Q) a w := by
  intro c
  induction c with
  | skip => intro Q a w _ _ hn hd h; exact wp_skip ⟨hn, hd, h⟩
  | seq x y ihx ihy =>
    intro Q a w hQ hok hn hd h
    simp only [codeOk, Bool.and_eq_true] at hok
    refine wp_seq (wp_mono (ihx _ a w (calm_then hQ) hok.1 hn hd h) ?_)
    intro e a' w' hq
    cases e
    case normal => exact ihy _ a' w' hQ hok.2 hq.1 hq.2.1 hq.2.2
    all_goals exact hq
  | cond v x y ihx ihy =>
    intro Q a w hQ hok hn hd h
    simp only [codeOk, Bool.and_eq_true] at hok
    simp only [CW] at h
    unfold condF at h
    have he : a.eval v = ev (frOf a) v := by rw [ev_frOf]
    generalize hv : ev (frOf a) v = u at h
    cases u
    case bool t =>
      cases t
      case true => exact wp_cond_true (by rw [he, hv]) (ihx _ a w hQ hok.1 hn hd h)
      case false => exact wp_cond_false (by rw [he, hv]) (ihy _ a w hQ hok.2 hn hd h)
    all_goals exact h.elim
  | block id x ih =>
    intro Q a w hQ hok hn hd h
    refine wp_block (wp_mono (ih _ a w (calm_block hQ) hok hn hd h) ?_)
    intro e a' w' hq
    cases e
    case exit id' =>
      simp only [Exit.inBlock]
      simp only [lft, blockF] at hq
      split
      · rename_i hid; rw [if_pos hid] at hq; exact hq
      · rename_i hid; rw [if_neg hid] at hq; exact hq
    all_goals exact hq
  | loop x ih =>
    intro Q a w hQ hok hn hd h
    obtain ⟨σ, I, m, s0, h0, hr⟩ := h
    refine wp_loop_ix (fun s a w => a.tmps.size = N ∧ a.defers = [] ∧ I s (frOf a) w) m s0 ⟨hn, hd, h0⟩ ?_
    rintro s a' w' ⟨hn', hd', hI⟩
    refine wp_mono (ih _ a' w' (calm_then hQ) hok hn' hd' (hr s _ w' hI)) ?_
    intro e a'' w'' hq
    cases e
    case normal =>
      obtain ⟨h1, h2, s', h3, h4⟩ := hq
      exact ⟨s', h3, h1, h2, h4⟩
    all_goals exact hq
  | region id ops d =>
    intro Q a w hQ hok hn hd h
    cases d
    case false =>
      simp only [CW, Bool.false_eq_true, if_false] at h
      exact wp_region_list (wpList_of_Run _ a w (fun o ho => Array.all_eq_true'.1 hok o (by simpa using ho)) hn hd (Run_of_Rn _ _ _ h))
    case true =>
      simp only [CW, if_true] at h
      obtain ⟨S, n, ord, h1, h3, h4⟩ := h
      exact wp_region_RunF hm hQ h1 hok hn hd h3 (RunF_mono (fun f w hh => Run_of_Rn _ f w hh) _ _ _ (RunF_of_RnF _ _ _ h3 h4))
  | exit id => intro Q a w _ _ hn hd h; exact wp_exit ⟨hn, hd, h⟩
  | label l => intro Q a w _ _ hn hd h; exact wp_label ⟨hn, hd, h⟩
  | ret => intro Q a w _ _ hn hd h; exact wp_ret ⟨hn, hd, h⟩
  | _ => intro Q a w _ _ _ _ h; exact h.elim

/-! ### The entry of a function, its results -/
def argF (args : List Value) : Fr := fun i => args.getD i undef
def argU : Nat → List Value → Fr
  | _, [] => fun _ => undef
  | k, v :: vs => upd (argU (k + 1) vs) k v
theorem argU_at : ∀ (vs : List Value) (k i : Nat), argU k vs (k + i) = vs.getD i undef
  | [], _, _ => by simp [argU]
  | v :: vs, k, 0 => by simp [argU, upd]
  | v :: vs, k, i + 1 => by
    have := argU_at vs (k + 1) i
    simp only [argU, upd]
    rw [if_neg (by omega), show k + (i + 1) = k + 1 + i by omega, this]
    simp
theorem argF_U (args : List Value) : argF args = argU 0 args := by
  funext i
  have := argU_at args 0 i
  simp only [Nat.zero_add] at this
  rw [this]; rfl

def resOne (P : Program) (w : World) (f : Fr) : ResultVar → Value → Prop
  | .tmp t, v => v = f t
  | .cell a ty, v => (do loadVar ty (← asAddr (f a)) : Sem Value).run P w = .ok v w
def resAll (P : Program) (w : World) (f : Fr) : List ResultVar → List Value → Prop
  | [], [] => True
  | r :: rs, v :: vs => resOne P w f r v ∧ resAll P w f rs vs
  | _, _ => False
def tupled : List Value → Value
  | [v] => v
  | vs => .tuple vs.toArray
def RetQ (P : Program) (fn : Func) (R : Value → World → Prop) : Exit → Fr → World → Prop
  | .normal, f, w => ∃ vs, resAll P w f fn.results.toList vs ∧ R (tupled vs) w
  | .ret, f, w => ∃ vs, resAll P w f fn.results.toList vs ∧ R (tupled vs) w
  | _, _, _ => False

theorem resAll_run {P : Program} {w : World} {a : Act} : ∀ (rs : List ResultVar) (vs : List Value), resAll P w (frOf a) rs vs →
    (rs.mapM (m := Sem) fun
      | .tmp t => pure (a.tmps.getD t undef)
      | .cell x t => do loadVar t (← asAddr (a.tmps.getD x undef))).run P w = .ok vs w
  | [], [], _ => by simp
  | [], _ :: _, h => h.elim
  | _ :: _, [], h => h.elim
  | r :: rs, v :: vs, h => by
    have ih := resAll_run rs vs h.2
    have h1 := h.1
    cases r with
    | tmp t =>
      simp only [resOne, frOf] at h1
      subst h1
      simp only [List.mapM_cons, Sem.run_bind, Sem.run_pure, Result.andThen_ok, ih]
    | cell x t =>
      simp only [resOne, frOf] at h1
      simp only [List.mapM_cons]
      rw [Sem.run_bind, h1]
      simp only [Sem.run_bind, Sem.run_pure, Result.andThen_ok, ih]

theorem results_run {P : Program} {fn : Func} {w : World} {a : Act} {vs : List Value} (h : resAll P w (frOf a) fn.results.toList vs) :
    (results fn a.tmps).run P w = .ok (tupled vs) w := by
  have h1 := resAll_run _ _ h
  unfold results
  rw [Array.mapM_eq_mapM_toList]
  simp only [Sem.run_bind, Sem.run_map]
  erw [h1]
  simp only [Result.andThen_ok, Sem.run_pure]
  congr 1
  match vs with
  | [] => simp [tupled]
  | [v] => simp [tupled]
  | v :: u :: vs => simp [tupled]

theorem calls_of_CW {P : Program} {k : FuncId} {fn : Func} {c : Code} {args : List Value} {w : World} {R : Value → World → Prop} (hm : P.follows .mixedOrders = true)
    (hf : P.funcs[k]? = some fn) (hb : fn.body = some c) (hok : codeOk fn.ntmps c = true) (hargs : args.length ≤ fn.ntmps)
    (h : CW P c (RetQ P fn R) (argU 0 args) w) : Calls P k args.toArray w (fun e w' => ∃ v, e = .returned v ∧ R v w') := by
  rw [← argF_U] at h
  refine calls_of_wp hf hb ?_
  have hfr : frOf { tmps := args.toArray ++ Array.replicate (fn.ntmps - args.toArray.size) undef, defers := [] } = argF args := by
    funext i
    simp only [frOf, argF, Array.getD_eq_getD_getElem?, List.getD_eq_getElem?_getD]
    by_cases hi : i < args.length
    · rw [Array.getElem?_append_left (by simpa using hi)]
      simp
    · rw [Array.getElem?_append_right (by simp; omega)]
      rw [List.getElem?_eq_none (by omega)]
      by_cases h2 : i - args.length < fn.ntmps - args.length
      · simp [h2]
      · simp [h2]
  have := CW_sound (N := fn.ntmps) hm c (RetQ P fn R) { tmps := args.toArray ++ Array.replicate (fn.ntmps - args.toArray.size) undef, defers := [] } w
    (fun c f w hh => hh) hok (by simp; omega) rfl (by rw [hfr]; exact h)
  refine wp_mono this ?_
  intro e a' w' hq
  cases e
  case normal =>
    obtain ⟨_, hd, vs, hv, hR⟩ := hq
    exact ⟨hd, _, results_run hv, _, rfl, hR⟩
  case ret =>
    obtain ⟨_, hd, vs, hv, hR⟩ := hq
    exact ⟨hd, _, results_run hv, _, rfl, hR⟩
  all_goals exact hq.2.2.elim

theorem retq1 {P : Program} {fn : Func} {R : Value → World → Prop} {f : Fr} {w : World} {t : Nat} (h : fn.results = #[.tmp t]) (hR : R (f t) w) : RetQ P fn R .ret f w :=
  ⟨[f t], by rw [h]; exact ⟨rfl, trivial⟩, hR⟩
theorem retq2 {P : Program} {fn : Func} {R : Value → World → Prop} {f : Fr} {w : World} {t u : Nat} (h : fn.results = #[.tmp t, .tmp u]) (hR : R (.tuple #[f t, f u]) w) : RetQ P fn R .ret f w :=
  ⟨[f t, f u], by rw [h]; exact ⟨rfl, rfl, trivial⟩, hR⟩
theorem retq0 {P : Program} {fn : Func} {R : Value → World → Prop} {f : Fr} {w : World} (h : fn.results = #[]) (hR : R (.tuple #[]) w) : RetQ P fn R .ret f w :=
  ⟨[], by rw [h]; exact trivial, hR⟩
theorem retn0 {P : Program} {fn : Func} {R : Value → World → Prop} {f : Fr} {w : World} (h : fn.results = #[]) (hR : R (.tuple #[]) w) : RetQ P fn R .normal f w :=
  ⟨[], by rw [h]; exact trivial, hR⟩
end Go.Proofs.Ytldmnnloakpjlaa
