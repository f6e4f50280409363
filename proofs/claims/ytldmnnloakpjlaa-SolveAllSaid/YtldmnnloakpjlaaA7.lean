/- Slots that a stretch of code does not write; the rule for loops; the rules for calls and for regions that draw. -/
import Derived.Test.YtldmnnloakpjlaaA6
namespace Go.Proofs.Ytldmnnloakpjlaa
open Go

def dsts (ops : Array Oper) : List Nat := ops.toList.filterMap (·.dst)
def wrC : Code → List Nat
  | .seq a b => wrC a ++ wrC b
  | .cond _ a b => wrC a ++ wrC b
  | .block _ a => wrC a
  | .loop a => wrC a
  | .region _ ops _ => dsts ops
  | _ => []

section
variable {P : Program}
theorem resP_mono {r : Result Value} {K K' : Fr → World → Prop} {f : Fr} {d : Option Nat} (h : ∀ v w, K (updo f d v) w → K' (updo f d v) w) (hr : resP r K f d) : resP r K' f d := by
  cases r with
  | ok v w => exact h _ _ hr
  | halt x w => exact hr.elim
theorem resU_mono {r : Result Unit} {K K' : Fr → World → Prop} {f : Fr} {d : Option Nat} (h : ∀ v w, K (updo f d v) w → K' (updo f d v) w) (hr : resU r K f d) : resU r K' f d := by
  cases r with
  | ok v w => exact h _ _ hr
  | halt x w => exact hr.elim
theorem CallF_mono {k : Nat} {args : List Value} {w : World} {K K' : Fr → World → Prop} {f : Fr} {d : Option Nat} (h : ∀ v w, K (updo f d v) w → K' (updo f d v) w) (hr : CallF P k args w K f d) : CallF P k args w K' f d := by
  rcases hr with ⟨hb, hc⟩ | ⟨v, w', h1, h2⟩
  · exact .inl ⟨hb, hc.mono fun e w' ⟨v, he, hk⟩ => ⟨v, he, h _ _ hk⟩⟩
  · exact .inr ⟨v, w', h1, h _ _ h2⟩
theorem stepS_mono' {o : Oper} {K K' : Fr → World → Prop} {f : Fr} {w : World} (h : ∀ v w, K (updo f o.dst v) w → K' (updo f o.dst v) w) (hs : stepS P o K f w) : stepS P o K' f w := by
  unfold stepS at *
  generalize (execOp (ev f) o).run P w = r at *
  cases r with
  | halt x w' => exact hs
  | ok n w' =>
    cases n
    case value v => exact h _ _ hs
    case skip => exact h _ _ hs
    case enter g args => exact Calls.mono hs fun e w'' ⟨v, he, hk⟩ => ⟨v, he, h _ _ hk⟩
    all_goals exact hs
theorem keepK_mono {S : Option (World → Prop)} {K K' : Fr → World → Prop} {f : Fr} {d : Option Nat} (h : ∀ v w, K (updo f d v) w → K' (updo f d v) w) : ∀ v w, keepK S K (updo f d v) w → keepK S K' (updo f d v) w := by
  intro v w hk
  cases S with
  | none => exact h _ _ hk
  | some S => exact ⟨hk.1, h _ _ hk.2⟩
theorem actF_mono {S : Option (World → Prop)} {fl : Bool} {s : Sem Value} {K K' : Fr → World → Prop} {f : Fr} {d : Option Nat} {w : World} (h : ∀ v w, K (updo f d v) w → K' (updo f d v) w) (hr : actF P S fl s K f d w) : actF P S fl s K' f d w := by
  unfold actF at *
  cases S with
  | none => exact resP_mono h hr
  | some S =>
    cases fl with
    | true =>
      simp only [if_true] at hr ⊢
      obtain ⟨v, h1, h2⟩ := hr
      exact ⟨v, h1, h _ _ h2⟩
    | false =>
      simp only [Bool.false_eq_true, if_false] at hr ⊢
      exact resP_mono (fun v w hk => ⟨hk.1, h _ _ hk.2⟩) hr
theorem oneStep_mono {S : Option (World → Prop)} {o : Oper} {K K' : Fr → World → Prop} {f : Fr} {w : World} (h : ∀ v w, K (updo f o.dst v) w → K' (updo f o.dst v) w) (hs : oneStep P S o K f w) : oneStep P S o K' f w := by
  unfold oneStep at *
  split
  · rename_i v hv; simp only [hv] at hs; exact h _ _ hs
  · rename_i hv
    simp only [hv] at hs
    unfold memF at *
    split
    · rename_i s hs'; simp only [hs'] at hs; exact actF_mono h hs
    · rename_i hs'
      simp only [hs'] at hs
      obtain ⟨d, op, ty, pos, aft, gd⟩ := o
      cases op
      case store => exact resU_mono (keepK_mono h) hs
      case mapUpdate => exact resU_mono (keepK_mono h) hs
      case insert => exact resU_mono (keepK_mono h) hs
      case call c =>
        obtain ⟨cal, args, tys⟩ := c
        cases cal
        case value g =>
          simp only at hs ⊢
          cases hg : ev f g
          case func fn first cap =>
            cases fn
            case func k => simp only [hg] at hs ⊢; exact CallF_mono (keepK_mono h) hs
            all_goals (simp only [hg] at hs)
          all_goals (simp only [hg] at hs)
        all_goals exact hs
      all_goals
        cases S with
        | none => exact stepS_mono' h hs
        | some S =>
          simp only at hs ⊢
          split
          · rename_i hf; rw [if_pos hf] at hs; obtain ⟨v, h1, h2⟩ := hs; exact ⟨v, h1, h _ _ h2⟩
          · rename_i hf; rw [if_neg hf] at hs; exact stepS_mono' (fun v w hk => ⟨hk.1, h _ _ hk.2⟩) hs

theorem updo_frame {f : Fr} {d : Option Nat} {v : Value} {i : Nat} (h : ∀ k, d = some k → i ≠ k) : updo f d v i = f i := by
  cases d with
  | none => rfl
  | some k => simp [updo, upd, h k rfl]

theorem Rn_fr {ops : Array Oper} {K K' : Fr → World → Prop} : ∀ (l : List Oper) (f : Fr) (w : World), (∀ f' w', (∀ i, i ∉ l.filterMap (·.dst) → f' i = f i) → K f' w' → K' f' w') → Rn P ops l K f w → Rn P ops l K' f w
  | [], f, w, h, hr => h _ _ (fun _ _ => rfl) hr
  | o :: l, f, w, h, hr => by
    have key : ∀ v w', Rn P ops l K (updo f o.dst v) w' → Rn P ops l K' (updo f o.dst v) w' := fun v w' hk =>
      Rn_fr l _ _ (fun f' w'' hf hk' => h _ _ (fun i hi => by
        have h1 : i ∉ l.filterMap (·.dst) := fun hm => hi (List.mem_filterMap.2 (let ⟨a, ha, hd⟩ := List.mem_filterMap.1 hm; ⟨a, List.mem_cons_of_mem _ ha, hd⟩))
        rw [hf i h1]
        exact updo_frame fun k hk e => hi (by subst e; exact List.mem_filterMap.2 ⟨o, by simp, hk⟩)) hk') hk
    unfold Rn at hr ⊢
    split
    · rename_i hg; simp only [hg] at hr; exact oneStep_mono key hr
    · rename_i j b hg
      simp only [hg] at hr
      split
      · rename_i hc; rw [if_pos hc] at hr; exact oneStep_mono key hr
      · rename_i hc; rw [if_neg hc] at hr; exact key _ _ hr

theorem mem_dsts {ops : Array Oper} {i : Nat} {o : Oper} {k : Nat} (ho : ops[i]? = some o) (hd : o.dst = some k) : k ∈ dsts ops :=
  List.mem_filterMap.2 ⟨o, by have := Array.mem_of_getElem? ho; simpa using this, hd⟩

theorem RnF_fr {ops : Array Oper} {S : World → Prop} {K K' : Fr → World → Prop} : ∀ (l : OrdT) (f : Fr) (w : World), (∀ f' w', (∀ i, i ∉ dsts ops → f' i = f i) → K f' w' → K' f' w') → RnF P ops S l K f w → RnF P ops S l K' f w
  | .nil, f, w, h, hr => h _ _ (fun _ _ => rfl) hr
  | .op i l, f, w, h, hr => by
    unfold RnF at hr ⊢
    cases ho : ops[i]? with
    | none => simp [ho] at hr
    | some o =>
      simp only [ho] at hr ⊢
      have key : ∀ v w', RnF P ops S l K (updo f o.dst v) w' → RnF P ops S l K' (updo f o.dst v) w' := fun v w' hk =>
        RnF_fr l _ _ (fun f' w'' hf hk' => h _ _ (fun j hj => by
          rw [hf j hj]
          exact updo_frame fun k hk e => hj (by subst e; exact mem_dsts ho hk)) hk') hk
      split
      · rename_i hg; simp only [hg] at hr; exact oneStep_mono key hr
      · rename_i j b hg
        simp only [hg] at hr
        split
        · rename_i hc; rw [if_pos hc] at hr; exact oneStep_mono key hr
        · rename_i hc; rw [if_neg hc] at hr; exact key _ _ hr
  | .fork rs k, f, w, h, hr => by
    unfold RnF at hr ⊢
    intro i hi
    have hr := hr i hi
    cases ho : ops[i]? with
    | none => simp [ho] at hr
    | some o =>
      simp only [ho] at hr ⊢
      have key : ∀ v w', RnF P ops S (k i) K (updo f o.dst v) w' → RnF P ops S (k i) K' (updo f o.dst v) w' := fun v w' hk =>
        RnF_fr (k i) _ _ (fun f' w'' hf hk' => h _ _ (fun j hj => by
          rw [hf j hj]
          exact updo_frame fun k hk e => hj (by subst e; exact mem_dsts ho hk)) hk') hk
      split
      · rename_i hg; simp only [hg] at hr; exact ⟨oneStep_mono key hr.1, hr.2⟩
      · rename_i j b hg
        simp only [hg] at hr
        split
        · rename_i hc; rw [if_pos hc] at hr; exact ⟨oneStep_mono key hr.1, hr.2⟩
        · rename_i hc; rw [if_neg hc] at hr; exact key _ _ hr

theorem CW_fr : ∀ (c : Code) (Q Q' : Exit → Fr → World → Prop) (f : Fr) (w : World), (∀ e f' w', (∀ i, i ∉ wrC c → f' i = f i) → Q e f' w' → Q' e f' w') → CW P c Q f w → CW P c Q' f w := by
  intro c
  induction c with
  | skip => intro Q Q' f w h hc; exact h _ _ _ (fun _ _ => rfl) hc
  | seq a b iha ihb =>
    intro Q Q' f w h hc
    refine iha _ _ _ _ ?_ hc
    intro e f' w' hf hq
    cases e
    case normal =>
      refine ihb _ _ _ _ ?_ hq
      intro e2 f2 w2 hf2 hq2
      exact h _ _ _ (fun i hi => by
        simp only [wrC, List.mem_append, not_or] at hi
        rw [hf2 i hi.2, hf i hi.1]) hq2
    all_goals exact h _ _ _ (fun i hi => by
        simp only [wrC, List.mem_append, not_or] at hi
        exact hf i hi.1) hq
  | cond v a b iha ihb =>
    intro Q Q' f w h hc
    simp only [CW] at hc ⊢
    unfold condF at *
    split
    · rename_i hv; simp only [hv] at hc
      exact iha _ _ _ _ (fun e f' w' hf hq => h _ _ _ (fun i hi => by simp only [wrC, List.mem_append, not_or] at hi; exact hf i hi.1) hq) hc
    · rename_i hv; simp only [hv] at hc
      exact ihb _ _ _ _ (fun e f' w' hf hq => h _ _ _ (fun i hi => by simp only [wrC, List.mem_append, not_or] at hi; exact hf i hi.2) hq) hc
    · rename_i h1 h2
      split at hc
      · rename_i hv; exact absurd hv h1
      · rename_i hv; exact absurd hv h2
      · exact hc
  | block id a ih =>
    intro Q Q' f w h hc
    refine ih _ _ _ _ ?_ hc
    intro e f' w' hf hq
    cases e
    case exit id' =>
      simp only [blockF] at hq ⊢
      split
      · rename_i hid; rw [if_pos hid] at hq; exact h _ _ _ hf hq
      · rename_i hid; rw [if_neg hid] at hq; exact h _ _ _ hf hq
    all_goals exact h _ _ _ hf hq
  | loop a ih =>
    intro Q Q' f w h hc
    obtain ⟨σ, I, m, s0, h0, hr⟩ := hc
    refine ⟨σ, fun s f' w' => I s f' w' ∧ ∀ i, i ∉ wrC a → f' i = f i, m, s0, ⟨h0, fun _ _ => rfl⟩, ?_⟩
    rintro s f' w' ⟨hI, hfr⟩
    refine ih _ _ _ _ ?_ (hr s f' w' hI)
    intro e f2 w2 hf2 hq
    cases e
    case normal =>
      obtain ⟨s', h1, h2⟩ := hq
      exact ⟨s', h1, h2, fun i hi => by rw [hf2 i hi, hfr i hi]⟩
    all_goals exact h _ _ _ (fun i hi => by rw [hf2 i hi, hfr i hi]) hq
  | region id ops d =>
    intro Q Q' f w h hc
    cases d
    case false => exact Rn_fr _ _ _ (fun f' w' hf hq => h _ _ _ hf hq) hc
    case true =>
      obtain ⟨S, n, ord, h1, h3, h4⟩ := hc
      refine ⟨S, n, ord, h1, h3, ?_⟩
      refine RnF_fr ord _ _ ?_ h4
      intro f' w' hf hq
      refine Rn_fr _ _ _ ?_ hq
      intro f2 w2 hf2 hq2
      exact h _ _ _ (fun i hi => by
        rw [hf2 i, hf i hi]
        intro hm
        obtain ⟨o, ho, hd⟩ := List.mem_filterMap.1 hm
        exact hi (List.mem_filterMap.2 ⟨o, List.mem_of_mem_drop ho, hd⟩)) hq2
  | exit id => intro Q Q' f w h hc; exact h _ _ _ (fun _ _ => rfl) hc
  | label l => intro Q Q' f w h hc; exact h _ _ _ (fun _ _ => rfl) hc
  | ret => intro Q Q' f w h hc; exact h _ _ _ (fun _ _ => rfl) hc
  | _ => intro Q Q' f w _ hc; exact hc

/-- A loop: the relation I holds at each round's head, m goes down; the slots 'keep' are not written in it. -/
theorem loop_rule {c : Code} {Q : Exit → Fr → World → Prop} {f : Fr} {w : World} {σ : Type} (keep : List Nat) (I : σ → Fr → World → Prop) (m : σ → Nat) (s0 : σ)
    (hk : keep.all (fun i => !(wrC c).contains i) = true) (h0 : I s0 f w)
    (hr : ∀ s f' w', (∀ i ∈ keep, f' i = f i) → I s f' w' → CW P c (thenF (fun f'' w'' => ∃ s', m s' < m s ∧ I s' f'' w'') Q) f' w') : LoopF (CW P c) Q f w := by
  have hk' : ∀ i ∈ keep, i ∉ wrC c := by
    intro i hi hm
    have := List.all_eq_true.1 hk i hi
    simp [hm] at this
  refine ⟨σ, fun s f' w' => I s f' w' ∧ ∀ i ∈ keep, f' i = f i, m, s0, ⟨h0, fun _ _ => rfl⟩, ?_⟩
  rintro s f' w' ⟨hI, hfr⟩
  refine CW_fr c _ _ _ _ ?_ (hr s f' w' hfr hI)
  intro e f2 w2 hf2 hq
  cases e
  case normal =>
    obtain ⟨s', h1, h2⟩ := hq
    exact ⟨s', h1, h2, fun i hi => by rw [hf2 i (hk' i hi), hfr i hi]⟩
  all_goals exact hq

/-- A call, by the callee's contract. -/
theorem callP {k : Nat} {args : List Value} {w : World} {K : Fr → World → Prop} {f : Fr} {d : Option Nat} {R : Value → World → Prop} (hb : hasBody P k = true)
    (h : Calls P k args.toArray w fun e w' => ∃ v, e = .returned v ∧ R v w') (hk : ∀ v w', R v w' → K (updo f d v) w') : CallF P k args w K f d :=
  .inl ⟨hb, h.mono fun _ _ ⟨v, he, hr⟩ => ⟨v, he, hk _ _ hr⟩⟩

theorem drawR {ops : Array Oper} {K : Fr → World → Prop} {f : Fr} {w : World} (S : World → Prop) (n : Nat) (ord : OrdT) (hok : regOk ops n ord = true) (hS : S w.drew)
    (h : RnF P ops S ord (Rn P ops (ops.toList.drop n) K) f w.drew) : Draw P ops K f w := ⟨S, n, ord, hok, hS, h⟩
/-- The same with a relation between head and tail. -/
theorem drawC {ops : Array Oper} {K : Fr → World → Prop} {f : Fr} {w : World} (keep : List Nat) (S : World → Prop) (n : Nat) (ord : OrdT) (I : Fr → World → Prop) (hok : regOk ops n ord = true) (hkp : keep.all (fun i => !(dsts ops).contains i) = true) (hS : S w.drew)
    (h : RnF P ops S ord I f w.drew) (hk : ∀ f' w', (∀ i ∈ keep, f' i = f i) → I f' w' → Rn P ops (ops.toList.drop n) K f' w') : Draw P ops K f w := by
  refine ⟨S, n, ord, hok, hS, RnF_fr ord _ _ (fun f' w' hf hi => hk f' w' (fun i hi' => hf i ?_) hi) h⟩
  have := List.all_eq_true.1 hkp i hi'
  intro hm
  simp [hm] at this
theorem rnF_fork {ops : Array Oper} {S : World → Prop} {K : Fr → World → Prop} {f : Fr} {w : World} {rs : List Nat} {k : Nat → OrdT} (hf : rs.all (fun i => match ops[i]? with | some o => !flt o.op | none => false) = true)
    (h : ∀ i ∈ rs, RnF P ops S (.op i (k i)) K f w) : RnF P ops S (.fork rs k) K f w := by
  unfold RnF
  intro i hi
  have h1 := h i hi
  have h2 := List.all_eq_true.1 hf i hi
  unfold RnF at h1
  cases ho : ops[i]? with
  | none => simp [ho] at h2
  | some o =>
    simp only [ho] at h1 h2 ⊢
    have h3 : flt o.op = false := by simpa using h2
    cases hg : o.guard with
    | none => simp only [hg] at h1 ⊢; exact ⟨h1, h3⟩
    | some jb =>
      obtain ⟨j, b⟩ := jb
      simp only [hg] at h1 ⊢
      split
      · rename_i hc; rw [if_pos hc] at h1; exact ⟨h1, h3⟩
      · rename_i hc; rw [if_neg hc] at h1; exact h1
/-- The operations in the order of the list. -/
def ordL : List Nat → OrdT
  | [] => .nil
  | i :: l => .op i (ordL l)
end
end Go.Proofs.Ytldmnnloakpjlaa
