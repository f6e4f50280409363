/- Plain facts: what comes to nodes; the solver's round. -/
import Derived.Test.YtldmnnloakpjlaaC8
import Derived.Test.YtldmnnloakpjlaaA11
set_option linter.unusedSimpArgs false
set_option linter.unusedVariables false
set_option linter.unnecessarySimpa false
namespace Go.Proofs.Ytldmnnloakpjlaa

/-- A fact comes to a node. -/
inductive Comes (nx gen kill : List (List Int)) : Int → Nat → Prop
  | gen {a b : Int} {f : Nat} : b ∈ rowF nx a → (f : Int) ∈ rowF gen a → Comes nx gen kill b f
  | step {a b : Int} {f : Nat} : b ∈ rowF nx a → Comes nx gen kill a f → (f : Int) ∉ rowF kill a → Comes nx gen kill b f

def wAt (ins : List (List W)) (b : Int) : List W := ins.getD b.toNat []
def hasAt (ins : List (List W)) (b : Int) (f : Nat) : Bool := hasB (wAt ins b) f
theorem wAt_set {ins : List (List W)} {n : Nat} (hl : ins.length = n) {a b : Int} (ha : okN n a = true) (hb : okN n b = true) (r : List W) : wAt (ins.set a.toNat r) b = if b = a then r else wAt ins b := by
  have ha' := okN_iff.1 ha
  have hb' := okN_iff.1 hb
  unfold wAt
  simp only [List.getD]
  by_cases h : b = a
  · subst h
    rw [if_pos rfl, List.getElem?_set_self (by omega)]; rfl
  · rw [if_neg h, List.getElem?_set_ne (by omega)]
theorem wAt_get {ins : List (List W)} {n : Nat} (hl : ins.length = n) {a : Int} (ha : okN n a = true) : ins[a.toNat]? = some (wAt ins a) := by
  have ha' := okN_iff.1 ha
  unfold wAt
  have : a.toNat < ins.length := by omega
  simp [List.getD, this]

/-- How many facts a set has; how many all sets have. -/
def cntB (most : Nat) (r : List W) : Nat := (List.range most).countP (hasB r)
def potB (most : Nat) (ins : List (List W)) : Nat := (ins.map (cntB most)).sum
theorem cntB_le (most : Nat) (r : List W) : cntB most r ≤ most := by
  have := List.countP_le_length (p := hasB r) (l := List.range most)
  rw [List.length_range] at this
  exact this
theorem potB_le (most : Nat) : ∀ ins : List (List W), potB most ins ≤ ins.length * most
  | [] => by simp [potB]
  | r :: ins => by
    have h1 := potB_le most ins
    have h2 := cntB_le most r
    simp only [potB, List.map_cons, List.sum_cons, List.length_cons] at *
    rw [Nat.add_mul]; omega
theorem potB_set (most : Nat) : ∀ (ins : List (List W)) (i : Nat) (r r' : List W), ins[i]? = some r → potB most (ins.set i r') + cntB most r = potB most ins + cntB most r'
  | [], i, r, r', h => by simp at h
  | x :: ins, 0, r, r', h => by
    simp at h; subst h
    simp only [potB, List.set_cons_zero, List.map_cons, List.sum_cons]; omega
  | x :: ins, i + 1, r, r', h => by
    have := potB_set most ins i r r' (by simpa using h)
    simp only [potB, List.set_cons_succ, List.map_cons, List.sum_cons] at *
    omega
theorem countP_ltN {p q : Nat → Bool} {m : Nat} : ∀ {l : List Nat}, (∀ x, p x = true → q x = true) → m ∈ l → q m = true → p m = false → l.countP p < l.countP q
  | [], _, h, _, _ => by cases h
  | x :: l, hqp, h, hp, hq => by
    have hle : l.countP p ≤ l.countP q := List.countP_mono_left fun x _ => hqp x
    rw [List.countP_cons, List.countP_cons]
    by_cases hx : m = x
    · subst hx; simp [hp, hq]; omega
    · have hm : m ∈ l := by
        rcases List.mem_cons.1 h with h | h
        · exact absurd h hx
        · exact h
      have := countP_ltN hqp hm hp hq
      by_cases h1 : p x = true
      · simp [h1, hqp x h1]; omega
      · simp only [h1, Bool.false_eq_true, if_false]; split <;> omega
theorem cntB_or_lt {most : Nat} {b c : List W} (hl : b.length = c.length) (hc : ∀ f, hasB c f = true → f < most) (hm : moreB b c = true) : cntB most b < cntB most (orB b c) := by
  obtain ⟨f, h1, h2⟩ := (moreB_iff hl).1 hm
  exact countP_ltN (m := f) (fun x hx => by rw [hasB_or hl, hx]; rfl) (List.mem_range.2 (hc f h1)) (by rw [hasB_or hl, h1]; simp) h2
theorem or_same {b c : List W} (hl : b.length = c.length) (hm : moreB b c = false) (f : Nat) : hasB (orB b c) f = hasB b f := by
  rw [hasB_or hl]
  cases hb : hasB b f
  · cases hc : hasB c f
    · rfl
    · have := (moreB_iff hl).2 ⟨f, hc, hb⟩
      rw [hm] at this; cases this
  · rfl

/-- What goes on from a node. -/
def Goes (gen kill : List (List Int)) (ins : List (List W)) (a : Int) (f : Nat) : Prop := (f : Int) ∈ rowF gen a ∨ (hasAt ins a f = true ∧ (f : Int) ∉ rowF kill a)

section
variable (nx gen kill : List (List Int)) (most : Nat)
/-- The state, but for whose sets have gone on. -/
structure SB (ins : List (List W)) (todo : List Int) (waits : List Bool) : Prop where
  ilen : ins.length = nx.length
  rlen : ∀ r ∈ ins, r.length = most / 64 + 1
  wlen : waits.length = nx.length
  ok : ∀ a ∈ todo, okN nx.length a = true
  wt : ∀ a, bitAt waits a = true ↔ a ∈ todo
  nodup : todo.Nodup
  sound : ∀ b f, okN nx.length b = true → hasAt ins b f = true → Comes nx gen kill b f
  low : ∀ b f, okN nx.length b = true → hasAt ins b f = true → f < most
def Closed (ins : List (List W)) (a : Int) : Prop := ∀ b ∈ rowF nx a, ∀ f, Goes gen kill ins a f → hasAt ins b f = true
structure SI (ins : List (List W)) (todo : List Int) (waits : List Bool) (T : Nat) : Prop extends SB nx gen kill most ins todo waits where
  closed : ∀ a, okN nx.length a = true → bitAt waits a = false → Closed nx gen kill ins a
  few : T + todo.length ≤ nx.length + potB most ins
  many : nx.length ≤ T + todo.length
/-- While node a's set goes to its followers; k of them are done. -/
structure SJ (a : Int) (goes : List W) (k : Nat) (ins : List (List W)) (todo : List Int) (waits : List Bool) (T : Nat) : Prop extends SB nx gen kill most ins todo waits where
  closed : ∀ c, okN nx.length c = true → c ≠ a → bitAt waits c = false → Closed nx gen kill ins c
  mine : bitAt waits a = false → ∀ f, hasB goes f = true ↔ Goes gen kill ins a f
  done : ∀ b ∈ (rowF nx a).take k, ∀ f, hasB goes f = true → hasAt ins b f = true
  few : T + todo.length ≤ nx.length + potB most ins
  many : nx.length ≤ T + todo.length
end

section
variable {nx gen kill : List (List Int)} {most : Nat} {ins : List (List W)} {todo : List Int} {waits : List Bool} {T : Nat} {a : Int} {goes : List W} {k : Nat}

theorem SI.start (hins : ins = List.replicate nx.length (List.replicate (most / 64 + 1) 0#64)) (htodo : ∀ a, a ∈ todo ↔ okN nx.length a = true) (hnd : todo.Nodup) (hlen : todo.length = nx.length) (hw : waits = List.replicate nx.length true) : SI nx gen kill most ins todo waits 0 := by
  have hno : ∀ b f, okN nx.length b = true → hasAt ins b f = false := by
    intro b f hb
    have := okN_iff.1 hb
    subst hins
    unfold hasAt wAt
    simp only [List.getD, List.getElem?_replicate]
    rw [if_pos (by omega)]
    exact hasB_rep
  have hbw : ∀ b, bitAt waits b = true ↔ okN nx.length b = true := by
    intro b
    subst hw
    constructor
    · intro h; have := bitAt_true h; simpa using this
    · intro h
      have h1 := (bitAt_ok (l := List.replicate nx.length true) (b := b) (by simpa using h)).2
      rw [h1]
      have := okN_iff.1 h
      simp only [List.getD, List.getElem?_replicate]
      rw [if_pos (by omega)]; rfl
  refine ⟨⟨by subst hins; simp, fun r hr => ?_, by subst hw; simp, fun a ha => (htodo a).1 ha, fun a => by rw [hbw, htodo], hnd, (fun b f hb h => (by rw [hno b f hb] at h; cases h)), (fun b f hb h => (by rw [hno b f hb] at h; cases h))⟩, fun a ha h => ?_, by omega, by omega⟩
  · subst hins; rw [List.eq_of_mem_replicate hr]; simp
  · have := (hbw a).2 ha; rw [h] at this; cases this

/-- One node is taken off the queue. -/
theorem SI.pop {rest : List Int} (h : SI nx gen kill most ins (a :: rest) waits T) (hg : ∀ f, hasB goes f = true ↔ Goes gen kill ins a f) : SJ nx gen kill most a goes 0 ins rest (waits.set a.toNat false) (T + 1) := by
  have ha : okN nx.length a = true := h.ok a (by simp)
  have hs : ∀ b, bitAt (waits.set a.toNat false) b = if b = a then false else bitAt waits b := fun b => bitAt_set (by rw [h.wlen]; exact ha)
  have hnd := List.nodup_cons.1 h.nodup
  refine ⟨⟨h.ilen, h.rlen, by simp [h.wlen], fun b hb => h.ok b (by simp [hb]), fun b => ?_, hnd.2, h.sound, h.low⟩, fun c hc hca hw => ?_, fun _ => hg, fun b hb => by simp at hb, ?_, ?_⟩
  · rw [hs]
    by_cases hb : b = a
    · subst hb; simp [hnd.1]
    · rw [if_neg hb, h.wt]; simp [hb]
  · rw [hs, if_neg hca] at hw
    exact h.closed c hc hw
  · have := h.few; simp only [List.length_cons] at this; omega
  · have := h.many; simp only [List.length_cons] at this; omega

/-- The set goes to one follower. -/
theorem SJ.core {b : Int} (hgood : GoodRows nx.length nx) (h : SJ nx gen kill most a goes k ins todo waits T) (hgl : goes.length = most / 64 + 1) (hgs : ∀ f, hasB goes f = true → f < most ∧ ∀ b ∈ rowF nx a, Comes nx gen kill b f) (hb : (rowF nx a)[k]? = some b) (hbk : okN nx.length b = true)
    {todo' : List Int} {waits' : List Bool} (hwl : waits'.length = nx.length) (hok : ∀ a ∈ todo', okN nx.length a = true) (hwt : ∀ c, bitAt waits' c = true ↔ c ∈ todo') (hnd : todo'.Nodup) (hsub : ∀ c, bitAt waits' c = false → bitAt waits c = false)
    (hmore : moreB (wAt ins b) goes = true → bitAt waits' b = true) (hfew : T + todo'.length ≤ nx.length + potB most (ins.set b.toNat (orB (wAt ins b) goes))) (hmany : nx.length ≤ T + todo'.length) :
    SJ nx gen kill most a goes (k + 1) (ins.set b.toNat (orB (wAt ins b) goes)) todo' waits' T := by
  have hrb : (wAt ins b).length = goes.length := by rw [hgl]; exact h.rlen _ (List.mem_of_getElem? (wAt_get h.ilen hbk))
  have hbm : b ∈ rowF nx a := List.mem_of_getElem? hb
  have hset : ∀ c f, okN nx.length c = true → hasAt (ins.set b.toNat (orB (wAt ins b) goes)) c f = if c = b then (hasAt ins b f || hasB goes f) else hasAt ins c f := by
    intro c f hc
    unfold hasAt
    rw [wAt_set h.ilen hbk hc]
    by_cases e : c = b
    · rw [if_pos e, if_pos e, hasB_or hrb]
    · rw [if_neg e, if_neg e]
  have mono : ∀ c f, okN nx.length c = true → hasAt ins c f = true → hasAt (ins.set b.toNat (orB (wAt ins b) goes)) c f = true := by
    intro c f hc hh
    rw [hset c f hc]
    split
    · rename_i e; subst e; rw [hh]; rfl
    · exact hh
  have same : ∀ c, okN nx.length c = true → bitAt waits' c = false → ∀ f, hasAt (ins.set b.toNat (orB (wAt ins b) goes)) c f = hasAt ins c f := by
    intro c hc hw f
    rw [hset c f hc]
    split
    · rename_i e; subst e
      have hm : moreB (wAt ins c) goes = false := by
        cases e : moreB (wAt ins c) goes
        · rfl
        · rw [hmore e] at hw; cases hw
      have := or_same hrb hm f
      rw [hasB_or hrb] at this
      exact this
    · rfl
  have hrow : ∀ c d, d ∈ rowF nx c → okN nx.length c = true := by
    intro c d hd
    cases e : okN nx.length c
    · rw [rowF_no e] at hd; cases hd
    · rfl
  have goesSame : ∀ c, okN nx.length c = true → bitAt waits' c = false → ∀ f, Goes gen kill (ins.set b.toNat (orB (wAt ins b) goes)) c f ↔ Goes gen kill ins c f := by
    intro c hc hw f
    unfold Goes
    rw [same c hc hw f]
  refine ⟨⟨by simp [h.ilen], fun r hr => ?_, hwl, hok, hwt, hnd, fun c f hc hh => ?_, fun c f hc hh => ?_⟩, fun c hc hca hw d hd f hg => ?_, fun hw f => ?_, fun d hd f hf => ?_, hfew, hmany⟩
  · rcases List.mem_or_eq_of_mem_set hr with h1 | h1
    · exact h.rlen r h1
    · rw [h1, orB_len hrb, hrb, hgl]
  · rw [hset c f hc] at hh
    split at hh
    · rename_i e; subst e
      rcases Bool.or_eq_true_iff.1 hh with h1 | h1
      · exact h.sound _ f hc h1
      · exact (hgs f h1).2 _ hbm
    · exact h.sound c f hc hh
  · rw [hset c f hc] at hh
    split at hh
    · rename_i e; subst e
      rcases Bool.or_eq_true_iff.1 hh with h1 | h1
      · exact h.low _ f hc h1
      · exact (hgs f h1).1
    · exact h.low c f hc hh
  · have hg' := (goesSame c hc hw f).1 hg
    have hd1 := h.closed c hc hca (hsub c hw) d hd f hg'
    have hdk : okN nx.length d = true := (hgood.row c).2 d hd
    exact mono d f hdk hd1
  · have ha : okN nx.length a = true := hrow a b hbm
    rw [goesSame a ha hw f]
    exact h.mine (hsub a hw) f
  · have htk : (rowF nx a).take (k + 1) = (rowF nx a).take k ++ [b] := by
      rw [List.take_add_one, hb]; rfl
    rw [htk, List.mem_append, List.mem_singleton] at hd
    rcases hd with hd | hd
    · exact mono d f ((hgood.row a).2 d (List.mem_of_mem_take hd)) (h.done d hd f hf)
    · subst hd
      rw [hset d f hbk, if_pos rfl, hf, Bool.or_true]

theorem SJ.old {b : Int} (hgood : GoodRows nx.length nx) (h : SJ nx gen kill most a goes k ins todo waits T) (hgl : goes.length = most / 64 + 1) (hgs : ∀ f, hasB goes f = true → f < most ∧ ∀ b ∈ rowF nx a, Comes nx gen kill b f) (hb : (rowF nx a)[k]? = some b) (hbk : okN nx.length b = true)
    (hc : moreB (wAt ins b) goes = false ∨ bitAt waits b = true) : SJ nx gen kill most a goes (k + 1) (ins.set b.toNat (orB (wAt ins b) goes)) todo waits T := by
  have hrb : (wAt ins b).length = goes.length := by rw [hgl]; exact h.rlen _ (List.mem_of_getElem? (wAt_get h.ilen hbk))
  have hp := potB_set most ins b.toNat (wAt ins b) (orB (wAt ins b) goes) (wAt_get h.ilen hbk)
  have hle : cntB most (wAt ins b) ≤ cntB most (orB (wAt ins b) goes) := List.countP_mono_left fun x _ hx => by rw [hasB_or hrb, hx]; rfl
  refine h.core hgood hgl hgs hb hbk h.wlen h.ok h.wt h.nodup (fun _ hh => hh) (fun hm => ?_) (by have := h.few; omega) h.many
  rcases hc with hc | hc
  · rw [hm] at hc; cases hc
  · exact hc
theorem SJ.new {b : Int} (hgood : GoodRows nx.length nx) (h : SJ nx gen kill most a goes k ins todo waits T) (hgl : goes.length = most / 64 + 1) (hgs : ∀ f, hasB goes f = true → f < most ∧ ∀ b ∈ rowF nx a, Comes nx gen kill b f) (hb : (rowF nx a)[k]? = some b) (hbk : okN nx.length b = true)
    (hm : moreB (wAt ins b) goes = true) (hwb : bitAt waits b = false) : SJ nx gen kill most a goes (k + 1) (ins.set b.toNat (orB (wAt ins b) goes)) (todo ++ [b]) (waits.set b.toNat true) T := by
  have hrb : (wAt ins b).length = goes.length := by rw [hgl]; exact h.rlen _ (List.mem_of_getElem? (wAt_get h.ilen hbk))
  have hp := potB_set most ins b.toNat (wAt ins b) (orB (wAt ins b) goes) (wAt_get h.ilen hbk)
  have hlt := cntB_or_lt (most := most) hrb (fun f hf => (hgs f hf).1) hm
  have hs : ∀ c, bitAt (waits.set b.toNat true) c = if c = b then true else bitAt waits c := fun c => bitAt_set (by rw [h.wlen]; exact hbk)
  have hbt : b ∉ todo := fun hh => by rw [(h.wt b).2 hh] at hwb; cases hwb
  refine h.core hgood hgl hgs hb hbk (by simp [h.wlen]) (fun c hc => ?_) (fun c => ?_) ?_ (fun c hc => ?_) (fun _ => by rw [hs, if_pos rfl]) ?_ ?_
  · rcases List.mem_append.1 hc with hc | hc
    · exact h.ok c hc
    · simp at hc; subst hc; exact hbk
  · rw [hs]
    by_cases e : c = b
    · subst e; simp
    · rw [if_neg e, h.wt]; simp [e]
  · refine List.nodup_append.2 ⟨h.nodup, by simp, ?_⟩
    intro x hx y hy e
    simp at hy; subst hy; subst e
    exact hbt hx
  · rw [hs] at hc
    split at hc
    · cases hc
    · exact hc
  · have := h.few; simp only [List.length_append, List.length_cons, List.length_nil]; omega
  · have := h.many; simp only [List.length_append, List.length_cons, List.length_nil]; omega

theorem SJ.pot {b : Int} (h : SJ nx gen kill most a goes k ins todo waits T) (hgl : goes.length = most / 64 + 1) (hgs : ∀ f, hasB goes f = true → f < most ∧ ∀ b ∈ rowF nx a, Comes nx gen kill b f) (hbk : okN nx.length b = true) :
    potB most ins ≤ potB most (ins.set b.toNat (orB (wAt ins b) goes)) ∧ (moreB (wAt ins b) goes = true → potB most ins + 1 ≤ potB most (ins.set b.toNat (orB (wAt ins b) goes))) := by
  have hrb : (wAt ins b).length = goes.length := by rw [hgl]; exact h.rlen _ (List.mem_of_getElem? (wAt_get h.ilen hbk))
  have hp := potB_set most ins b.toNat (wAt ins b) (orB (wAt ins b) goes) (wAt_get h.ilen hbk)
  have hle : cntB most (wAt ins b) ≤ cntB most (orB (wAt ins b) goes) := List.countP_mono_left fun x _ hx => by rw [hasB_or hrb, hx]; rfl
  refine ⟨by omega, fun hm => ?_⟩
  have hlt := cntB_or_lt (most := most) hrb (fun f hf => (hgs f hf).1) hm
  omega

/-- All followers have it. -/
theorem SJ.fin (h : SJ nx gen kill most a goes k ins todo waits T) (hk : k = (rowF nx a).length) : SI nx gen kill most ins todo waits T := by
  refine ⟨h.toSB, fun c hc hw => ?_, h.few, h.many⟩
  by_cases e : c = a
  · subst e
    intro d hd f hg
    refine h.done d ?_ f ((h.mine hw f).2 hg)
    rw [hk, List.take_length]; exact hd
  · exact h.closed c hc e hw

/-- Nothing is left to be asked: the sets are the least solution. -/
theorem SI.fin (hgood : GoodRows nx.length nx) (h : SI nx gen kill most ins [] waits T) : (∀ b f, okN nx.length b = true → (hasAt ins b f = true ↔ Comes nx gen kill b f)) ∧ nx.length ≤ T ∧ T ≤ nx.length + nx.length * most := by
  have hw : ∀ a, bitAt waits a = false := fun a => by
    cases e : bitAt waits a
    · rfl
    · have := (h.wt a).1 e; cases this
  have hrow : ∀ c d, d ∈ rowF nx c → okN nx.length c = true := by
    intro c d hd
    cases e : okN nx.length c
    · rw [rowF_no e] at hd; cases hd
    · rfl
  refine ⟨fun b f hb => ⟨h.sound b f hb, fun hc => ?_⟩, by simpa using h.many, ?_⟩
  · clear hb
    induction hc with
    | gen h1 h2 => exact h.closed _ (hrow _ _ h1) (hw _) _ h1 _ (.inl h2)
    | step h1 _ h3 ih => exact h.closed _ (hrow _ _ h1) (hw _) _ h1 _ (.inr ⟨ih, h3⟩)
  · have h1 := h.few
    have h2 := potB_le most ins
    rw [h.ilen] at h2
    simp only [List.length_nil] at h1
    omega
/-- How much is still to be done. -/
def leftB (n most : Nat) (ins : List (List W)) (todo : List Int) : Nat := (n * most - potB most ins) + todo.length
end
end Go.Proofs.Ytldmnnloakpjlaa
