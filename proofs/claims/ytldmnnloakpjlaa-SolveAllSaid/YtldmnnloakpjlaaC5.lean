/- Plain facts: parts of a graph, by the order and ways back. -/
import Derived.Test.YtldmnnloakpjlaaC4
set_option linter.unusedSimpArgs false
set_option linter.unusedVariables false
set_option linter.unnecessarySimpa false
namespace Go.Proofs.Ytldmnnloakpjlaa

/-- m is the least of b's part. -/
def IsPart (nx : List (List Int)) (b m : Int) : Prop := Both nx b m ∧ ∀ c, Both nx b c → m ≤ c
theorem IsPart.uniq {nx : List (List Int)} {b m m' : Int} (h : IsPart nx b m) (h' : IsPart nx b m') : m = m' :=
  Int.le_antisymm (h.2 _ h'.1) (h'.2 _ h.1)
theorem way_ok {n : Nat} {nx : List (List Int)} (hg : GoodRows n nx) {a b : Int} (h : Way nx a b) (ha : okN n a = true) : okN n b = true := by
  cases h with
  | refl => exact ha
  | step _ hb => exact (hg.row _).2 _ hb

inductive WayL (nx : List (List Int)) : Int → Int → Prop
  | refl {a : Int} : WayL nx a a
  | head {a b c : Int} : b ∈ rowF nx a → WayL nx b c → WayL nx a c
theorem WayL.snoc {nx : List (List Int)} {a b c : Int} (h : WayL nx a b) (hc : c ∈ rowF nx b) : WayL nx a c := by
  induction h with
  | refl => exact .head hc .refl
  | head h1 _ ih => exact .head h1 (ih hc)
theorem Way.toL {nx : List (List Int)} {a b : Int} (h : Way nx a b) : WayL nx a b := by
  induction h with
  | refl => exact .refl
  | step _ hc ih => exact ih.snoc hc
theorem WayL.way {nx : List (List Int)} {a b : Int} (h : WayL nx a b) : Way nx a b := by
  induction h with
  | refl => exact .refl
  | head h1 _ ih => exact (Way.one h1).trans ih
/-- What holds in the second search: of the order k are still to be looked at. -/
structure PI (nx : List (List Int)) (n : Nat) (order : List Int) (seen : List Bool) (part : List Int) (k : Nat) : Prop where
  slen : seen.length = n
  plen : part.length = n
  mark : ∀ b, bitAt seen b = true ↔ ∃ c ∈ order.drop k, Both nx c b
  part : ∀ b, bitAt seen b = true → IsPart nx b (ai part b)
section
variable {nx pv : List (List Int)} {n : Nat} {order : List Int} {seen : List Bool} {part : List Int} {k : Nat}
theorem PI.start (ho : OrderOk nx n order) : PI nx n order (List.replicate n false) (List.replicate n 0) n :=
  ⟨by simp, by simp, fun b => by simp [bitAt_rep, ← ho.len], fun b hb => by rw [bitAt_rep] at hb; cases hb⟩
theorem drop_at {l : List Int} {k : Nat} {r : Int} (h : l[k]? = some r) : l.drop k = r :: l.drop (k + 1) := by
  obtain ⟨hlt, e⟩ := List.getElem?_eq_some_iff.1 h
  rw [List.drop_eq_getElem_cons hlt, e]
theorem PI.old (h : PI nx n order seen part (k + 1)) {r : Int} (hr : order[k]? = some r) (hs : bitAt seen r = true) : PI nx n order seen part k := by
  refine ⟨h.slen, h.plen, fun b => ?_, h.part⟩
  rw [h.mark, drop_at hr]
  constructor
  · rintro ⟨c, hc, hb⟩; exact ⟨c, List.mem_cons_of_mem _ hc, hb⟩
  · rintro ⟨c, hc, hb⟩
    rcases List.mem_cons.1 hc with rfl | hc
    · obtain ⟨d, hd, hdb⟩ := (h.mark c).1 hs
      exact ⟨d, hd, hdb.trans hb⟩
    · exact ⟨c, hc, hb⟩
/-- What the walk back from r meets is r's part. -/
theorem PI.walk (h : PI nx n order seen part (k + 1)) (ho : OrderOk nx n order) (hg : GoodRows n nx) (hb : ∀ a b, b ∈ rowF nx a ↔ a ∈ rowF pv b) {r : Int} (hr : order[k]? = some r) (hs : bitAt seen r = false) (b : Int) :
    Via pv (seen.set r.toNat true) [r] b ↔ Both nx r b := by
  have hro : r ∈ order := List.mem_of_getElem? hr
  have hrk := (ho.mem r).1 hro
  have hrk2 : okN seen.length r = true := by rw [h.slen]; exact hrk
  have hset : ∀ c, bitAt (seen.set r.toNat true) c = if c = r then true else bitAt seen c := fun c => bitAt_set hrk2
  have hsplit : order = order.take k ++ r :: order.drop (k + 1) := by rw [← drop_at hr, List.take_append_drop]
  have hnd : r ∉ order.take k := by
    have := ho.nod
    rw [hsplit, List.nodup_append] at this
    exact fun hh => this.2.2 r hh r (by simp) rfl
  constructor
  · intro hv
    induction hv with
    | base ha => simp at ha; subst ha; exact .refl _
    | @step a b _ hba hsb ih =>
      have hab : a ∈ rowF nx b := (hb b a).2 hba
      have hwr : Way nx b r := (Way.one hab).trans ih.2
      have hne : b ≠ r := by
        rintro rfl
        rw [hset, if_pos rfl] at hsb
        cases hsb
      rw [hset, if_neg hne] at hsb
      have hbk : okN n b = true := by
        cases hq : okN n b with
        | true => rfl
        | false =>
          rw [rowF_no (by rw [hg.len]; exact hq)] at hab
          cases hab
      have hnot : ∀ c ∈ order.drop (k + 1), ¬ Both nx c b := fun c hc hcb => by
        rw [(h.mark b).2 ⟨c, hc, hcb⟩] at hsb; cases hsb
      have hbo := (ho.mem b).2 hbk
      rw [hsplit] at hbo
      have hbt : b ∈ order.take k := by
        rcases List.mem_append.1 hbo with h1 | h1
        · exact h1
        · rcases List.mem_cons.1 h1 with h1 | h1
          · exact absurd h1 hne
          · exact absurd (Both.refl b) (hnot b h1)
      obtain ⟨c, hc, hcb⟩ := ho.cut k b hbt r hnd hwr
      have hck : okN n c = true := way_ok hg hcb.2 hbk
      have hco := (ho.mem c).2 hck
      rw [hsplit] at hco
      rcases List.mem_append.1 hco with h1 | h1
      · exact absurd h1 hc
      · rcases List.mem_cons.1 h1 with h1 | h1
        · subst h1; exact hcb
        · exact absurd hcb (hnot c h1)
  · rintro ⟨h1, h2⟩
    have key : ∀ x y, WayL nx x y → y = r → Way nx r x → Via pv (seen.set r.toNat true) [r] x := by
      intro x y hxy
      induction hxy with
      | refl => rintro rfl _; exact .base (by simp)
      | @head x b y hxb hby ih =>
        rintro rfl hrx
        by_cases hxr : x = y
        · subst hxr; exact .base (by simp)
        · have hv := ih rfl (hrx.trans (Way.one hxb))
          refine .step hv ((hb x b).1 hxb) ?_
          rw [hset, if_neg hxr]
          rw [Bool.eq_false_iff]
          intro hsx
          obtain ⟨c, hc, hcx⟩ := (h.mark x).1 hsx
          have hyx : Both nx x y := ⟨(Way.one hxb).trans hby.way, hrx⟩
          rw [(h.mark y).2 ⟨c, hc, hcx.trans hyx⟩] at hs
          cases hs
    exact key b r h2.toL rfl h1
theorem PI.new (h : PI nx n order seen part (k + 1)) {r : Int} (hr : order[k]? = some r) {seen' : List Bool} {part' : List Int} {m : Int} (hl : seen'.length = n) (hpl : part'.length = n)
    (hm : ∀ b, bitAt seen' b = true ↔ bitAt seen b = true ∨ Both nx r b) (hleast : IsPart nx r m) (hp : ∀ b, bitAt seen' b = true → ai part' b = if bitAt seen b = true then ai part b else m) : PI nx n order seen' part' k := by
  refine ⟨hl, hpl, fun b => ?_, fun b hb => ?_⟩
  · rw [hm, h.mark, drop_at hr]
    constructor
    · rintro (⟨c, hc, hb⟩ | hb)
      · exact ⟨c, List.mem_cons_of_mem _ hc, hb⟩
      · exact ⟨r, by simp, hb⟩
    · rintro ⟨c, hc, hb⟩
      rcases List.mem_cons.1 hc with rfl | hc
      · exact .inr hb
      · exact .inl ⟨c, hc, hb⟩
  · rw [hp b hb]
    split
    · rename_i hs; exact h.part b hs
    · rename_i hs
      rcases (hm b).1 hb with h1 | h1
      · exact absurd h1 hs
      · exact ⟨h1.symm.trans hleast.1, fun c hc => hleast.2 c (h1.trans hc)⟩
theorem PI.fin (h : PI nx n order seen part 0) (ho : OrderOk nx n order) : part.length = n ∧ ∀ b, okN n b = true → IsPart nx b (ai part b) :=
  ⟨h.plen, fun b hb => h.part b ((h.mark b).2 ⟨b, by rw [List.drop_zero]; exact (ho.mem b).2 hb, .refl b⟩)⟩
/-- The least of a list that is not empty. -/
theorem foldl_min (l : List Int) : ∀ x : Int, l.foldl min x ≤ x ∧ (∀ y ∈ l, l.foldl min x ≤ y) ∧ (l.foldl min x = x ∨ l.foldl min x ∈ l) := by
  induction l with
  | nil => intro x; exact ⟨Int.le_refl _, fun y hy => absurd hy List.not_mem_nil, .inl rfl⟩
  | cons z l ih =>
    intro x
    obtain ⟨h1, h2, h3⟩ := ih (min x z)
    rw [List.foldl_cons]
    refine ⟨by omega, fun y hy => ?_, ?_⟩
    · rcases List.mem_cons.1 hy with rfl | hy
      · omega
      · exact h2 y hy
    · rcases h3 with h3 | h3
      · rw [h3]
        rcases Int.le_total x z with h | h
        · exact .inl (Int.min_eq_left h)
        · exact .inr (by rw [Int.min_eq_right h]; simp)
      · exact .inr (List.mem_cons_of_mem _ h3)
end
end Go.Proofs.Ytldmnnloakpjlaa
