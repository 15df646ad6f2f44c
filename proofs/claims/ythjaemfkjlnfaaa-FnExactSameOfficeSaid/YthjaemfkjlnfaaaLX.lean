import Derived.Test.YthjaemfkjlnfaaaF
import Derived.Test.YthjaemfkjlnfaaaPenU
import Derived.Test.YthjaemfkjlnfaaaPenV
namespace Go.Pen
set_option linter.unusedVariables false
set_option linter.unusedSimpArgs false

instance : Inhabited Frac := ⟨⟨0, 0⟩⟩

instance : Inhabited Fact := ⟨⟨0, 0, 0, 0, 0⟩⟩

instance : Inhabited Point := ⟨⟨0, 0, 0⟩⟩

instance : Inhabited Spell := ⟨⟨0, 0, 0, false⟩⟩

instance : Inhabited Event := ⟨⟨0, 0⟩⟩

instance : Inhabited Node := ⟨⟨0, 0, 0, 0, ⟨0, 0⟩⟩⟩

instance : Inhabited Rule := ⟨⟨0, 0, 0, 0, 0, 0, []⟩⟩

def gt {α : Type} [Inhabited α] (l : List α) (k : Nat) : α := (l[k]?).getD default

theorem at_gt {α : Type} [Inhabited α] {l : List α} {k : Nat} (h : k < l.length) : l[k]? = some (gt l k) := by unfold gt; rw [List.getElem?_eq_getElem h]; rfl

theorem idx_gt {α : Type} [Inhabited α] {l : List α} {k : Nat} (h : k < l.length) : idx l (k : Int) = some (gt l k) := (idx_nat l k).trans (at_gt h)

theorem gt_mem {α : Type} [Inhabited α] {l : List α} {k : Nat} (h : k < l.length) : gt l k ∈ l := List.mem_of_getElem? (at_gt h)

def allN (N : Nat) (p : Nat → Bool) : Bool := (List.range N).all p

theorem allN_true {N : Nat} {p : Nat → Bool} : allN N p = true ↔ ∀ k, k < N → p k = true := by simp [allN]

theorem allN_false {N : Nat} {p : Nat → Bool} (h : allN N p = false) : ∃ k, k < N ∧ p k = false ∧ ∀ j, j < k → p j = true := by
  induction N with
  | zero => simp [allN] at h
  | succ N ih =>
    cases h1 : allN N p with
    | false => obtain ⟨k, a, b, c⟩ := ih h1; exact ⟨k, by omega, b, c⟩
    | true =>
      refine ⟨N, by omega, ?_, allN_true.1 h1⟩
      cases h2 : p N with
      | false => rfl
      | true =>
        have : allN (N + 1) p = true := allN_true.2 fun k hk => by
          by_cases e : k = N
          · subst e; exact h2
          · exact allN_true.1 h1 k (by omega)
        rw [this] at h; cases h

theorem scan_up {ι ρ : Type} (N : Nat) (p : Nat → Bool) (v : Nat → ρ) (u : ι) {body : Int → Option (LS Int (ι ⊕ ρ))} (hs : ∀ k, k < N → body (k : Int) = some (if p k = true then .cont ((k + 1 : Nat) : Int) else .done (.inr (v k)))) (he : body (N : Int) = some (.done (.inl u))) :
    (allN N p = true ∧ loopW body 0 = some (.inl u)) ∨ (allN N p = false ∧ ∃ k, k < N ∧ p k = false ∧ (∀ j, j < k → p j = true) ∧ loopW body 0 = some (.inr (v k))) := by
  have e0 : ((0 : Nat) : Int) = 0 := rfl
  cases h : allN N p with
  | true =>
    refine .inl ⟨rfl, ?_⟩
    have h1 := loopW_count (body := body) (fun k => ((k : Nat) : Int)) N (fun k hk => by rw [hs k hk, if_pos (allN_true.1 h k hk)])
    rw [e0] at h1
    rw [h1, loopW_done he]
  | false =>
    obtain ⟨k, hk, hp, hj⟩ := allN_false h
    refine .inr ⟨rfl, k, hk, hp, hj, ?_⟩
    have h1 := loopW_count (body := body) (fun k => ((k : Nat) : Int)) k (fun j hjk => by rw [hs j (by omega), if_pos (hj j hjk)])
    rw [e0] at h1
    rw [h1, loopW_done (by rw [hs k hk, hp]; rfl)]

theorem scan_bool {ι : Type} (N : Nat) (p : Nat → Bool) (u : ι) {body : Int → Option (LS Int (ι ⊕ Bool))} (hs : ∀ k, k < N → body (k : Int) = some (if p k = true then .cont ((k + 1 : Nat) : Int) else .done (.inr false))) (he : body (N : Int) = some (.done (.inl u))) :
    loopW body 0 = some (if allN N p = true then .inl u else .inr false) := by
  rcases scan_up N p (fun _ => false) u hs he with ⟨h1, h2⟩ | ⟨h1, k, _, _, _, h2⟩
  · rw [h1, h2]; rfl
  · rw [h1, h2]; rfl

theorem bind_brk {ι ρ : Type} (b : Bool) (u : ι) (f : ι → Option ρ) (v : ρ) : ((some (if b = true then Sum.inl u else Sum.inr v) : Option (ι ⊕ ρ)).bind fun r => brkE r f some) = cond b (f u) (some v) := by
  cases b <;> rfl

def bookB (b : Book) : Prop := b.Rules.length ≤ 1000000000 ∧ ∀ k, k < b.Rules.length → (gt b.Rules k).Nodes.length ≤ 1000000000

def caseB (c : Case) : Prop := bookB c.Book ∧ c.Store.Facts.length ≤ 1000000000 ∧ c.Series.Points.length ≤ 1000000000 ∧ c.Member.Spells.length ≤ 1000000000 ∧ c.Member.Events.length ≤ 1000000000

def officeB (o : Office) : Prop := caseB o.Case ∧ o.Paid.length ≤ 1000000000

theorem laws_toNodeS_eq (x0 : List Node) (h : x0.length ≤ 1048576) : laws_toNodeS x0 = some x0 := by
  unfold laws_toNodeS
  rw [mkL_len x0 (Node.mk 0 0 0 0 (Frac.mk 0 0) : Node) (by omega)]
  simp only [Option.bind_some]
  rw [copy_loop x0 (Node.mk 0 0 0 0 (Frac.mk 0 0) : Node) (by omega)]
  · rfl
  · intro k x l hx hk
    have hk0 := (List.getElem?_eq_some_iff.1 hx).1
    simp only [idx_nat, hx, laws_toNode, laws_toFrac, List.getElem?_eq_getElem hk, Option.bind_some, w64_nat (by omega : k < 9223372036854775807), show ((k : Int) < (x0.length : Int)) by omega, decide_true, cond_true, Int.toNat_natCast]
  · intro l
    simp

theorem laws_toFactS_eq (x0 : List Fact) (h : x0.length ≤ 1048576) : laws_toFactS x0 = some x0 := by
  unfold laws_toFactS
  rw [mkL_len x0 (Fact.mk 0 0 0 0 0 : Fact) (by omega)]
  simp only [Option.bind_some]
  rw [copy_loop x0 (Fact.mk 0 0 0 0 0 : Fact) (by omega)]
  · rfl
  · intro k x l hx hk
    have hk0 := (List.getElem?_eq_some_iff.1 hx).1
    simp only [idx_nat, hx, laws_toFact, List.getElem?_eq_getElem hk, Option.bind_some, w64_nat (by omega : k < 9223372036854775807), show ((k : Int) < (x0.length : Int)) by omega, decide_true, cond_true, Int.toNat_natCast]
  · intro l
    simp

theorem laws_toPointS_eq (x0 : List Point) (h : x0.length ≤ 1048576) : laws_toPointS x0 = some x0 := by
  unfold laws_toPointS
  rw [mkL_len x0 (Point.mk 0 0 0 : Point) (by omega)]
  simp only [Option.bind_some]
  rw [copy_loop x0 (Point.mk 0 0 0 : Point) (by omega)]
  · rfl
  · intro k x l hx hk
    have hk0 := (List.getElem?_eq_some_iff.1 hx).1
    simp only [idx_nat, hx, laws_toPoint, List.getElem?_eq_getElem hk, Option.bind_some, w64_nat (by omega : k < 9223372036854775807), show ((k : Int) < (x0.length : Int)) by omega, decide_true, cond_true, Int.toNat_natCast]
  · intro l
    simp

theorem laws_toSpellS_eq (x0 : List Spell) (h : x0.length ≤ 1048576) : laws_toSpellS x0 = some x0 := by
  unfold laws_toSpellS
  rw [mkL_len x0 (Spell.mk 0 0 0 false : Spell) (by omega)]
  simp only [Option.bind_some]
  rw [copy_loop x0 (Spell.mk 0 0 0 false : Spell) (by omega)]
  · rfl
  · intro k x l hx hk
    have hk0 := (List.getElem?_eq_some_iff.1 hx).1
    simp only [idx_nat, hx, laws_toSpell, List.getElem?_eq_getElem hk, Option.bind_some, w64_nat (by omega : k < 9223372036854775807), show ((k : Int) < (x0.length : Int)) by omega, decide_true, cond_true, Int.toNat_natCast]
  · intro l
    simp

theorem laws_toEventS_eq (x0 : List Event) (h : x0.length ≤ 1048576) : laws_toEventS x0 = some x0 := by
  unfold laws_toEventS
  rw [mkL_len x0 (Event.mk 0 0 : Event) (by omega)]
  simp only [Option.bind_some]
  rw [copy_loop x0 (Event.mk 0 0 : Event) (by omega)]
  · rfl
  · intro k x l hx hk
    have hk0 := (List.getElem?_eq_some_iff.1 hx).1
    simp only [idx_nat, hx, laws_toEvent, List.getElem?_eq_getElem hk, Option.bind_some, w64_nat (by omega : k < 9223372036854775807), show ((k : Int) < (x0.length : Int)) by omega, decide_true, cond_true, Int.toNat_natCast]
  · intro l
    simp

theorem laws_toIntS_eq (x0 : List Int) (h : x0.length ≤ 1048576) : laws_toIntS x0 = some x0 := by
  unfold laws_toIntS
  rw [mkL_len x0 (0 : Int) (by omega)]
  simp only [Option.bind_some]
  rw [copy_loop x0 (0 : Int) (by omega)]
  · rfl
  · intro k x l hx hk
    have hk0 := (List.getElem?_eq_some_iff.1 hx).1
    simp only [idx_nat, hx, List.getElem?_eq_getElem hk, Option.bind_some, w64_nat (by omega : k < 9223372036854775807), show ((k : Int) < (x0.length : Int)) by omega, decide_true, cond_true, Int.toNat_natCast]
  · intro l
    simp

theorem laws_eqNodeS_refl (x0 : List Node) (h : x0.length ≤ 1048576) : laws_eqNodeS x0 x0 = some true := by
  unfold laws_eqNodeS
  simp only [bne_self_eq_false, cond_false]
  rw [eq_loop x0]
  · rfl
  · intro k x hx
    have hk0 := (List.getElem?_eq_some_iff.1 hx).1
    simp [idx_nat, hx, laws_eqNode, laws_eqFrac, w64_nat (by omega : k < 9223372036854775807), hk0]
  · simp

theorem laws_eqFactS_refl (x0 : List Fact) (h : x0.length ≤ 1048576) : laws_eqFactS x0 x0 = some true := by
  unfold laws_eqFactS
  simp only [bne_self_eq_false, cond_false]
  rw [eq_loop x0]
  · rfl
  · intro k x hx
    have hk0 := (List.getElem?_eq_some_iff.1 hx).1
    simp [idx_nat, hx, laws_eqFact, w64_nat (by omega : k < 9223372036854775807), hk0]
  · simp

theorem laws_eqPointS_refl (x0 : List Point) (h : x0.length ≤ 1048576) : laws_eqPointS x0 x0 = some true := by
  unfold laws_eqPointS
  simp only [bne_self_eq_false, cond_false]
  rw [eq_loop x0]
  · rfl
  · intro k x hx
    have hk0 := (List.getElem?_eq_some_iff.1 hx).1
    simp [idx_nat, hx, laws_eqPoint, w64_nat (by omega : k < 9223372036854775807), hk0]
  · simp

theorem laws_eqSpellS_refl (x0 : List Spell) (h : x0.length ≤ 1048576) : laws_eqSpellS x0 x0 = some true := by
  unfold laws_eqSpellS
  simp only [bne_self_eq_false, cond_false]
  rw [eq_loop x0]
  · rfl
  · intro k x hx
    have hk0 := (List.getElem?_eq_some_iff.1 hx).1
    simp [idx_nat, hx, laws_eqSpell, w64_nat (by omega : k < 9223372036854775807), hk0]
  · simp

theorem laws_eqEventS_refl (x0 : List Event) (h : x0.length ≤ 1048576) : laws_eqEventS x0 x0 = some true := by
  unfold laws_eqEventS
  simp only [bne_self_eq_false, cond_false]
  rw [eq_loop x0]
  · rfl
  · intro k x hx
    have hk0 := (List.getElem?_eq_some_iff.1 hx).1
    simp [idx_nat, hx, laws_eqEvent, w64_nat (by omega : k < 9223372036854775807), hk0]
  · simp

theorem laws_eqIntS_refl (x0 : List Int) (h : x0.length ≤ 1048576) : laws_eqIntS x0 x0 = some true := by
  unfold laws_eqIntS
  simp only [bne_self_eq_false, cond_false]
  rw [eq_loop x0]
  · rfl
  · intro k x hx
    have hk0 := (List.getElem?_eq_some_iff.1 hx).1
    simp [idx_nat, hx, w64_nat (by omega : k < 9223372036854775807), hk0]
  · simp

theorem laws_szNodeS_cn (x0 : List Node) (left : Int) (hl : 0 ≤ left ∧ left ≤ 1048576) (w : Wf.wf x0) : ∃ v, laws_szNodeS x0 left = some v ∧ (v < 0 ∨ (0 ≤ v ∧ v + x0.length = left)) := by
  have h1 : x0.length ≤ 9223372036854775807 := w.1
  unfold laws_szNodeS
  rw [w64_id (by omega : -9223372036854775808 ≤ left - (x0.length : Int) ∧ left - (x0.length : Int) ≤ 9223372036854775807)]
  by_cases h : left - (x0.length : Int) < 0
  · exact ⟨-1, by simp [h], .inl (by omega)⟩
  · exact ⟨_, by rw [decide_eq_false h]; rfl, .inr (by omega)⟩

theorem laws_szFactS_cn (x0 : List Fact) (left : Int) (hl : 0 ≤ left ∧ left ≤ 1048576) (w : Wf.wf x0) : ∃ v, laws_szFactS x0 left = some v ∧ (v < 0 ∨ (0 ≤ v ∧ v + x0.length = left)) := by
  have h1 : x0.length ≤ 9223372036854775807 := w.1
  unfold laws_szFactS
  rw [w64_id (by omega : -9223372036854775808 ≤ left - (x0.length : Int) ∧ left - (x0.length : Int) ≤ 9223372036854775807)]
  by_cases h : left - (x0.length : Int) < 0
  · exact ⟨-1, by simp [h], .inl (by omega)⟩
  · exact ⟨_, by rw [decide_eq_false h]; rfl, .inr (by omega)⟩

theorem laws_szPointS_cn (x0 : List Point) (left : Int) (hl : 0 ≤ left ∧ left ≤ 1048576) (w : Wf.wf x0) : ∃ v, laws_szPointS x0 left = some v ∧ (v < 0 ∨ (0 ≤ v ∧ v + x0.length = left)) := by
  have h1 : x0.length ≤ 9223372036854775807 := w.1
  unfold laws_szPointS
  rw [w64_id (by omega : -9223372036854775808 ≤ left - (x0.length : Int) ∧ left - (x0.length : Int) ≤ 9223372036854775807)]
  by_cases h : left - (x0.length : Int) < 0
  · exact ⟨-1, by simp [h], .inl (by omega)⟩
  · exact ⟨_, by rw [decide_eq_false h]; rfl, .inr (by omega)⟩

theorem laws_szSpellS_cn (x0 : List Spell) (left : Int) (hl : 0 ≤ left ∧ left ≤ 1048576) (w : Wf.wf x0) : ∃ v, laws_szSpellS x0 left = some v ∧ (v < 0 ∨ (0 ≤ v ∧ v + x0.length = left)) := by
  have h1 : x0.length ≤ 9223372036854775807 := w.1
  unfold laws_szSpellS
  rw [w64_id (by omega : -9223372036854775808 ≤ left - (x0.length : Int) ∧ left - (x0.length : Int) ≤ 9223372036854775807)]
  by_cases h : left - (x0.length : Int) < 0
  · exact ⟨-1, by simp [h], .inl (by omega)⟩
  · exact ⟨_, by rw [decide_eq_false h]; rfl, .inr (by omega)⟩

theorem laws_szEventS_cn (x0 : List Event) (left : Int) (hl : 0 ≤ left ∧ left ≤ 1048576) (w : Wf.wf x0) : ∃ v, laws_szEventS x0 left = some v ∧ (v < 0 ∨ (0 ≤ v ∧ v + x0.length = left)) := by
  have h1 : x0.length ≤ 9223372036854775807 := w.1
  unfold laws_szEventS
  rw [w64_id (by omega : -9223372036854775808 ≤ left - (x0.length : Int) ∧ left - (x0.length : Int) ≤ 9223372036854775807)]
  by_cases h : left - (x0.length : Int) < 0
  · exact ⟨-1, by simp [h], .inl (by omega)⟩
  · exact ⟨_, by rw [decide_eq_false h]; rfl, .inr (by omega)⟩

theorem laws_szIntS_cn (x0 : List Int) (left : Int) (hl : 0 ≤ left ∧ left ≤ 1048576) (w : Wf.wf x0) : ∃ v, laws_szIntS x0 left = some v ∧ (v < 0 ∨ (0 ≤ v ∧ v + x0.length = left)) := by
  have h1 : x0.length ≤ 9223372036854775807 := w.1
  unfold laws_szIntS
  rw [w64_id (by omega : -9223372036854775808 ≤ left - (x0.length : Int) ∧ left - (x0.length : Int) ≤ 9223372036854775807)]
  by_cases h : left - (x0.length : Int) < 0
  · exact ⟨-1, by simp [h], .inl (by omega)⟩
  · exact ⟨_, by rw [decide_eq_false h]; rfl, .inr (by omega)⟩

def smRule (x : Rule) : Prop := x.Nodes.length ≤ 1048576

def cnRule (x : Rule) : Nat := x.Nodes.length

theorem smRule_of (x : Rule) (h : cnRule x ≤ 1048576) : smRule x := by
  unfold cnRule at h
  exact by unfold smRule; omega

theorem laws_toRule_eq (x : Rule) (h : smRule x) : laws_toRule x = some x := by
  have h0 := h
  unfold smRule at h0
  unfold laws_toRule
  simp only [laws_toNodeS_eq x.Nodes h0, Option.bind_some]

theorem laws_eqRule_refl (x : Rule) (h : smRule x) : laws_eqRule x x = some true := by
  have h0 := h
  unfold smRule at h0
  unfold laws_eqRule
  simp [laws_eqNodeS_refl x.Nodes h0]

theorem laws_szRule_cn (x : Rule) (left : Int) (hl : 0 ≤ left ∧ left ≤ 1048576) (w : Wf.wf x) : ∃ v, laws_szRule x left = some v ∧ (v < 0 ∨ (0 ≤ v ∧ v + cnRule x = left)) := by
  unfold laws_szRule
  obtain ⟨v0, e0, c0⟩ := laws_szNodeS_cn x.Nodes left hl w.2.2.2.2.2.2
  rw [e0]
  simp only [Option.bind_some]
  rcases c0 with c0 | c0
  · exact ⟨-1, by simp [c0], .inl (by omega)⟩
  rw [decide_eq_false (by omega : ¬ v0 < 0)]
  simp only [cond_false]
  exact ⟨_, rfl, .inr ⟨by omega, by unfold cnRule; omega⟩⟩

def cnRuleS (l : List Rule) : Nat := wdL (fun x => 1 + cnRule x) l

theorem cnRule_mem {l : List Rule} {x : Rule} (h : x ∈ l) : 1 + cnRule x ≤ cnRuleS l := wdL_mem (fun x => 1 + cnRule x) h

theorem cnRule_len (l : List Rule) : l.length ≤ cnRuleS l := wdL_len (fun x => 1 + cnRule x) (fun x => by omega) l

theorem laws_toRuleS_eq (x0 : List Rule) (h : cnRuleS x0 ≤ 1048576) : laws_toRuleS x0 = some x0 := by
  have hn := cnRule_len x0
  unfold laws_toRuleS
  rw [mkL_len x0 (Rule.mk 0 0 0 0 0 0 ([] : List Node) : Rule) (by omega)]
  simp only [Option.bind_some]
  rw [copy_loop x0 (Rule.mk 0 0 0 0 0 0 ([] : List Node) : Rule) (by omega)]
  · rfl
  · intro k x l hx hk
    have hk0 := (List.getElem?_eq_some_iff.1 hx).1
    have hm := cnRule_mem (List.mem_of_getElem? hx)
    have ht := laws_toRule_eq x (smRule_of x (by omega))
    simp only [idx_nat, hx, ht, List.getElem?_eq_getElem hk, Option.bind_some, w64_nat (by omega : k < 9223372036854775807), show ((k : Int) < (x0.length : Int)) by omega, decide_true, cond_true, Int.toNat_natCast]
  · intro l
    simp

theorem laws_eqRuleS_refl (x0 : List Rule) (h : cnRuleS x0 ≤ 1048576) : laws_eqRuleS x0 x0 = some true := by
  have hn := cnRule_len x0
  unfold laws_eqRuleS
  simp only [bne_self_eq_false, cond_false]
  rw [eq_loop x0]
  · rfl
  · intro k x hx
    have hk0 := (List.getElem?_eq_some_iff.1 hx).1
    have hm := cnRule_mem (List.mem_of_getElem? hx)
    have ht := laws_eqRule_refl x (smRule_of x (by omega))
    simp only [idx_nat, hx, ht, Option.bind_some, Bool.not_true, cond_false, w64_nat (by omega : k < 9223372036854775807), show ((k : Int) < (x0.length : Int)) by omega, decide_true, cond_true]
  · simp

theorem laws_szRuleS_cn (x0 : List Rule) (left : Int) (hl : 0 ≤ left ∧ left ≤ 1048576) (w : Wf.wf x0) : ∃ v, laws_szRuleS x0 left = some v ∧ (v < 0 ∨ (0 ≤ v ∧ v + cnRuleS x0 = left)) := by
  have h1 : x0.length ≤ 9223372036854775807 := w.1
  unfold laws_szRuleS
  rw [w64_id (by omega : -9223372036854775808 ≤ left - (x0.length : Int) ∧ left - (x0.length : Int) ≤ 9223372036854775807)]
  by_cases h : left - (x0.length : Int) < 0
  · exact ⟨-1, by simp [h], .inl (by omega)⟩
  rw [decide_eq_false h]
  simp only [cond_false]
  rcases size_loop (ρ := Int) (fun x => cnRule x) x0 (left - (x0.length : Int)) (by omega) (fun s24 =>
    cond (decide (s24.1 < (x0.length : Int)))
      ((idx x0 s24.1).bind fun x40 =>
      (laws_szRule x40 s24.2).bind fun t47 =>
      cond (decide (t47 < 0))
        (some (.done (.inr (-1))))
        (some (.cont (w64 (s24.1 + 1), t47))))
      (some (.done (.inl s24.2)))) (-1) (fun k x v hx hv => by
      have hk0 := (List.getElem?_eq_some_iff.1 hx).1
      obtain ⟨u, e, c⟩ := laws_szRule_cn x v ⟨hv.1, by omega⟩ (w.2 x (List.mem_of_getElem? hx))
      rcases c with c | c
      · exact .inl (by simp only [idx_nat, hx, e, Option.bind_some, show ((k : Int) < (x0.length : Int)) by omega, decide_true, cond_true, c])
      · exact .inr ⟨u, c, by
          have hc : decide (u < 0) = false := decide_eq_false (by omega)
          simp only [idx_nat, hx, e, Option.bind_some, show ((k : Int) < (x0.length : Int)) by omega, decide_true, cond_true, hc, cond_false, w64_nat (by omega : k < 9223372036854775807)]⟩)
    (fun v => by simp) with h2 | ⟨v, h2, h3, h4⟩
  · exact ⟨-1, by rw [h2]; rfl, .inl (by omega)⟩
  · refine ⟨v, by rw [h2]; rfl, .inr ⟨h3, ?_⟩⟩
    have : cnRuleS x0 = wdL (fun x => cnRule x) x0 + x0.length := by unfold cnRuleS; exact wdL_one _ _
    omega

def smBook (x : Book) : Prop := cnRuleS x.Rules ≤ 1048576

def cnBook (x : Book) : Nat := cnRuleS x.Rules

theorem smBook_of (x : Book) (h : cnBook x ≤ 1048576) : smBook x := by
  unfold cnBook at h
  exact by unfold smBook; omega

theorem laws_toBook_eq (x : Book) (h : smBook x) : laws_toBook x = some x := by
  have h0 := h
  unfold smBook at h0
  unfold laws_toBook
  simp only [laws_toRuleS_eq x.Rules h0, Option.bind_some]

theorem laws_eqBook_refl (x : Book) (h : smBook x) : laws_eqBook x x = some true := by
  have h0 := h
  unfold smBook at h0
  unfold laws_eqBook
  simp [laws_eqRuleS_refl x.Rules h0]

theorem laws_szBook_cn (x : Book) (left : Int) (hl : 0 ≤ left ∧ left ≤ 1048576) (w : Wf.wf x) : ∃ v, laws_szBook x left = some v ∧ (v < 0 ∨ (0 ≤ v ∧ v + cnBook x = left)) := by
  unfold laws_szBook
  obtain ⟨v0, e0, c0⟩ := laws_szRuleS_cn x.Rules left hl w
  rw [e0]
  simp only [Option.bind_some]
  rcases c0 with c0 | c0
  · exact ⟨-1, by simp [c0], .inl (by omega)⟩
  rw [decide_eq_false (by omega : ¬ v0 < 0)]
  simp only [cond_false]
  exact ⟨_, rfl, .inr ⟨by omega, by unfold cnBook; omega⟩⟩

def smStore (x : Store) : Prop := x.Facts.length ≤ 1048576

def cnStore (x : Store) : Nat := x.Facts.length

theorem smStore_of (x : Store) (h : cnStore x ≤ 1048576) : smStore x := by
  unfold cnStore at h
  exact by unfold smStore; omega

theorem laws_toStore_eq (x : Store) (h : smStore x) : laws_toStore x = some x := by
  have h0 := h
  unfold smStore at h0
  unfold laws_toStore
  simp only [laws_toFactS_eq x.Facts h0, Option.bind_some]

theorem laws_eqStore_refl (x : Store) (h : smStore x) : laws_eqStore x x = some true := by
  have h0 := h
  unfold smStore at h0
  unfold laws_eqStore
  simp [laws_eqFactS_refl x.Facts h0]

theorem laws_szStore_cn (x : Store) (left : Int) (hl : 0 ≤ left ∧ left ≤ 1048576) (w : Wf.wf x) : ∃ v, laws_szStore x left = some v ∧ (v < 0 ∨ (0 ≤ v ∧ v + cnStore x = left)) := by
  unfold laws_szStore
  obtain ⟨v0, e0, c0⟩ := laws_szFactS_cn x.Facts left hl w
  rw [e0]
  simp only [Option.bind_some]
  rcases c0 with c0 | c0
  · exact ⟨-1, by simp [c0], .inl (by omega)⟩
  rw [decide_eq_false (by omega : ¬ v0 < 0)]
  simp only [cond_false]
  exact ⟨_, rfl, .inr ⟨by omega, by unfold cnStore; omega⟩⟩

def smSeries (x : Series) : Prop := x.Points.length ≤ 1048576

def cnSeries (x : Series) : Nat := x.Points.length

theorem smSeries_of (x : Series) (h : cnSeries x ≤ 1048576) : smSeries x := by
  unfold cnSeries at h
  exact by unfold smSeries; omega

theorem laws_toSeries_eq (x : Series) (h : smSeries x) : laws_toSeries x = some x := by
  have h0 := h
  unfold smSeries at h0
  unfold laws_toSeries
  simp only [laws_toPointS_eq x.Points h0, Option.bind_some]

theorem laws_eqSeries_refl (x : Series) (h : smSeries x) : laws_eqSeries x x = some true := by
  have h0 := h
  unfold smSeries at h0
  unfold laws_eqSeries
  simp [laws_eqPointS_refl x.Points h0]

theorem laws_szSeries_cn (x : Series) (left : Int) (hl : 0 ≤ left ∧ left ≤ 1048576) (w : Wf.wf x) : ∃ v, laws_szSeries x left = some v ∧ (v < 0 ∨ (0 ≤ v ∧ v + cnSeries x = left)) := by
  unfold laws_szSeries
  obtain ⟨v0, e0, c0⟩ := laws_szPointS_cn x.Points left hl w
  rw [e0]
  simp only [Option.bind_some]
  rcases c0 with c0 | c0
  · exact ⟨-1, by simp [c0], .inl (by omega)⟩
  rw [decide_eq_false (by omega : ¬ v0 < 0)]
  simp only [cond_false]
  exact ⟨_, rfl, .inr ⟨by omega, by unfold cnSeries; omega⟩⟩

def smMember (x : Member) : Prop := x.Spells.length ≤ 1048576 ∧ x.Events.length ≤ 1048576

def cnMember (x : Member) : Nat := x.Spells.length + x.Events.length

theorem smMember_of (x : Member) (h : cnMember x ≤ 1048576) : smMember x := by
  unfold cnMember at h
  exact ⟨by omega, by omega⟩

theorem laws_toMember_eq (x : Member) (h : smMember x) : laws_toMember x = some x := by
  obtain ⟨h0, h1⟩ := h
  unfold laws_toMember
  simp only [laws_toSpellS_eq x.Spells h0, laws_toEventS_eq x.Events h1, Option.bind_some]

theorem laws_eqMember_refl (x : Member) (h : smMember x) : laws_eqMember x x = some true := by
  obtain ⟨h0, h1⟩ := h
  unfold laws_eqMember
  simp [laws_eqSpellS_refl x.Spells h0, laws_eqEventS_refl x.Events h1]

theorem laws_szMember_cn (x : Member) (left : Int) (hl : 0 ≤ left ∧ left ≤ 1048576) (w : Wf.wf x) : ∃ v, laws_szMember x left = some v ∧ (v < 0 ∨ (0 ≤ v ∧ v + cnMember x = left)) := by
  unfold laws_szMember
  obtain ⟨v0, e0, c0⟩ := laws_szSpellS_cn x.Spells left hl w.2.2.1
  rw [e0]
  simp only [Option.bind_some]
  rcases c0 with c0 | c0
  · exact ⟨-1, by simp [c0], .inl (by omega)⟩
  rw [decide_eq_false (by omega : ¬ v0 < 0)]
  simp only [cond_false]
  obtain ⟨v1, e1, c1⟩ := laws_szEventS_cn x.Events v0 ⟨by omega, by omega⟩ w.2.2.2
  rw [e1]
  simp only [Option.bind_some]
  rcases c1 with c1 | c1
  · exact ⟨-1, by simp [c1], .inl (by omega)⟩
  rw [decide_eq_false (by omega : ¬ v1 < 0)]
  simp only [cond_false]
  exact ⟨_, rfl, .inr ⟨by omega, by unfold cnMember; omega⟩⟩

def smCase (x : Case) : Prop := smBook x.Book ∧ smStore x.Store ∧ smSeries x.Series ∧ smMember x.Member

def cnCase (x : Case) : Nat := cnBook x.Book + cnStore x.Store + cnSeries x.Series + cnMember x.Member

theorem smCase_of (x : Case) (h : cnCase x ≤ 1048576) : smCase x := by
  unfold cnCase at h
  exact ⟨smBook_of x.Book (by omega), smStore_of x.Store (by omega), smSeries_of x.Series (by omega), smMember_of x.Member (by omega)⟩

theorem laws_toCase_eq (x : Case) (h : smCase x) : laws_toCase x = some x := by
  obtain ⟨h0, h1, h2, h3⟩ := h
  unfold laws_toCase
  simp only [laws_toBook_eq x.Book h0, laws_toStore_eq x.Store h1, laws_toSeries_eq x.Series h2, laws_toMember_eq x.Member h3, Option.bind_some]

theorem laws_eqCase_refl (x : Case) (h : smCase x) : laws_eqCase x x = some true := by
  obtain ⟨h0, h1, h2, h3⟩ := h
  unfold laws_eqCase
  simp [laws_eqBook_refl x.Book h0, laws_eqStore_refl x.Store h1, laws_eqSeries_refl x.Series h2, laws_eqMember_refl x.Member h3]

theorem laws_szCase_cn (x : Case) (left : Int) (hl : 0 ≤ left ∧ left ≤ 1048576) (w : Wf.wf x) : ∃ v, laws_szCase x left = some v ∧ (v < 0 ∨ (0 ≤ v ∧ v + cnCase x = left)) := by
  unfold laws_szCase
  obtain ⟨v0, e0, c0⟩ := laws_szBook_cn x.Book left hl w.1
  rw [e0]
  simp only [Option.bind_some]
  rcases c0 with c0 | c0
  · exact ⟨-1, by simp [c0], .inl (by omega)⟩
  rw [decide_eq_false (by omega : ¬ v0 < 0)]
  simp only [cond_false]
  obtain ⟨v1, e1, c1⟩ := laws_szStore_cn x.Store v0 ⟨by omega, by omega⟩ w.2.1
  rw [e1]
  simp only [Option.bind_some]
  rcases c1 with c1 | c1
  · exact ⟨-1, by simp [c1], .inl (by omega)⟩
  rw [decide_eq_false (by omega : ¬ v1 < 0)]
  simp only [cond_false]
  obtain ⟨v2, e2, c2⟩ := laws_szSeries_cn x.Series v1 ⟨by omega, by omega⟩ w.2.2.1
  rw [e2]
  simp only [Option.bind_some]
  rcases c2 with c2 | c2
  · exact ⟨-1, by simp [c2], .inl (by omega)⟩
  rw [decide_eq_false (by omega : ¬ v2 < 0)]
  simp only [cond_false]
  obtain ⟨v3, e3, c3⟩ := laws_szMember_cn x.Member v2 ⟨by omega, by omega⟩ w.2.2.2
  rw [e3]
  simp only [Option.bind_some]
  rcases c3 with c3 | c3
  · exact ⟨-1, by simp [c3], .inl (by omega)⟩
  rw [decide_eq_false (by omega : ¬ v3 < 0)]
  simp only [cond_false]
  exact ⟨_, rfl, .inr ⟨by omega, by unfold cnCase; omega⟩⟩

def smOffice (x : Office) : Prop := smCase x.Case ∧ x.Paid.length ≤ 1048576

def cnOffice (x : Office) : Nat := cnCase x.Case + x.Paid.length

theorem smOffice_of (x : Office) (h : cnOffice x ≤ 1048576) : smOffice x := by
  unfold cnOffice at h
  exact ⟨smCase_of x.Case (by omega), by omega⟩

theorem laws_toOffice_eq (x : Office) (h : smOffice x) : laws_toOffice x = some x := by
  obtain ⟨h0, h1⟩ := h
  unfold laws_toOffice
  simp only [laws_toCase_eq x.Case h0, laws_toIntS_eq x.Paid h1, Option.bind_some]

theorem laws_eqOffice_refl (x : Office) (h : smOffice x) : laws_eqOffice x x = some true := by
  obtain ⟨h0, h1⟩ := h
  unfold laws_eqOffice
  simp [laws_eqCase_refl x.Case h0, laws_eqIntS_refl x.Paid h1]

theorem laws_szOffice_cn (x : Office) (left : Int) (hl : 0 ≤ left ∧ left ≤ 1048576) (w : Wf.wf x) : ∃ v, laws_szOffice x left = some v ∧ (v < 0 ∨ (0 ≤ v ∧ v + cnOffice x = left)) := by
  unfold laws_szOffice
  obtain ⟨v0, e0, c0⟩ := laws_szCase_cn x.Case left hl w.1
  rw [e0]
  simp only [Option.bind_some]
  rcases c0 with c0 | c0
  · exact ⟨-1, by simp [c0], .inl (by omega)⟩
  rw [decide_eq_false (by omega : ¬ v0 < 0)]
  simp only [cond_false]
  obtain ⟨v1, e1, c1⟩ := laws_szIntS_cn x.Paid v0 ⟨by omega, by omega⟩ w.2.2
  rw [e1]
  simp only [Option.bind_some]
  rcases c1 with c1 | c1
  · exact ⟨-1, by simp [c1], .inl (by omega)⟩
  rw [decide_eq_false (by omega : ¬ v1 < 0)]
  simp only [cond_false]
  exact ⟨_, rfl, .inr ⟨by omega, by unfold cnOffice; omega⟩⟩

theorem laws_szOffice_ex (x : Office) (left : Int) (hl : 0 ≤ left ∧ left ≤ 1048576) (w : Wf.wf x) : ∃ v, laws_szOffice x left = some v ∧ (v < 0 ∨ (smOffice x ∧ 0 ≤ v ∧ v ≤ 1048576)) := by
  obtain ⟨v, e, c⟩ := laws_szOffice_cn x left hl w
  exact ⟨v, e, c.imp_right fun h => ⟨smOffice_of x (by omega), by omega⟩⟩

theorem smCase_B {c : Case} (h : smCase c) : caseB c := by
  obtain ⟨h1, h2, h3, h4, h5⟩ := h
  unfold smBook at h1
  unfold smStore at h2
  unfold smSeries at h3
  have hl := cnRule_len c.Book.Rules
  refine ⟨⟨by omega, fun k hk => ?_⟩, by omega, by omega, by omega, by omega⟩
  have := cnRule_mem (gt_mem hk)
  unfold cnRule at this
  omega

theorem smOffice_B {o : Office} (h : smOffice o) : officeB o := ⟨smCase_B h.1, by have := h.2; omega⟩

def eqW {α : Type} [Inhabited α] (p : α → α → Bool) (x y : List α) : Bool := ((x.length : Int) == (y.length : Int)) && allN x.length (fun k => p (gt x k) (gt y k))

theorem eq_scan {α ι : Type} [Inhabited α] (x y : List α) (p : α → α → Bool) (u : ι) (hl : x.length = y.length) (hn : x.length ≤ 1099511627776) :
    loopW (ρ := ι ⊕ Bool) (fun s : Int => cond (decide (s < (x.length : Int))) ((idx x s).bind fun a => (idx y s).bind fun b => cond (!(p a b)) (some (.done (.inr false))) (some (.cont (w64 (s + 1))))) (some (.done (.inl u)))) 0
      = some (if allN x.length (fun k => p (gt x k) (gt y k)) = true then Sum.inl u else Sum.inr false) :=
  scan_bool x.length (fun k => p (gt x k) (gt y k)) u (fun k hk => by
    rw [decide_eq_true (by omega)]
    simp only [cond_true, idx_gt hk, idx_gt (hl ▸ hk : k < y.length), Option.bind_some]
    rw [w64_nat (by omega)]
    cases p (gt x k) (gt y k) <;> rfl)
    (by rw [decide_eq_false (by omega)]; rfl)

theorem eqW_ne {α : Type} [Inhabited α] {p : α → α → Bool} {x y : List α} (h : ((x.length : Int) == (y.length : Int)) = false) : eqW p x y = false := by unfold eqW; rw [h]; rfl

theorem eqW_eq {α : Type} [Inhabited α] {p : α → α → Bool} {x y : List α} (h : ((x.length : Int) == (y.length : Int)) = true) : eqW p x y = allN x.length (fun k => p (gt x k) (gt y k)) := by unfold eqW; rw [h]; rfl

theorem len_eq {α : Type} {x y : List α} (h : ((x.length : Int) == (y.length : Int)) = true) : x.length = y.length := by
  have := beq_iff_eq.1 h
  omega

theorem equal_eq {α : Type} [Inhabited α] (x y : List α) (p : α → α → Bool) (hn : x.length ≤ 1099511627776) :
    (cond ((x.length : Int) != (y.length : Int)) (some false) ((loopW (ρ := (Unit) ⊕ (Bool)) (fun s : Int => cond (decide (s < (x.length : Int))) ((idx x s).bind fun a => (idx y s).bind fun b => cond (!(p a b)) (some (.done (.inr false))) (some (.cont (w64 (s + 1))))) (some (.done (.inl ())))) 0).bind fun r => brkE r (fun (_ : Unit) => some true) (some)) : Option Bool)
      = some (eqW p x y) := by
  unfold bne
  cases h : ((x.length : Int) == (y.length : Int)) with
  | false => rw [eqW_ne h]; rfl
  | true =>
    rw [eqW_eq h, eq_scan x y p () (len_eq h) hn, bind_brk]
    cases allN x.length (fun k => p (gt x k) (gt y k)) <;> rfl

def qNode (a b : Node) : Bool := (a.Kind == b.Kind) && ((a.A == b.A) && ((a.B == b.B) && ((a.C == b.C) && (((a.Value.Num == b.Value.Num) && ((a.Value.Den == b.Value.Den) && true)) && true))))

def qFact (a b : Fact) : Bool := (a.Key == b.Key) && ((a.From == b.From) && ((a.To == b.To) && ((a.Known == b.Known) && ((a.Value == b.Value) && true))))

def qPoint (a b : Point) : Bool := (a.Month == b.Month) && ((a.Known == b.Known) && ((a.Value == b.Value) && true))

def qSpell (a b : Spell) : Bool := (a.From == b.From) && ((a.To == b.To) && ((a.Percent == b.Percent) && ((a.Leave == b.Leave) && true)))

def qEvent (a b : Event) : Bool := (a.Kind == b.Kind) && ((a.Month == b.Month) && true)

def qRule (a b : Rule) : Bool := (a.Name == b.Name) && ((a.From == b.From) && ((a.To == b.To) && ((a.Joined == b.Joined) && ((a.Rank == b.Rank) && ((a.Mode == b.Mode) && eqW qNode a.Nodes b.Nodes)))))

theorem eqNode (x y : List Node) (h : x.length ≤ 1099511627776) : slices_Equal_Node x y = some (eqW qNode x y) := equal_eq x y qNode h

theorem eqFact (x y : List Fact) (h : x.length ≤ 1099511627776) : slices_Equal_Fact x y = some (eqW qFact x y) := equal_eq x y qFact h

theorem eqPoint (x y : List Point) (h : x.length ≤ 1099511627776) : slices_Equal_Point x y = some (eqW qPoint x y) := equal_eq x y qPoint h

theorem eqSpell (x y : List Spell) (h : x.length ≤ 1099511627776) : slices_Equal_Spell x y = some (eqW qSpell x y) := equal_eq x y qSpell h

theorem eqEvent (x y : List Event) (h : x.length ≤ 1099511627776) : slices_Equal_Event x y = some (eqW qEvent x y) := equal_eq x y qEvent h

theorem eqInt (x y : List Int) (h : x.length ≤ 1099511627776) : slices_Equal_int x y = some (eqW (fun a b => a == b) x y) := equal_eq x y (fun a b => a == b) h

theorem rule_eq (a b : Rule) (h : a.Nodes.length ≤ 1099511627776) : impl_SameOffice_1 a b = some (qRule a b) := by
  unfold impl_SameOffice_1 qRule
  rw [eqNode a.Nodes b.Nodes h]
  generalize (a.Name == b.Name) = b1
  generalize (a.From == b.From) = b2
  generalize (a.To == b.To) = b3
  generalize (a.Joined == b.Joined) = b4
  generalize (a.Rank == b.Rank) = b5
  generalize (a.Mode == b.Mode) = b6
  generalize eqW qNode a.Nodes b.Nodes = b7
  cases b1
  · rfl
  cases b2
  · rfl
  cases b3
  · rfl
  cases b4
  · rfl
  cases b5
  · rfl
  cases b6 <;> rfl

theorem rules_eq (x y : List Rule) (h : x.length ≤ 1099511627776) (hn : ∀ k, k < x.length → (gt x k).Nodes.length ≤ 1099511627776) : slices_EqualFunc_Rule__impl_SameOffice_1 x y = some (eqW qRule x y) := by
  unfold slices_EqualFunc_Rule__impl_SameOffice_1 bne
  cases hc : ((x.length : Int) == (y.length : Int)) with
  | false => rw [eqW_ne hc]; rfl
  | true =>
    have hl := len_eq hc
    rw [eqW_eq hc, scan_bool x.length (fun k => qRule (gt x k) (gt y k)) () (fun k hk => by
      rw [decide_eq_true (by omega)]
      simp only [cond_true, idx_gt hk, idx_gt (hl ▸ hk : k < y.length), Option.bind_some]
      rw [rule_eq _ _ (hn k hk), w64_nat (by omega)]
      simp only [Option.bind_some]
      cases qRule (gt x k) (gt y k) <;> rfl)
      (by rw [decide_eq_false (by omega)]; rfl)]
    simp only [Bool.not_true, cond_false]
    rw [bind_brk]
    cases allN x.length (fun k => qRule (gt x k) (gt y k)) <;> rfl

theorem spec_rules_eq (a b : Book) (h : a.Rules.length ≤ 1099511627776) (hn : ∀ k, k < a.Rules.length → (gt a.Rules k).Nodes.length ≤ 1099511627776) : spec_l39Rules a b = some (eqW qRule a.Rules b.Rules) := by
  obtain ⟨x⟩ := a
  obtain ⟨y⟩ := b
  unfold spec_l39Rules
  simp only at h hn ⊢
  unfold bne
  cases hc : ((x.length : Int) == (y.length : Int)) with
  | false => rw [eqW_ne hc]; rfl
  | true =>
    have hl := len_eq hc
    rw [eqW_eq hc, scan_bool x.length (fun k => qRule (gt x k) (gt y k)) () (fun k hk => by
      rw [decide_eq_true (by omega)]
      simp only [cond_true, idx_gt hk, idx_gt (hl ▸ hk : k < y.length), Option.bind_some]
      rw [w64_nat (by omega)]
      have hk2 := hn k hk
      generalize gt x k = r at hk2 ⊢
      generalize gt y k = r'
      unfold qRule
      generalize (r.Name == r'.Name) = b1
      generalize (r.From == r'.From) = b2
      generalize (r.To == r'.To) = b3
      generalize (r.Joined == r'.Joined) = b4
      generalize (r.Rank == r'.Rank) = b5
      generalize (r.Mode == r'.Mode) = b6
      cases b1
      · rfl
      cases b2
      · rfl
      cases b3
      · rfl
      cases b4
      · rfl
      cases b5
      · rfl
      cases b6
      · rfl
      cases hq : ((r.Nodes.length : Int) == (r'.Nodes.length : Int)) with
      | false => rw [eqW_ne hq]; rfl
      | true =>
        have e := eq_scan r.Nodes r'.Nodes qNode () (len_eq hq) hk2
        simp only [qNode] at e
        simp only [Bool.not_true, cond_false, Option.bind_some, e, eqW_eq hq, Bool.true_and]
        unfold qNode
        cases allN r.Nodes.length _ <;> rfl)
      (by rw [decide_eq_false (by omega)]; rfl)]
    simp only [Bool.not_true, cond_false]
    rw [bind_brk]
    cases allN x.length (fun k => qRule (gt x k) (gt y k)) <;> rfl

def qMember (a b : Member) : Bool := (a.Birth == b.Birth) && ((a.Joined == b.Joined) && (eqW qSpell a.Spells b.Spells && eqW qEvent a.Events b.Events))

def qTimes (a b : Case) : Bool := eqW qFact a.Store.Facts b.Store.Facts && eqW qPoint a.Series.Points b.Series.Points

theorem spec_member_eq (a b : Member) (h : a.Spells.length ≤ 1099511627776) (h' : a.Events.length ≤ 1099511627776) : spec_l39Member a b = some (qMember a b) := by
  unfold spec_l39Member qMember bne
  generalize (a.Birth == b.Birth) = b1
  generalize (a.Joined == b.Joined) = b2
  cases b1
  · rfl
  cases b2
  · rfl
  cases hq : ((a.Spells.length : Int) == (b.Spells.length : Int)) with
  | false => rw [eqW_ne hq]; rfl
  | true =>
    cases hr : ((a.Events.length : Int) == (b.Events.length : Int)) with
    | false => rw [eqW_ne hr]; simp
    | true =>
      have e1 := fun u => eq_scan (ι := Int × Int × Int × Int) a.Spells b.Spells qSpell u (len_eq hq) h
      have e2 := fun u => eq_scan (ι := Int × Int × Int × Int) a.Events b.Events qEvent u (len_eq hr) h'
      simp only [qSpell] at e1
      simp only [qEvent] at e2
      simp only [Bool.not_true, cond_false, Option.bind_some, e1, e2, eqW_eq hq, eqW_eq hr, bind_brk, Bool.true_and]
      unfold qSpell qEvent
      cases allN a.Spells.length _ <;> cases allN a.Events.length _ <;> rfl

theorem spec_times_eq (a b : Case) (h : a.Store.Facts.length ≤ 1099511627776) (h' : a.Series.Points.length ≤ 1099511627776) : spec_l39Times a b = some (qTimes a b) := by
  unfold spec_l39Times qTimes bne
  cases hq : ((a.Store.Facts.length : Int) == (b.Store.Facts.length : Int)) with
  | false => rw [eqW_ne hq]; rfl
  | true =>
    cases hr : ((a.Series.Points.length : Int) == (b.Series.Points.length : Int)) with
    | false => rw [eqW_ne hr]; simp
    | true =>
      have e1 := fun u => eq_scan (ι := Int × Int × Int × Int) a.Store.Facts b.Store.Facts qFact u (len_eq hq) h
      have e2 := fun u => eq_scan (ι := Int × Int × Int × Int) a.Series.Points b.Series.Points qPoint u (len_eq hr) h'
      simp only [qFact] at e1
      simp only [qPoint] at e2
      simp only [Bool.not_true, cond_false, Option.bind_some, e1, e2, eqW_eq hq, eqW_eq hr, bind_brk]
      unfold qFact qPoint
      cases allN a.Store.Facts.length _ <;> cases allN a.Series.Points.length _ <;> rfl

def qOffice (a b : Office) : Bool := eqW qRule a.Case.Book.Rules b.Case.Book.Rules && (qTimes a.Case b.Case && (qMember a.Case.Member b.Case.Member && ((a.Start == b.Start) && eqW (fun x y => x == y) a.Paid b.Paid)))

theorem impl_SameOffice_eq (a b : Office) (h : officeB a) : impl_SameOffice a b = some (qOffice a b) := by
  obtain ⟨⟨⟨h1, h2⟩, h3, h4, h5, h6⟩, h7⟩ := h
  unfold impl_SameOffice qOffice qTimes qMember
  rw [rules_eq _ _ (by omega) (fun k hk => by have := h2 k hk; omega), eqFact _ _ (by omega), eqPoint _ _ (by omega), eqSpell _ _ (by omega), eqEvent _ _ (by omega), eqInt _ _ (by omega)]
  generalize (a.Case.Member.Birth == b.Case.Member.Birth) = b1
  generalize (a.Case.Member.Joined == b.Case.Member.Joined) = b2
  generalize (a.Start == b.Start) = b3
  generalize eqW qRule a.Case.Book.Rules b.Case.Book.Rules = b4
  generalize eqW qFact a.Case.Store.Facts b.Case.Store.Facts = b5
  generalize eqW qPoint a.Case.Series.Points b.Case.Series.Points = b6
  generalize eqW qSpell a.Case.Member.Spells b.Case.Member.Spells = b7
  generalize eqW qEvent a.Case.Member.Events b.Case.Member.Events = b8
  cases b4
  · rfl
  cases b5
  · rfl
  cases b6
  · rfl
  cases b1
  · rfl
  cases b2
  · rfl
  cases b7
  · rfl
  cases b8
  · rfl
  cases b3 <;> rfl

theorem spec_SameOffice_eq (a b : Office) (h : officeB a) : spec_SameOffice a b = some (qOffice a b) := by
  obtain ⟨⟨⟨h1, h2⟩, h3, h4, h5, h6⟩, h7⟩ := h
  unfold spec_SameOffice qOffice bne
  rw [spec_rules_eq _ _ (by omega) (fun k hk => by have := h2 k hk; omega), spec_member_eq _ _ (by omega) (by omega), spec_times_eq _ _ (by omega) (by omega)]
  generalize qTimes a.Case b.Case = b1
  generalize qMember a.Case.Member b.Case.Member = b2
  generalize (a.Start == b.Start) = b3
  generalize eqW qRule a.Case.Book.Rules b.Case.Book.Rules = b4
  cases b3
  · cases b4 <;> cases b1 <;> cases b2 <;> rfl
  cases hq : ((a.Paid.length : Int) == (b.Paid.length : Int)) with
  | false => rw [eqW_ne hq]; cases b4 <;> cases b1 <;> cases b2 <;> rfl
  | true =>
    have e1 := fun u => eq_scan (ι := Int × Int × Int × Int × Int × Int) a.Paid b.Paid (fun x y => x == y) u (len_eq hq) (by omega)
    cases b4
    · rfl
    cases b2
    · cases b1 <;> rfl
    cases b1
    · rfl
    simp only [Bool.not_true, cond_false, Option.bind_some, e1, eqW_eq hq, bind_brk, Bool.true_and]
    cases allN a.Paid.length _ <;> rfl

theorem SameOffice_law (a b : Office) (wa : Wf.wf a) (wb : Wf.wf b) : laws_FnExactSameOffice a b = some true := by
  unfold laws_FnExactSameOffice
  obtain ⟨v, e0, c0⟩ := laws_szOffice_ex a 1048576 (by omega) wa
  rw [e0]
  simp only [Option.bind_some]
  rcases c0 with c0 | ⟨h, c1⟩
  · simp [c0]
  rw [decide_eq_false (by omega : ¬ v < 0)]
  obtain ⟨v2, e2, c2⟩ := laws_szOffice_ex b v (by omega) wb
  simp only [cond_false, e2, Option.bind_some]
  rcases c2 with c2 | ⟨h2, c3⟩
  · simp [c2]
  rw [decide_eq_false (by omega : ¬ v2 < 0)]
  simp [laws_toOffice_eq a h, laws_toOffice_eq b h2, laws_eqOffice_refl a h, laws_eqOffice_refl b h2, impl_SameOffice_eq a b (smOffice_B h), spec_SameOffice_eq a b (smOffice_B h)]

end Go.Pen
