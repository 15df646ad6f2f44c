import Derived.Test.YtnbcacemikahjaaF
import Derived.Test.YtnbcacemikahjaaPenU
import Derived.Test.YtnbcacemikahjaaPenV
namespace Go.Pen
set_option linter.unusedVariables false
set_option linter.unusedSimpArgs false

theorem joinP_eq {β τ : Type} (K : β → Option τ) (B : (β → Option τ) → Option τ) : joinP K B = B K := rfl

instance : Inhabited Frac := ⟨⟨0, 0⟩⟩

instance : Inhabited Fact := ⟨⟨0, 0, 0, 0, 0⟩⟩

instance : Inhabited Point := ⟨⟨0, 0, 0⟩⟩

instance : Inhabited Spell := ⟨⟨0, 0, 0, false⟩⟩

instance : Inhabited Event := ⟨⟨0, 0⟩⟩

instance : Inhabited Node := ⟨⟨0, 0, 0, 0, ⟨0, 0⟩⟩⟩

instance : Inhabited Rule := ⟨⟨0, 0, 0, 0, 0, 0, []⟩⟩

def gt {α : Type} [Inhabited α] (l : List α) (k : Nat) : α := (l[k]?).getD default

theorem gt_of {α : Type} [Inhabited α] {l : List α} {k : Nat} {x : α} (h : l[k]? = some x) : gt l k = x := by unfold gt; rw [h]; rfl

theorem at_gt {α : Type} [Inhabited α] {l : List α} {k : Nat} (h : k < l.length) : l[k]? = some (gt l k) := by unfold gt; rw [List.getElem?_eq_getElem h]; rfl

theorem idx_gt {α : Type} [Inhabited α] {l : List α} {k : Nat} (h : k < l.length) : idx l (k : Int) = some (gt l k) := (idx_nat l k).trans (at_gt h)

theorem gt_mem {α : Type} [Inhabited α] {l : List α} {k : Nat} (h : k < l.length) : gt l k ∈ l := List.mem_of_getElem? (at_gt h)

def allN (N : Nat) (p : Nat → Bool) : Bool := (List.range N).all p

theorem allN_true {N : Nat} {p : Nat → Bool} : allN N p = true ↔ ∀ k, k < N → p k = true := by simp [allN]

theorem allN_false {N : Nat} {p : Nat → Bool} (h : allN N p = false) : ∃ k, k < N ∧ p k = false ∧ ∀ j, j < k → p j = true := by
  induction N with
  | zero => simp [allN] at h
  | succ N ih =>
    cases h1 : allN N p with
    | false => obtain ⟨k, a, b, c⟩ := ih h1; exact ⟨k, by omega, b, c⟩
    | true =>
      refine ⟨N, by omega, ?_, allN_true.1 h1⟩
      cases h2 : p N with
      | false => rfl
      | true =>
        have : allN (N + 1) p = true := allN_true.2 fun k hk => by
          by_cases e : k = N
          · subst e; exact h2
          · exact allN_true.1 h1 k (by omega)
        rw [this] at h; cases h

theorem scan_up {ι ρ : Type} (N : Nat) (p : Nat → Bool) (v : Nat → ρ) (u : ι) {body : Int → Option (LS Int (ι ⊕ ρ))} (hs : ∀ k, k < N → body (k : Int) = some (if p k = true then .cont ((k + 1 : Nat) : Int) else .done (.inr (v k)))) (he : body (N : Int) = some (.done (.inl u))) :
    (allN N p = true ∧ loopW body 0 = some (.inl u)) ∨ (allN N p = false ∧ ∃ k, k < N ∧ p k = false ∧ (∀ j, j < k → p j = true) ∧ loopW body 0 = some (.inr (v k))) := by
  have e0 : ((0 : Nat) : Int) = 0 := rfl
  cases h : allN N p with
  | true =>
    refine .inl ⟨rfl, ?_⟩
    have h1 := loopW_count (body := body) (fun k => ((k : Nat) : Int)) N (fun k hk => by rw [hs k hk, if_pos (allN_true.1 h k hk)])
    rw [e0] at h1
    rw [h1, loopW_done he]
  | false =>
    obtain ⟨k, hk, hp, hj⟩ := allN_false h
    refine .inr ⟨rfl, k, hk, hp, hj, ?_⟩
    have h1 := loopW_count (body := body) (fun k => ((k : Nat) : Int)) k (fun j hjk => by rw [hs j (by omega), if_pos (hj j hjk)])
    rw [e0] at h1
    rw [h1, loopW_done (by rw [hs k hk, hp]; rfl)]

theorem clone_Fact_eq (l : List Fact) (h : l.length ≤ 1099511627776) : slices_Clone_Fact l = some l := by
  unfold slices_Clone_Fact; rw [appC_ok _ _ (by simpa using h)]; rfl

theorem impl_copyStore_eq (s : Store) (h : s.Facts.length ≤ 1099511627776) : impl_copyStore s = some s := by
  unfold impl_copyStore
  rw [clone_Fact_eq _ h]
  rfl

theorem clone_Point_eq (l : List Point) (h : l.length ≤ 1099511627776) : slices_Clone_Point l = some l := by
  unfold slices_Clone_Point; rw [appC_ok _ _ (by simpa using h)]; rfl

theorem copySeries_eq (s : Series) (h : s.Points.length ≤ 1099511627776) : impl_copySeries s = some s := by
  unfold impl_copySeries; rw [clone_Point_eq _ h]; rfl

def bookB (b : Book) : Prop := b.Rules.length ≤ 1000000000 ∧ ∀ k, k < b.Rules.length → (gt b.Rules k).Nodes.length ≤ 1000000000

theorem impl_copyNodes_eq (l : List Node) (h : l.length ≤ 1099511627776) : impl_copyNodes l = some l := by
  unfold impl_copyNodes slices_Clone_Node
  rw [appC_ok _ _ (by simpa using h)]
  rfl

theorem take_gt {α : Type} [Inhabited α] {l : List α} {k : Nat} (h : k < l.length) : l.take k ++ [gt l k] = l.take (k + 1) := by
  rw [List.take_add_one, at_gt h]
  rfl

theorem impl_copyBook_eq (b : Book) (h : bookB b) : impl_copyBook b = some b := by
  obtain ⟨hl, hn⟩ := h
  unfold impl_copyBook
  have h1 := loopW_count (ρ := List Rule ⊕ Book) (body := fun (s21 : Int × (List Rule)) =>
    cond (decide (s21.1 < (b.Rules.length : Int)))
      ((idx b.Rules s21.1).bind fun x37 =>
      (impl_copyNodes x37.Nodes).bind fun t44 =>
      (appC s21.2 ([Rule.mk x37.Name x37.From x37.To x37.Joined x37.Rank x37.Mode t44] : List Rule)).bind fun l51 =>
      some (.cont (w64 (s21.1 + 1), l51)))
      (some (.done (.inl s21.2)))) (fun k => ((k : Int), b.Rules.take k)) b.Rules.length (fun k hk => by
    have hnk := hn k hk
    simp only [show ((k : Int) < (b.Rules.length : Int)) by omega, decide_true, cond_true, idx_gt hk, Option.bind_some, impl_copyNodes_eq _ (show (gt b.Rules k).Nodes.length ≤ 1099511627776 by omega)]
    have e : Rule.mk (gt b.Rules k).Name (gt b.Rules k).From (gt b.Rules k).To (gt b.Rules k).Joined (gt b.Rules k).Rank (gt b.Rules k).Mode (gt b.Rules k).Nodes = gt b.Rules k := rfl
    rw [e, appC_ok _ _ (by simp; omega), take_gt hk, w64_nat (by omega)]
    rfl)
  have e0 : ((((0 : Nat) : Int)), b.Rules.take 0) = (0, []) := rfl
  rw [e0] at h1
  rw [h1, loopW_done (r := .inl b.Rules) (by simp)]
  rfl

theorem spec_copyBook_eq (b : Book) (h : bookB b) : spec_l10Copy b = some b := by
  obtain ⟨hl, hn⟩ := h
  unfold spec_l10Copy
  have h1 := loopW_count (ρ := List Rule ⊕ Book) (body := fun (s21 : Int × (List Rule)) =>
    cond (decide (s21.1 < (b.Rules.length : Int)))
      ((idx b.Rules s21.1).bind fun x37 =>
      (spec_l10Rule x37).bind fun t44 =>
      (appC s21.2 ([t44] : List Rule)).bind fun l50 =>
      some (.cont (w64 (s21.1 + 1), l50)))
      (some (.done (.inl s21.2)))) (fun k => ((k : Int), b.Rules.take k)) b.Rules.length (fun k hk => by
    have hnk := hn k hk
    have e : spec_l10Rule (gt b.Rules k) = some (gt b.Rules k) := by
      unfold spec_l10Rule
      rw [appC_ok _ _ (by simp; omega)]
      rfl
    simp only [show ((k : Int) < (b.Rules.length : Int)) by omega, decide_true, cond_true, idx_gt hk, Option.bind_some, e]
    rw [appC_ok _ _ (by simp; omega), take_gt hk, w64_nat (by omega)]
    rfl)
  have e0 : ((((0 : Nat) : Int)), b.Rules.take 0) = (0, []) := rfl
  rw [e0] at h1
  rw [h1, loopW_done (r := .inl b.Rules) (by simp)]
  rfl

def caseB (c : Case) : Prop := bookB c.Book ∧ c.Store.Facts.length ≤ 1000000000 ∧ c.Series.Points.length ≤ 1000000000 ∧ c.Member.Spells.length ≤ 1000000000 ∧ c.Member.Events.length ≤ 1000000000

theorem impl_copyMember_eq (x : Member) (h1 : x.Spells.length ≤ 1000000000) (h2 : x.Events.length ≤ 1000000000) : impl_copyMember x = some x := by
  unfold impl_copyMember slices_Clone_Spell slices_Clone_Event
  rw [appC_ok _ _ (by simp; omega)]
  simp only [List.nil_append, Option.bind_some]
  rw [appC_ok _ _ (by simp; omega)]
  rfl

theorem spec_copyMember_eq (x : Member) (h1 : x.Spells.length ≤ 1000000000) (h2 : x.Events.length ≤ 1000000000) : spec_l34Member x = some x := by
  unfold spec_l34Member
  rw [appC_ok _ _ (by simp; omega)]
  simp only [List.nil_append, Option.bind_some]
  rw [appC_ok _ _ (by simp; omega)]
  rfl

theorem impl_copyCase_eq (c : Case) (h : caseB c) : impl_copyCase c = some c := by
  obtain ⟨h1, h2, h3, h4, h5⟩ := h
  unfold impl_copyCase
  rw [impl_copyBook_eq c.Book h1, impl_copyStore_eq c.Store (by omega), copySeries_eq c.Series (by omega), impl_copyMember_eq c.Member h4 h5]
  rfl

theorem loop_all {σ ρ : Type} {body : σ → Option (LS σ ρ)} {s0 : σ} {r : ρ} (I : Nat → σ) (N : Nat) (h0 : I 0 = s0) (hs : ∀ k, k < N → body (I k) = some (.cont (I (k + 1)))) (he : body (I N) = some (.done r)) : loopW body s0 = some r := by
  rw [← h0, loopW_count I N hs, loopW_done he]

theorem loop_bind {σ ρ τ : Type} {body : σ → Option (LS σ ρ)} {s0 : σ} {r : ρ} {K : ρ → Option τ} {v : Option τ} (I : Nat → σ) (N : Nat) (h0 : I 0 = s0) (hs : ∀ k, k < N → body (I k) = some (.cont (I (k + 1)))) (he : body (I N) = some (.done r)) (hk : K r = v) : (loopW body s0).bind K = v := by
  rw [loop_all I N h0 hs he]; exact hk

theorem laws_toNodeS_eq (x0 : List Node) (h : x0.length ≤ 1048576) : laws_toNodeS x0 = some x0 := by
  unfold laws_toNodeS
  rw [mkL_len x0 (Node.mk 0 0 0 0 (Frac.mk 0 0) : Node) (by omega)]
  simp only [Option.bind_some]
  rw [copy_loop x0 (Node.mk 0 0 0 0 (Frac.mk 0 0) : Node) (by omega)]
  · rfl
  · intro k x l hx hk
    have hk0 := (List.getElem?_eq_some_iff.1 hx).1
    simp only [idx_nat, hx, laws_toNode, laws_toFrac, List.getElem?_eq_getElem hk, Option.bind_some, w64_nat (by omega : k < 9223372036854775807), show ((k : Int) < (x0.length : Int)) by omega, decide_true, cond_true, Int.toNat_natCast]
  · intro l
    simp

theorem laws_toFactS_eq (x0 : List Fact) (h : x0.length ≤ 1048576) : laws_toFactS x0 = some x0 := by
  unfold laws_toFactS
  rw [mkL_len x0 (Fact.mk 0 0 0 0 0 : Fact) (by omega)]
  simp only [Option.bind_some]
  rw [copy_loop x0 (Fact.mk 0 0 0 0 0 : Fact) (by omega)]
  · rfl
  · intro k x l hx hk
    have hk0 := (List.getElem?_eq_some_iff.1 hx).1
    simp only [idx_nat, hx, laws_toFact, List.getElem?_eq_getElem hk, Option.bind_some, w64_nat (by omega : k < 9223372036854775807), show ((k : Int) < (x0.length : Int)) by omega, decide_true, cond_true, Int.toNat_natCast]
  · intro l
    simp

theorem laws_toPointS_eq (x0 : List Point) (h : x0.length ≤ 1048576) : laws_toPointS x0 = some x0 := by
  unfold laws_toPointS
  rw [mkL_len x0 (Point.mk 0 0 0 : Point) (by omega)]
  simp only [Option.bind_some]
  rw [copy_loop x0 (Point.mk 0 0 0 : Point) (by omega)]
  · rfl
  · intro k x l hx hk
    have hk0 := (List.getElem?_eq_some_iff.1 hx).1
    simp only [idx_nat, hx, laws_toPoint, List.getElem?_eq_getElem hk, Option.bind_some, w64_nat (by omega : k < 9223372036854775807), show ((k : Int) < (x0.length : Int)) by omega, decide_true, cond_true, Int.toNat_natCast]
  · intro l
    simp

theorem laws_toSpellS_eq (x0 : List Spell) (h : x0.length ≤ 1048576) : laws_toSpellS x0 = some x0 := by
  unfold laws_toSpellS
  rw [mkL_len x0 (Spell.mk 0 0 0 false : Spell) (by omega)]
  simp only [Option.bind_some]
  rw [copy_loop x0 (Spell.mk 0 0 0 false : Spell) (by omega)]
  · rfl
  · intro k x l hx hk
    have hk0 := (List.getElem?_eq_some_iff.1 hx).1
    simp only [idx_nat, hx, laws_toSpell, List.getElem?_eq_getElem hk, Option.bind_some, w64_nat (by omega : k < 9223372036854775807), show ((k : Int) < (x0.length : Int)) by omega, decide_true, cond_true, Int.toNat_natCast]
  · intro l
    simp

theorem laws_toEventS_eq (x0 : List Event) (h : x0.length ≤ 1048576) : laws_toEventS x0 = some x0 := by
  unfold laws_toEventS
  rw [mkL_len x0 (Event.mk 0 0 : Event) (by omega)]
  simp only [Option.bind_some]
  rw [copy_loop x0 (Event.mk 0 0 : Event) (by omega)]
  · rfl
  · intro k x l hx hk
    have hk0 := (List.getElem?_eq_some_iff.1 hx).1
    simp only [idx_nat, hx, laws_toEvent, List.getElem?_eq_getElem hk, Option.bind_some, w64_nat (by omega : k < 9223372036854775807), show ((k : Int) < (x0.length : Int)) by omega, decide_true, cond_true, Int.toNat_natCast]
  · intro l
    simp

theorem laws_eqNodeS_refl (x0 : List Node) (h : x0.length ≤ 1048576) : laws_eqNodeS x0 x0 = some true := by
  unfold laws_eqNodeS
  simp only [bne_self_eq_false, cond_false]
  rw [eq_loop x0]
  · rfl
  · intro k x hx
    have hk0 := (List.getElem?_eq_some_iff.1 hx).1
    simp [idx_nat, hx, laws_eqNode, laws_eqFrac, w64_nat (by omega : k < 9223372036854775807), hk0]
  · simp

theorem laws_eqFactS_refl (x0 : List Fact) (h : x0.length ≤ 1048576) : laws_eqFactS x0 x0 = some true := by
  unfold laws_eqFactS
  simp only [bne_self_eq_false, cond_false]
  rw [eq_loop x0]
  · rfl
  · intro k x hx
    have hk0 := (List.getElem?_eq_some_iff.1 hx).1
    simp [idx_nat, hx, laws_eqFact, w64_nat (by omega : k < 9223372036854775807), hk0]
  · simp

theorem laws_eqPointS_refl (x0 : List Point) (h : x0.length ≤ 1048576) : laws_eqPointS x0 x0 = some true := by
  unfold laws_eqPointS
  simp only [bne_self_eq_false, cond_false]
  rw [eq_loop x0]
  · rfl
  · intro k x hx
    have hk0 := (List.getElem?_eq_some_iff.1 hx).1
    simp [idx_nat, hx, laws_eqPoint, w64_nat (by omega : k < 9223372036854775807), hk0]
  · simp

theorem laws_eqSpellS_refl (x0 : List Spell) (h : x0.length ≤ 1048576) : laws_eqSpellS x0 x0 = some true := by
  unfold laws_eqSpellS
  simp only [bne_self_eq_false, cond_false]
  rw [eq_loop x0]
  · rfl
  · intro k x hx
    have hk0 := (List.getElem?_eq_some_iff.1 hx).1
    simp [idx_nat, hx, laws_eqSpell, w64_nat (by omega : k < 9223372036854775807), hk0]
  · simp

theorem laws_eqEventS_refl (x0 : List Event) (h : x0.length ≤ 1048576) : laws_eqEventS x0 x0 = some true := by
  unfold laws_eqEventS
  simp only [bne_self_eq_false, cond_false]
  rw [eq_loop x0]
  · rfl
  · intro k x hx
    have hk0 := (List.getElem?_eq_some_iff.1 hx).1
    simp [idx_nat, hx, laws_eqEvent, w64_nat (by omega : k < 9223372036854775807), hk0]
  · simp

theorem laws_szNodeS_cn (x0 : List Node) (left : Int) (hl : 0 ≤ left ∧ left ≤ 1048576) (w : Wf.wf x0) : ∃ v, laws_szNodeS x0 left = some v ∧ (v < 0 ∨ (0 ≤ v ∧ v + x0.length = left)) := by
  have h1 : x0.length ≤ 9223372036854775807 := w.1
  unfold laws_szNodeS
  rw [w64_id (by omega : -9223372036854775808 ≤ left - (x0.length : Int) ∧ left - (x0.length : Int) ≤ 9223372036854775807)]
  by_cases h : left - (x0.length : Int) < 0
  · exact ⟨-1, by simp [h], .inl (by omega)⟩
  · exact ⟨_, by rw [decide_eq_false h]; rfl, .inr (by omega)⟩

theorem laws_szFactS_cn (x0 : List Fact) (left : Int) (hl : 0 ≤ left ∧ left ≤ 1048576) (w : Wf.wf x0) : ∃ v, laws_szFactS x0 left = some v ∧ (v < 0 ∨ (0 ≤ v ∧ v + x0.length = left)) := by
  have h1 : x0.length ≤ 9223372036854775807 := w.1
  unfold laws_szFactS
  rw [w64_id (by omega : -9223372036854775808 ≤ left - (x0.length : Int) ∧ left - (x0.length : Int) ≤ 9223372036854775807)]
  by_cases h : left - (x0.length : Int) < 0
  · exact ⟨-1, by simp [h], .inl (by omega)⟩
  · exact ⟨_, by rw [decide_eq_false h]; rfl, .inr (by omega)⟩

theorem laws_szPointS_cn (x0 : List Point) (left : Int) (hl : 0 ≤ left ∧ left ≤ 1048576) (w : Wf.wf x0) : ∃ v, laws_szPointS x0 left = some v ∧ (v < 0 ∨ (0 ≤ v ∧ v + x0.length = left)) := by
  have h1 : x0.length ≤ 9223372036854775807 := w.1
  unfold laws_szPointS
  rw [w64_id (by omega : -9223372036854775808 ≤ left - (x0.length : Int) ∧ left - (x0.length : Int) ≤ 9223372036854775807)]
  by_cases h : left - (x0.length : Int) < 0
  · exact ⟨-1, by simp [h], .inl (by omega)⟩
  · exact ⟨_, by rw [decide_eq_false h]; rfl, .inr (by omega)⟩

theorem laws_szSpellS_cn (x0 : List Spell) (left : Int) (hl : 0 ≤ left ∧ left ≤ 1048576) (w : Wf.wf x0) : ∃ v, laws_szSpellS x0 left = some v ∧ (v < 0 ∨ (0 ≤ v ∧ v + x0.length = left)) := by
  have h1 : x0.length ≤ 9223372036854775807 := w.1
  unfold laws_szSpellS
  rw [w64_id (by omega : -9223372036854775808 ≤ left - (x0.length : Int) ∧ left - (x0.length : Int) ≤ 9223372036854775807)]
  by_cases h : left - (x0.length : Int) < 0
  · exact ⟨-1, by simp [h], .inl (by omega)⟩
  · exact ⟨_, by rw [decide_eq_false h]; rfl, .inr (by omega)⟩

theorem laws_szEventS_cn (x0 : List Event) (left : Int) (hl : 0 ≤ left ∧ left ≤ 1048576) (w : Wf.wf x0) : ∃ v, laws_szEventS x0 left = some v ∧ (v < 0 ∨ (0 ≤ v ∧ v + x0.length = left)) := by
  have h1 : x0.length ≤ 9223372036854775807 := w.1
  unfold laws_szEventS
  rw [w64_id (by omega : -9223372036854775808 ≤ left - (x0.length : Int) ∧ left - (x0.length : Int) ≤ 9223372036854775807)]
  by_cases h : left - (x0.length : Int) < 0
  · exact ⟨-1, by simp [h], .inl (by omega)⟩
  · exact ⟨_, by rw [decide_eq_false h]; rfl, .inr (by omega)⟩

def mkNode (m : Int) (x : Node) : Node := Node.mk (m) (m + 1) (m + 2) (m + 3) (Frac.mk (m + 4) (m + 5))

theorem stepsNode (m : Int) (h : 0 ≤ m ∧ m ≤ 36028797018963968) : w64 (m + 1) = m + 1 ∧ w64 (m + 1 + 1) = m + 2 ∧ w64 (m + 2 + 1) = m + 3 ∧ w64 (m + 3 + 1) = m + 4 ∧ w64 (m + 4 + 1) = m + 5 ∧ w64 (m + 5 + 1) = m + 6 := by
  refine ⟨?_, ?_, ?_, ?_, ?_, ?_⟩ <;> rw [w64_id (by omega)] <;> omega

theorem laws_markNodeS_eq (x0 : List Node) (k0 : Int) (hk0 : 0 ≤ k0 ∧ k0 ≤ 18014398509481984) (h : x0.length ≤ 1048576) : laws_markNodeS x0 k0 = some (k0 + wdL (fun _ => 6) x0, marksL mkNode (fun _ => 6) k0 x0) := by
  have hw : wdL (fun _ => 6) x0 = 6 * x0.length := wdL_const 6 x0
  unfold laws_markNodeS
  rw [mark_loop mkNode (fun _ => 6) x0 k0 hk0.1 36028797018963968 (by omega)]
  · rfl
  · intro k x l m hx hlen hmem hm hB
    have hk1 := (List.getElem?_eq_some_iff.1 hx).1
    obtain ⟨g1, g2, g3, g4, g5, g6⟩ := stepsNode m ⟨hm, by omega⟩
    have q1 := fun y : Node => List.getElem?_set_self (a := y) hk1
    simp [idx_nat, hx, hk1, mkNode, g1, g2, g3, g4, g5, g6, w64_nat (by omega : k < 9223372036854775807)]
  · intro l m hlen
    simp [hlen]

def mkFact (m : Int) (x : Fact) : Fact := Fact.mk (m) (m + 1) (m + 2) (m + 3) (m + 4)

theorem stepsFact (m : Int) (h : 0 ≤ m ∧ m ≤ 36028797018963968) : w64 (m + 1) = m + 1 ∧ w64 (m + 1 + 1) = m + 2 ∧ w64 (m + 2 + 1) = m + 3 ∧ w64 (m + 3 + 1) = m + 4 ∧ w64 (m + 4 + 1) = m + 5 := by
  refine ⟨?_, ?_, ?_, ?_, ?_⟩ <;> rw [w64_id (by omega)] <;> omega

theorem laws_markFactS_eq (x0 : List Fact) (k0 : Int) (hk0 : 0 ≤ k0 ∧ k0 ≤ 18014398509481984) (h : x0.length ≤ 1048576) : laws_markFactS x0 k0 = some (k0 + wdL (fun _ => 5) x0, marksL mkFact (fun _ => 5) k0 x0) := by
  have hw : wdL (fun _ => 5) x0 = 5 * x0.length := wdL_const 5 x0
  unfold laws_markFactS
  rw [mark_loop mkFact (fun _ => 5) x0 k0 hk0.1 36028797018963968 (by omega)]
  · rfl
  · intro k x l m hx hlen hmem hm hB
    have hk1 := (List.getElem?_eq_some_iff.1 hx).1
    obtain ⟨g1, g2, g3, g4, g5⟩ := stepsFact m ⟨hm, by omega⟩
    have q1 := fun y : Fact => List.getElem?_set_self (a := y) hk1
    simp [idx_nat, hx, hk1, mkFact, g1, g2, g3, g4, g5, w64_nat (by omega : k < 9223372036854775807)]
  · intro l m hlen
    simp [hlen]

def mkPoint (m : Int) (x : Point) : Point := Point.mk (m) (m + 1) (m + 2)

theorem stepsPoint (m : Int) (h : 0 ≤ m ∧ m ≤ 36028797018963968) : w64 (m + 1) = m + 1 ∧ w64 (m + 1 + 1) = m + 2 ∧ w64 (m + 2 + 1) = m + 3 := by
  refine ⟨?_, ?_, ?_⟩ <;> rw [w64_id (by omega)] <;> omega

theorem laws_markPointS_eq (x0 : List Point) (k0 : Int) (hk0 : 0 ≤ k0 ∧ k0 ≤ 18014398509481984) (h : x0.length ≤ 1048576) : laws_markPointS x0 k0 = some (k0 + wdL (fun _ => 3) x0, marksL mkPoint (fun _ => 3) k0 x0) := by
  have hw : wdL (fun _ => 3) x0 = 3 * x0.length := wdL_const 3 x0
  unfold laws_markPointS
  rw [mark_loop mkPoint (fun _ => 3) x0 k0 hk0.1 36028797018963968 (by omega)]
  · rfl
  · intro k x l m hx hlen hmem hm hB
    have hk1 := (List.getElem?_eq_some_iff.1 hx).1
    obtain ⟨g1, g2, g3⟩ := stepsPoint m ⟨hm, by omega⟩
    have q1 := fun y : Point => List.getElem?_set_self (a := y) hk1
    simp [idx_nat, hx, hk1, mkPoint, g1, g2, g3, w64_nat (by omega : k < 9223372036854775807)]
  · intro l m hlen
    simp [hlen]

def mkSpell (m : Int) (x : Spell) : Spell := Spell.mk (m) (m + 1) (m + 2) (Int.tmod (m + 3) 3 == 0)

theorem stepsSpell (m : Int) (h : 0 ≤ m ∧ m ≤ 36028797018963968) : w64 (m + 1) = m + 1 ∧ w64 (m + 1 + 1) = m + 2 ∧ w64 (m + 2 + 1) = m + 3 ∧ w64 (m + 3 + 1) = m + 4 := by
  refine ⟨?_, ?_, ?_, ?_⟩ <;> rw [w64_id (by omega)] <;> omega

theorem laws_markSpellS_eq (x0 : List Spell) (k0 : Int) (hk0 : 0 ≤ k0 ∧ k0 ≤ 18014398509481984) (h : x0.length ≤ 1048576) : laws_markSpellS x0 k0 = some (k0 + wdL (fun _ => 4) x0, marksL mkSpell (fun _ => 4) k0 x0) := by
  have hw : wdL (fun _ => 4) x0 = 4 * x0.length := wdL_const 4 x0
  unfold laws_markSpellS
  rw [mark_loop mkSpell (fun _ => 4) x0 k0 hk0.1 36028797018963968 (by omega)]
  · rfl
  · intro k x l m hx hlen hmem hm hB
    have hk1 := (List.getElem?_eq_some_iff.1 hx).1
    obtain ⟨g1, g2, g3, g4⟩ := stepsSpell m ⟨hm, by omega⟩
    have q1 := fun y : Spell => List.getElem?_set_self (a := y) hk1
    simp [idx_nat, hx, hk1, mkSpell, g1, g2, g3, g4, w64_nat (by omega : k < 9223372036854775807)]
  · intro l m hlen
    simp [hlen]

def mkEvent (m : Int) (x : Event) : Event := Event.mk (m) (m + 1)

theorem stepsEvent (m : Int) (h : 0 ≤ m ∧ m ≤ 36028797018963968) : w64 (m + 1) = m + 1 ∧ w64 (m + 1 + 1) = m + 2 := by
  refine ⟨?_, ?_⟩ <;> rw [w64_id (by omega)] <;> omega

theorem laws_markEventS_eq (x0 : List Event) (k0 : Int) (hk0 : 0 ≤ k0 ∧ k0 ≤ 18014398509481984) (h : x0.length ≤ 1048576) : laws_markEventS x0 k0 = some (k0 + wdL (fun _ => 2) x0, marksL mkEvent (fun _ => 2) k0 x0) := by
  have hw : wdL (fun _ => 2) x0 = 2 * x0.length := wdL_const 2 x0
  unfold laws_markEventS
  rw [mark_loop mkEvent (fun _ => 2) x0 k0 hk0.1 36028797018963968 (by omega)]
  · rfl
  · intro k x l m hx hlen hmem hm hB
    have hk1 := (List.getElem?_eq_some_iff.1 hx).1
    obtain ⟨g1, g2⟩ := stepsEvent m ⟨hm, by omega⟩
    have q1 := fun y : Event => List.getElem?_set_self (a := y) hk1
    simp [idx_nat, hx, hk1, mkEvent, g1, g2, w64_nat (by omega : k < 9223372036854775807)]
  · intro l m hlen
    simp [hlen]

theorem laws_heldNodeS_eq (x0 : List Node) (k0 : Int) (hk0 : 0 ≤ k0 ∧ k0 ≤ 18014398509481984) (h : x0.length ≤ 1048576) : laws_heldNodeS (marksL mkNode (fun _ => 6) k0 x0) k0 = some (k0 + wdL (fun _ => 6) x0) := by
  have hw : wdL (fun _ => 6) x0 = 6 * x0.length := wdL_const 6 x0
  unfold laws_heldNodeS
  rw [held_loop mkNode (fun _ => 6) x0 k0 hk0.1 36028797018963968 (by omega)]
  · rfl
  · intro k x m hk hx hmem hm hB
    obtain ⟨g1, g2, g3, g4, g5, g6⟩ := stepsNode m ⟨hm, by omega⟩
    have hi := (idx_nat (marksL mkNode (fun _ => 6) k0 x0) k).trans hx
    rw [hi]
    simp [marksL_length, hk, mkNode, g1, g2, g3, g4, g5, g6, w64_nat (by omega : k < 9223372036854775807)]
  · intro m
    simp [marksL_length]

theorem laws_heldFactS_eq (x0 : List Fact) (k0 : Int) (hk0 : 0 ≤ k0 ∧ k0 ≤ 18014398509481984) (h : x0.length ≤ 1048576) : laws_heldFactS (marksL mkFact (fun _ => 5) k0 x0) k0 = some (k0 + wdL (fun _ => 5) x0) := by
  have hw : wdL (fun _ => 5) x0 = 5 * x0.length := wdL_const 5 x0
  unfold laws_heldFactS
  rw [held_loop mkFact (fun _ => 5) x0 k0 hk0.1 36028797018963968 (by omega)]
  · rfl
  · intro k x m hk hx hmem hm hB
    obtain ⟨g1, g2, g3, g4, g5⟩ := stepsFact m ⟨hm, by omega⟩
    have hi := (idx_nat (marksL mkFact (fun _ => 5) k0 x0) k).trans hx
    rw [hi]
    simp [marksL_length, hk, mkFact, g1, g2, g3, g4, g5, w64_nat (by omega : k < 9223372036854775807)]
  · intro m
    simp [marksL_length]

theorem laws_heldPointS_eq (x0 : List Point) (k0 : Int) (hk0 : 0 ≤ k0 ∧ k0 ≤ 18014398509481984) (h : x0.length ≤ 1048576) : laws_heldPointS (marksL mkPoint (fun _ => 3) k0 x0) k0 = some (k0 + wdL (fun _ => 3) x0) := by
  have hw : wdL (fun _ => 3) x0 = 3 * x0.length := wdL_const 3 x0
  unfold laws_heldPointS
  rw [held_loop mkPoint (fun _ => 3) x0 k0 hk0.1 36028797018963968 (by omega)]
  · rfl
  · intro k x m hk hx hmem hm hB
    obtain ⟨g1, g2, g3⟩ := stepsPoint m ⟨hm, by omega⟩
    have hi := (idx_nat (marksL mkPoint (fun _ => 3) k0 x0) k).trans hx
    rw [hi]
    simp [marksL_length, hk, mkPoint, g1, g2, g3, w64_nat (by omega : k < 9223372036854775807)]
  · intro m
    simp [marksL_length]

theorem laws_heldSpellS_eq (x0 : List Spell) (k0 : Int) (hk0 : 0 ≤ k0 ∧ k0 ≤ 18014398509481984) (h : x0.length ≤ 1048576) : laws_heldSpellS (marksL mkSpell (fun _ => 4) k0 x0) k0 = some (k0 + wdL (fun _ => 4) x0) := by
  have hw : wdL (fun _ => 4) x0 = 4 * x0.length := wdL_const 4 x0
  unfold laws_heldSpellS
  rw [held_loop mkSpell (fun _ => 4) x0 k0 hk0.1 36028797018963968 (by omega)]
  · rfl
  · intro k x m hk hx hmem hm hB
    obtain ⟨g1, g2, g3, g4⟩ := stepsSpell m ⟨hm, by omega⟩
    have hi := (idx_nat (marksL mkSpell (fun _ => 4) k0 x0) k).trans hx
    rw [hi]
    simp [marksL_length, hk, mkSpell, g1, g2, g3, g4, w64_nat (by omega : k < 9223372036854775807)]
  · intro m
    simp [marksL_length]

theorem laws_heldEventS_eq (x0 : List Event) (k0 : Int) (hk0 : 0 ≤ k0 ∧ k0 ≤ 18014398509481984) (h : x0.length ≤ 1048576) : laws_heldEventS (marksL mkEvent (fun _ => 2) k0 x0) k0 = some (k0 + wdL (fun _ => 2) x0) := by
  have hw : wdL (fun _ => 2) x0 = 2 * x0.length := wdL_const 2 x0
  unfold laws_heldEventS
  rw [held_loop mkEvent (fun _ => 2) x0 k0 hk0.1 36028797018963968 (by omega)]
  · rfl
  · intro k x m hk hx hmem hm hB
    obtain ⟨g1, g2⟩ := stepsEvent m ⟨hm, by omega⟩
    have hi := (idx_nat (marksL mkEvent (fun _ => 2) k0 x0) k).trans hx
    rw [hi]
    simp [marksL_length, hk, mkEvent, g1, g2, w64_nat (by omega : k < 9223372036854775807)]
  · intro m
    simp [marksL_length]

def smRule (x : Rule) : Prop := x.Nodes.length ≤ 1048576

def cnRule (x : Rule) : Nat := x.Nodes.length

theorem smRule_of (x : Rule) (h : cnRule x ≤ 1048576) : smRule x := by
  unfold cnRule at h
  exact by unfold smRule; omega

theorem laws_toRule_eq (x : Rule) (h : smRule x) : laws_toRule x = some x := by
  have h0 := h
  unfold smRule at h0
  unfold laws_toRule
  simp only [laws_toNodeS_eq x.Nodes h0, Option.bind_some]

theorem laws_eqRule_refl (x : Rule) (h : smRule x) : laws_eqRule x x = some true := by
  have h0 := h
  unfold smRule at h0
  unfold laws_eqRule
  simp [laws_eqNodeS_refl x.Nodes h0]

theorem laws_szRule_cn (x : Rule) (left : Int) (hl : 0 ≤ left ∧ left ≤ 1048576) (w : Wf.wf x) : ∃ v, laws_szRule x left = some v ∧ (v < 0 ∨ (0 ≤ v ∧ v + cnRule x = left)) := by
  unfold laws_szRule
  obtain ⟨v0, e0, c0⟩ := laws_szNodeS_cn x.Nodes left hl w.2.2.2.2.2.2
  rw [e0]
  simp only [Option.bind_some]
  rcases c0 with c0 | c0
  · exact ⟨-1, by simp [c0], .inl (by omega)⟩
  rw [decide_eq_false (by omega : ¬ v0 < 0)]
  simp only [cond_false]
  exact ⟨_, rfl, .inr ⟨by omega, by unfold cnRule; omega⟩⟩

def cnRuleS (l : List Rule) : Nat := wdL (fun x => 1 + cnRule x) l

theorem cnRule_mem {l : List Rule} {x : Rule} (h : x ∈ l) : 1 + cnRule x ≤ cnRuleS l := wdL_mem (fun x => 1 + cnRule x) h

theorem cnRule_len (l : List Rule) : l.length ≤ cnRuleS l := wdL_len (fun x => 1 + cnRule x) (fun x => by omega) l

def mkRule (m : Int) (x : Rule) : Rule := Rule.mk (m) (m + 1) (m + 2) (m + 3) (m + 4) (m + 5) (marksL mkNode (fun _ => 6) (m + 6) x.Nodes)

def wdRule (x : Rule) : Nat := 6 + wdL (fun _ => 6) x.Nodes

theorem wdRule_le : ∀ l : List Rule, wdL wdRule l ≤ 6 * cnRuleS l
  | [] => by simp [wdL]
  | x :: l => by
    have h0 := wdRule_le l
    have h1 := wdL_const 6 x.Nodes
    unfold cnRuleS at h0 ⊢
    simp only [wdL, wdRule, cnRule] at h0 ⊢
    omega

theorem stepsRule (m : Int) (h : 0 ≤ m ∧ m ≤ 36028797018963968) : w64 (m + 1) = m + 1 ∧ w64 (m + 1 + 1) = m + 2 ∧ w64 (m + 2 + 1) = m + 3 ∧ w64 (m + 3 + 1) = m + 4 ∧ w64 (m + 4 + 1) = m + 5 ∧ w64 (m + 5 + 1) = m + 6 := by
  refine ⟨?_, ?_, ?_, ?_, ?_, ?_⟩ <;> rw [w64_id (by omega)] <;> omega

theorem laws_toRuleS_eq (x0 : List Rule) (h : cnRuleS x0 ≤ 1048576) : laws_toRuleS x0 = some x0 := by
  have hn := cnRule_len x0
  unfold laws_toRuleS
  rw [mkL_len x0 (Rule.mk 0 0 0 0 0 0 ([] : List Node) : Rule) (by omega)]
  simp only [Option.bind_some]
  rw [copy_loop x0 (Rule.mk 0 0 0 0 0 0 ([] : List Node) : Rule) (by omega)]
  · rfl
  · intro k x l hx hk
    have hk0 := (List.getElem?_eq_some_iff.1 hx).1
    have hm := cnRule_mem (List.mem_of_getElem? hx)
    have ht := laws_toRule_eq x (smRule_of x (by omega))
    simp only [idx_nat, hx, ht, List.getElem?_eq_getElem hk, Option.bind_some, w64_nat (by omega : k < 9223372036854775807), show ((k : Int) < (x0.length : Int)) by omega, decide_true, cond_true, Int.toNat_natCast]
  · intro l
    simp

theorem laws_eqRuleS_refl (x0 : List Rule) (h : cnRuleS x0 ≤ 1048576) : laws_eqRuleS x0 x0 = some true := by
  have hn := cnRule_len x0
  unfold laws_eqRuleS
  simp only [bne_self_eq_false, cond_false]
  rw [eq_loop x0]
  · rfl
  · intro k x hx
    have hk0 := (List.getElem?_eq_some_iff.1 hx).1
    have hm := cnRule_mem (List.mem_of_getElem? hx)
    have ht := laws_eqRule_refl x (smRule_of x (by omega))
    simp only [idx_nat, hx, ht, Option.bind_some, Bool.not_true, cond_false, w64_nat (by omega : k < 9223372036854775807), show ((k : Int) < (x0.length : Int)) by omega, decide_true, cond_true]
  · simp

theorem laws_szRuleS_cn (x0 : List Rule) (left : Int) (hl : 0 ≤ left ∧ left ≤ 1048576) (w : Wf.wf x0) : ∃ v, laws_szRuleS x0 left = some v ∧ (v < 0 ∨ (0 ≤ v ∧ v + cnRuleS x0 = left)) := by
  have h1 : x0.length ≤ 9223372036854775807 := w.1
  unfold laws_szRuleS
  rw [w64_id (by omega : -9223372036854775808 ≤ left - (x0.length : Int) ∧ left - (x0.length : Int) ≤ 9223372036854775807)]
  by_cases h : left - (x0.length : Int) < 0
  · exact ⟨-1, by simp [h], .inl (by omega)⟩
  rw [decide_eq_false h]
  simp only [cond_false]
  rcases size_loop (ρ := Int) (fun x => cnRule x) x0 (left - (x0.length : Int)) (by omega) (fun s24 =>
    cond (decide (s24.1 < (x0.length : Int)))
      ((idx x0 s24.1).bind fun x40 =>
      (laws_szRule x40 s24.2).bind fun t47 =>
      cond (decide (t47 < 0))
        (some (.done (.inr (-1))))
        (some (.cont (w64 (s24.1 + 1), t47))))
      (some (.done (.inl s24.2)))) (-1) (fun k x v hx hv => by
      have hk0 := (List.getElem?_eq_some_iff.1 hx).1
      obtain ⟨u, e, c⟩ := laws_szRule_cn x v ⟨hv.1, by omega⟩ (w.2 x (List.mem_of_getElem? hx))
      rcases c with c | c
      · exact .inl (by simp only [idx_nat, hx, e, Option.bind_some, show ((k : Int) < (x0.length : Int)) by omega, decide_true, cond_true, c])
      · exact .inr ⟨u, c, by
          have hc : decide (u < 0) = false := decide_eq_false (by omega)
          simp only [idx_nat, hx, e, Option.bind_some, show ((k : Int) < (x0.length : Int)) by omega, decide_true, cond_true, hc, cond_false, w64_nat (by omega : k < 9223372036854775807)]⟩)
    (fun v => by simp) with h2 | ⟨v, h2, h3, h4⟩
  · exact ⟨-1, by rw [h2]; rfl, .inl (by omega)⟩
  · refine ⟨v, by rw [h2]; rfl, .inr ⟨h3, ?_⟩⟩
    have : cnRuleS x0 = wdL (fun x => cnRule x) x0 + x0.length := by unfold cnRuleS; exact wdL_one _ _
    omega

theorem laws_markRuleS_eq (x0 : List Rule) (k0 : Int) (hk0 : 0 ≤ k0 ∧ k0 ≤ 9007199254740992) (h : cnRuleS x0 ≤ 1048576) : laws_markRuleS x0 k0 = some (k0 + wdL wdRule x0, marksL mkRule wdRule k0 x0) := by
  have hw := wdRule_le x0
  have hn := cnRule_len x0
  unfold laws_markRuleS
  rw [mark_loop mkRule wdRule x0 k0 hk0.1 18014398509481984 (by omega)]
  · rfl
  · intro k x l m hx hlen hmem hm hB
    have hk1 := (List.getElem?_eq_some_iff.1 hx).1
    have hcn := cnRule_mem hmem
    have hB1 : m + ((6 + wdL (fun _ => 6) x.Nodes : Nat) : Int) ≤ 18014398509481984 := hB
    obtain ⟨g1, g2, g3, g4, g5, g6⟩ := stepsRule m ⟨hm, by omega⟩
    have w0 := wdL_const 6 x.Nodes
    have o0 : x.Nodes.length ≤ 1048576 := by unfold cnRule at hcn; omega
    have m0 := laws_markNodeS_eq x.Nodes (m + 6) ⟨by omega, by omega⟩ o0
    have s0 : sameLen (marksL mkNode (fun _ => 6) (m + 6) x.Nodes) x.Nodes = some () := by unfold sameLen; rw [if_pos (marksL_length _ _ _ _)]
    have q3 : m + ((6 + wdL (fun _ => 6) x.Nodes : Nat) : Int) = m + 6 + (wdL (fun _ => 6) x.Nodes : Int) := by omega
    have q1 := fun y : Rule => List.getElem?_set_self (a := y) hk1
    show _ = some (LS.cont (((k + 1 : Nat) : Int), l.set k (mkRule m x), m + ((6 + wdL (fun _ => 6) x.Nodes : Nat) : Int)))
    rw [q3]
    simp only [idx_nat, hx, hk1, mkRule, g1, g2, g3, g4, g5, g6, m0, s0, w64_nat (by omega : k < 9223372036854775807), Option.bind_some, List.length_set, List.set_set, q1, Int.toNat_natCast, show ((k : Int) < (l.length : Int)) by omega, decide_true, cond_true]
  · intro l m hlen
    simp [hlen]

theorem laws_heldRuleS_eq (x0 : List Rule) (k0 : Int) (hk0 : 0 ≤ k0 ∧ k0 ≤ 9007199254740992) (h : cnRuleS x0 ≤ 1048576) : laws_heldRuleS (marksL mkRule wdRule k0 x0) k0 = some (k0 + wdL wdRule x0) := by
  have hw := wdRule_le x0
  have hn := cnRule_len x0
  unfold laws_heldRuleS
  rw [held_loop mkRule wdRule x0 k0 hk0.1 18014398509481984 (by omega)]
  · rfl
  · intro k x m hk hx hmem hm hB
    have hcn := cnRule_mem hmem
    have hB1 : m + ((6 + wdL (fun _ => 6) x.Nodes : Nat) : Int) ≤ 18014398509481984 := hB
    obtain ⟨g1, g2, g3, g4, g5, g6⟩ := stepsRule m ⟨hm, by omega⟩
    have w0 := wdL_const 6 x.Nodes
    have o0 : x.Nodes.length ≤ 1048576 := by unfold cnRule at hcn; omega
    have m0 := laws_heldNodeS_eq x.Nodes (m + 6) ⟨by omega, by omega⟩ o0
    have s0 : ¬ (m + 6 + (wdL (fun _ => 6) x.Nodes : Int) < 0) := by omega
    have q3 : m + ((6 + wdL (fun _ => 6) x.Nodes : Nat) : Int) = m + 6 + (wdL (fun _ => 6) x.Nodes : Int) := by omega
    have hi := (idx_nat (marksL mkRule wdRule k0 x0) k).trans hx
    have hd : decide ((k : Int) < ((marksL mkRule wdRule k0 x0).length : Int)) = true := decide_eq_true (by rw [marksL_length]; omega)
    show _ = some (LS.cont (((k + 1 : Nat) : Int), m + ((6 + wdL (fun _ => 6) x.Nodes : Nat) : Int)))
    rw [q3]
    simp only [hi, hd, mkRule, g1, g2, g3, g4, g5, g6, m0, s0, w64_nat (by omega : k < 9223372036854775807), Option.bind_some, cond_true, bne_self_eq_false, cond_false, decide_false]
  · intro m
    simp [marksL_length]

def smBook (x : Book) : Prop := cnRuleS x.Rules ≤ 1048576

def cnBook (x : Book) : Nat := cnRuleS x.Rules

theorem smBook_of (x : Book) (h : cnBook x ≤ 1048576) : smBook x := by
  unfold cnBook at h
  exact by unfold smBook; omega

theorem laws_toBook_eq (x : Book) (h : smBook x) : laws_toBook x = some x := by
  have h0 := h
  unfold smBook at h0
  unfold laws_toBook
  simp only [laws_toRuleS_eq x.Rules h0, Option.bind_some]

theorem laws_eqBook_refl (x : Book) (h : smBook x) : laws_eqBook x x = some true := by
  have h0 := h
  unfold smBook at h0
  unfold laws_eqBook
  simp [laws_eqRuleS_refl x.Rules h0]

theorem laws_szBook_cn (x : Book) (left : Int) (hl : 0 ≤ left ∧ left ≤ 1048576) (w : Wf.wf x) : ∃ v, laws_szBook x left = some v ∧ (v < 0 ∨ (0 ≤ v ∧ v + cnBook x = left)) := by
  unfold laws_szBook
  obtain ⟨v0, e0, c0⟩ := laws_szRuleS_cn x.Rules left hl w
  rw [e0]
  simp only [Option.bind_some]
  rcases c0 with c0 | c0
  · exact ⟨-1, by simp [c0], .inl (by omega)⟩
  rw [decide_eq_false (by omega : ¬ v0 < 0)]
  simp only [cond_false]
  exact ⟨_, rfl, .inr ⟨by omega, by unfold cnBook; omega⟩⟩

theorem laws_markBook_ex (x : Book) (k : Int) (hk : 0 ≤ k ∧ k ≤ 8972014882652160) (h : smBook x) : ∃ k1 l0, laws_markBook x k = some (k1, l0) ∧ l0.length = x.Rules.length ∧ (k ≤ k1 ∧ k1 ≤ k + 1073741824) ∧ ∀ y : Book, y.Rules = l0 → laws_heldBook y k = some k1 := by
  have h0 := h
  unfold smBook at h0
  unfold laws_markBook laws_heldBook
  have w0 := wdRule_le x.Rules
  have m0 := laws_markRuleS_eq x.Rules (k) ⟨by omega, by omega⟩ h0
  have d0 := laws_heldRuleS_eq x.Rules (k) ⟨by omega, by omega⟩ h0
  have s0 : sameLen (marksL mkRule wdRule (k) x.Rules) x.Rules = some () := by unfold sameLen; rw [if_pos (marksL_length _ _ _ _)]
  have p0 : ¬ (k + (wdL wdRule x.Rules : Int) < 0) := by omega
  refine ⟨k + (wdL wdRule x.Rules : Int), marksL mkRule wdRule (k) x.Rules, ?_, marksL_length _ _ _ _, ⟨by omega, by omega⟩, ?_⟩
  · simp only [m0, s0, Option.bind_some]
  · intro y q0
    simp [q0, d0, p0]

def smStore (x : Store) : Prop := x.Facts.length ≤ 1048576

def cnStore (x : Store) : Nat := x.Facts.length

theorem smStore_of (x : Store) (h : cnStore x ≤ 1048576) : smStore x := by
  unfold cnStore at h
  exact by unfold smStore; omega

theorem laws_toStore_eq (x : Store) (h : smStore x) : laws_toStore x = some x := by
  have h0 := h
  unfold smStore at h0
  unfold laws_toStore
  simp only [laws_toFactS_eq x.Facts h0, Option.bind_some]

theorem laws_eqStore_refl (x : Store) (h : smStore x) : laws_eqStore x x = some true := by
  have h0 := h
  unfold smStore at h0
  unfold laws_eqStore
  simp [laws_eqFactS_refl x.Facts h0]

theorem laws_szStore_cn (x : Store) (left : Int) (hl : 0 ≤ left ∧ left ≤ 1048576) (w : Wf.wf x) : ∃ v, laws_szStore x left = some v ∧ (v < 0 ∨ (0 ≤ v ∧ v + cnStore x = left)) := by
  unfold laws_szStore
  obtain ⟨v0, e0, c0⟩ := laws_szFactS_cn x.Facts left hl w
  rw [e0]
  simp only [Option.bind_some]
  rcases c0 with c0 | c0
  · exact ⟨-1, by simp [c0], .inl (by omega)⟩
  rw [decide_eq_false (by omega : ¬ v0 < 0)]
  simp only [cond_false]
  exact ⟨_, rfl, .inr ⟨by omega, by unfold cnStore; omega⟩⟩

theorem laws_markStore_ex (x : Store) (k : Int) (hk : 0 ≤ k ∧ k ≤ 8972014882652160) (h : smStore x) : ∃ k1 l0, laws_markStore x k = some (k1, l0) ∧ l0.length = x.Facts.length ∧ (k ≤ k1 ∧ k1 ≤ k + 1073741824) ∧ ∀ y : Store, y.Facts = l0 → laws_heldStore y k = some k1 := by
  have h0 := h
  unfold smStore at h0
  unfold laws_markStore laws_heldStore
  have w0 : wdL (fun _ => 5) x.Facts = 5 * x.Facts.length := wdL_const 5 x.Facts
  have m0 := laws_markFactS_eq x.Facts (k) ⟨by omega, by omega⟩ h0
  have d0 := laws_heldFactS_eq x.Facts (k) ⟨by omega, by omega⟩ h0
  have s0 : sameLen (marksL mkFact (fun _ => 5) (k) x.Facts) x.Facts = some () := by unfold sameLen; rw [if_pos (marksL_length _ _ _ _)]
  have p0 : ¬ (k + (wdL (fun _ => 5) x.Facts : Int) < 0) := by omega
  refine ⟨k + (wdL (fun _ => 5) x.Facts : Int), marksL mkFact (fun _ => 5) (k) x.Facts, ?_, marksL_length _ _ _ _, ⟨by omega, by omega⟩, ?_⟩
  · simp only [m0, s0, Option.bind_some]
  · intro y q0
    simp [q0, d0, p0]

def smSeries (x : Series) : Prop := x.Points.length ≤ 1048576

def cnSeries (x : Series) : Nat := x.Points.length

theorem smSeries_of (x : Series) (h : cnSeries x ≤ 1048576) : smSeries x := by
  unfold cnSeries at h
  exact by unfold smSeries; omega

theorem laws_toSeries_eq (x : Series) (h : smSeries x) : laws_toSeries x = some x := by
  have h0 := h
  unfold smSeries at h0
  unfold laws_toSeries
  simp only [laws_toPointS_eq x.Points h0, Option.bind_some]

theorem laws_eqSeries_refl (x : Series) (h : smSeries x) : laws_eqSeries x x = some true := by
  have h0 := h
  unfold smSeries at h0
  unfold laws_eqSeries
  simp [laws_eqPointS_refl x.Points h0]

theorem laws_szSeries_cn (x : Series) (left : Int) (hl : 0 ≤ left ∧ left ≤ 1048576) (w : Wf.wf x) : ∃ v, laws_szSeries x left = some v ∧ (v < 0 ∨ (0 ≤ v ∧ v + cnSeries x = left)) := by
  unfold laws_szSeries
  obtain ⟨v0, e0, c0⟩ := laws_szPointS_cn x.Points left hl w
  rw [e0]
  simp only [Option.bind_some]
  rcases c0 with c0 | c0
  · exact ⟨-1, by simp [c0], .inl (by omega)⟩
  rw [decide_eq_false (by omega : ¬ v0 < 0)]
  simp only [cond_false]
  exact ⟨_, rfl, .inr ⟨by omega, by unfold cnSeries; omega⟩⟩

theorem laws_markSeries_ex (x : Series) (k : Int) (hk : 0 ≤ k ∧ k ≤ 8972014882652160) (h : smSeries x) : ∃ k1 l0, laws_markSeries x k = some (k1, l0) ∧ l0.length = x.Points.length ∧ (k ≤ k1 ∧ k1 ≤ k + 1073741824) ∧ ∀ y : Series, y.Points = l0 → laws_heldSeries y k = some k1 := by
  have h0 := h
  unfold smSeries at h0
  unfold laws_markSeries laws_heldSeries
  have w0 : wdL (fun _ => 3) x.Points = 3 * x.Points.length := wdL_const 3 x.Points
  have m0 := laws_markPointS_eq x.Points (k) ⟨by omega, by omega⟩ h0
  have d0 := laws_heldPointS_eq x.Points (k) ⟨by omega, by omega⟩ h0
  have s0 : sameLen (marksL mkPoint (fun _ => 3) (k) x.Points) x.Points = some () := by unfold sameLen; rw [if_pos (marksL_length _ _ _ _)]
  have p0 : ¬ (k + (wdL (fun _ => 3) x.Points : Int) < 0) := by omega
  refine ⟨k + (wdL (fun _ => 3) x.Points : Int), marksL mkPoint (fun _ => 3) (k) x.Points, ?_, marksL_length _ _ _ _, ⟨by omega, by omega⟩, ?_⟩
  · simp only [m0, s0, Option.bind_some]
  · intro y q0
    simp [q0, d0, p0]

def smMember (x : Member) : Prop := x.Spells.length ≤ 1048576 ∧ x.Events.length ≤ 1048576

def cnMember (x : Member) : Nat := x.Spells.length + x.Events.length

theorem smMember_of (x : Member) (h : cnMember x ≤ 1048576) : smMember x := by
  unfold cnMember at h
  exact ⟨by omega, by omega⟩

theorem laws_toMember_eq (x : Member) (h : smMember x) : laws_toMember x = some x := by
  obtain ⟨h0, h1⟩ := h
  unfold laws_toMember
  simp only [laws_toSpellS_eq x.Spells h0, laws_toEventS_eq x.Events h1, Option.bind_some]

theorem laws_eqMember_refl (x : Member) (h : smMember x) : laws_eqMember x x = some true := by
  obtain ⟨h0, h1⟩ := h
  unfold laws_eqMember
  simp [laws_eqSpellS_refl x.Spells h0, laws_eqEventS_refl x.Events h1]

theorem laws_szMember_cn (x : Member) (left : Int) (hl : 0 ≤ left ∧ left ≤ 1048576) (w : Wf.wf x) : ∃ v, laws_szMember x left = some v ∧ (v < 0 ∨ (0 ≤ v ∧ v + cnMember x = left)) := by
  unfold laws_szMember
  obtain ⟨v0, e0, c0⟩ := laws_szSpellS_cn x.Spells left hl w.2.2.1
  rw [e0]
  simp only [Option.bind_some]
  rcases c0 with c0 | c0
  · exact ⟨-1, by simp [c0], .inl (by omega)⟩
  rw [decide_eq_false (by omega : ¬ v0 < 0)]
  simp only [cond_false]
  obtain ⟨v1, e1, c1⟩ := laws_szEventS_cn x.Events v0 ⟨by omega, by omega⟩ w.2.2.2
  rw [e1]
  simp only [Option.bind_some]
  rcases c1 with c1 | c1
  · exact ⟨-1, by simp [c1], .inl (by omega)⟩
  rw [decide_eq_false (by omega : ¬ v1 < 0)]
  simp only [cond_false]
  exact ⟨_, rfl, .inr ⟨by omega, by unfold cnMember; omega⟩⟩

theorem laws_markMember_ex (x : Member) (k : Int) (hk : 0 ≤ k ∧ k ≤ 8972014882652160) (h : smMember x) : ∃ k1 l0 l1, laws_markMember x k = some (k1, l0, l1) ∧ l0.length = x.Spells.length ∧ l1.length = x.Events.length ∧ (k ≤ k1 ∧ k1 ≤ k + 2147483648) ∧ ∀ y : Member, y.Spells = l0 → y.Events = l1 → laws_heldMember y k = some k1 := by
  obtain ⟨h0, h1⟩ := h
  unfold laws_markMember laws_heldMember
  have w0 : wdL (fun _ => 4) x.Spells = 4 * x.Spells.length := wdL_const 4 x.Spells
  have m0 := laws_markSpellS_eq x.Spells (k) ⟨by omega, by omega⟩ h0
  have d0 := laws_heldSpellS_eq x.Spells (k) ⟨by omega, by omega⟩ h0
  have s0 : sameLen (marksL mkSpell (fun _ => 4) (k) x.Spells) x.Spells = some () := by unfold sameLen; rw [if_pos (marksL_length _ _ _ _)]
  have p0 : ¬ (k + (wdL (fun _ => 4) x.Spells : Int) < 0) := by omega
  have w1 : wdL (fun _ => 2) x.Events = 2 * x.Events.length := wdL_const 2 x.Events
  have m1 := laws_markEventS_eq x.Events (k + (wdL (fun _ => 4) x.Spells : Int)) ⟨by omega, by omega⟩ h1
  have d1 := laws_heldEventS_eq x.Events (k + (wdL (fun _ => 4) x.Spells : Int)) ⟨by omega, by omega⟩ h1
  have s1 : sameLen (marksL mkEvent (fun _ => 2) (k + (wdL (fun _ => 4) x.Spells : Int)) x.Events) x.Events = some () := by unfold sameLen; rw [if_pos (marksL_length _ _ _ _)]
  have p1 : ¬ (k + (wdL (fun _ => 4) x.Spells : Int) + (wdL (fun _ => 2) x.Events : Int) < 0) := by omega
  refine ⟨k + (wdL (fun _ => 4) x.Spells : Int) + (wdL (fun _ => 2) x.Events : Int), marksL mkSpell (fun _ => 4) (k) x.Spells, marksL mkEvent (fun _ => 2) (k + (wdL (fun _ => 4) x.Spells : Int)) x.Events, ?_, marksL_length _ _ _ _, marksL_length _ _ _ _, ⟨by omega, by omega⟩, ?_⟩
  · simp only [m0, s0, m1, s1, Option.bind_some]
  · intro y q0 q1
    simp [q0, q1, d0, p0, d1, p1]

def smCase (x : Case) : Prop := smBook x.Book ∧ smStore x.Store ∧ smSeries x.Series ∧ smMember x.Member

def cnCase (x : Case) : Nat := cnBook x.Book + cnStore x.Store + cnSeries x.Series + cnMember x.Member

theorem smCase_of (x : Case) (h : cnCase x ≤ 1048576) : smCase x := by
  unfold cnCase at h
  exact ⟨smBook_of x.Book (by omega), smStore_of x.Store (by omega), smSeries_of x.Series (by omega), smMember_of x.Member (by omega)⟩

theorem laws_toCase_eq (x : Case) (h : smCase x) : laws_toCase x = some x := by
  obtain ⟨h0, h1, h2, h3⟩ := h
  unfold laws_toCase
  simp only [laws_toBook_eq x.Book h0, laws_toStore_eq x.Store h1, laws_toSeries_eq x.Series h2, laws_toMember_eq x.Member h3, Option.bind_some]

theorem laws_eqCase_refl (x : Case) (h : smCase x) : laws_eqCase x x = some true := by
  obtain ⟨h0, h1, h2, h3⟩ := h
  unfold laws_eqCase
  simp [laws_eqBook_refl x.Book h0, laws_eqStore_refl x.Store h1, laws_eqSeries_refl x.Series h2, laws_eqMember_refl x.Member h3]

theorem laws_szCase_cn (x : Case) (left : Int) (hl : 0 ≤ left ∧ left ≤ 1048576) (w : Wf.wf x) : ∃ v, laws_szCase x left = some v ∧ (v < 0 ∨ (0 ≤ v ∧ v + cnCase x = left)) := by
  unfold laws_szCase
  obtain ⟨v0, e0, c0⟩ := laws_szBook_cn x.Book left hl w.1
  rw [e0]
  simp only [Option.bind_some]
  rcases c0 with c0 | c0
  · exact ⟨-1, by simp [c0], .inl (by omega)⟩
  rw [decide_eq_false (by omega : ¬ v0 < 0)]
  simp only [cond_false]
  obtain ⟨v1, e1, c1⟩ := laws_szStore_cn x.Store v0 ⟨by omega, by omega⟩ w.2.1
  rw [e1]
  simp only [Option.bind_some]
  rcases c1 with c1 | c1
  · exact ⟨-1, by simp [c1], .inl (by omega)⟩
  rw [decide_eq_false (by omega : ¬ v1 < 0)]
  simp only [cond_false]
  obtain ⟨v2, e2, c2⟩ := laws_szSeries_cn x.Series v1 ⟨by omega, by omega⟩ w.2.2.1
  rw [e2]
  simp only [Option.bind_some]
  rcases c2 with c2 | c2
  · exact ⟨-1, by simp [c2], .inl (by omega)⟩
  rw [decide_eq_false (by omega : ¬ v2 < 0)]
  simp only [cond_false]
  obtain ⟨v3, e3, c3⟩ := laws_szMember_cn x.Member v2 ⟨by omega, by omega⟩ w.2.2.2
  rw [e3]
  simp only [Option.bind_some]
  rcases c3 with c3 | c3
  · exact ⟨-1, by simp [c3], .inl (by omega)⟩
  rw [decide_eq_false (by omega : ¬ v3 < 0)]
  simp only [cond_false]
  exact ⟨_, rfl, .inr ⟨by omega, by unfold cnCase; omega⟩⟩

theorem laws_szCase_ex (x : Case) (left : Int) (hl : 0 ≤ left ∧ left ≤ 1048576) (w : Wf.wf x) : ∃ v, laws_szCase x left = some v ∧ (v < 0 ∨ (smCase x ∧ 0 ≤ v ∧ v ≤ 1048576)) := by
  obtain ⟨v, e, c⟩ := laws_szCase_cn x left hl w
  exact ⟨v, e, c.imp_right fun h => ⟨smCase_of x (by omega), by omega⟩⟩

theorem laws_markCase_ex (x : Case) (k : Int) (hk : 0 ≤ k ∧ k ≤ 8936830510563328) (h : smCase x) : ∃ k1 l0 l1 l2 l3 l4, laws_markCase x k = some (k1, l0, l1, l2, l3, l4) ∧ l0.length = x.Book.Rules.length ∧ l1.length = x.Store.Facts.length ∧ l2.length = x.Series.Points.length ∧ l3.length = x.Member.Spells.length ∧ l4.length = x.Member.Events.length ∧ (k ≤ k1 ∧ k1 ≤ k + 5368709120) ∧ ∀ y : Case, y.Book.Rules = l0 → y.Store.Facts = l1 → y.Series.Points = l2 → y.Member.Spells = l3 → y.Member.Events = l4 → laws_heldCase y k = some k1 := by
  obtain ⟨h0, h1, h2, h3⟩ := h
  unfold laws_markCase laws_heldCase
  obtain ⟨j0, u0_0, m0, n0_0, b0, d0⟩ := laws_markBook_ex x.Book (k) ⟨by omega, by omega⟩ h0
  have s0_0 : sameLen u0_0 x.Book.Rules = some () := by unfold sameLen; rw [if_pos n0_0]
  have p0 : ¬ (j0 < 0) := by omega
  obtain ⟨j1, u1_0, m1, n1_0, b1, d1⟩ := laws_markStore_ex x.Store (j0) ⟨by omega, by omega⟩ h1
  have s1_0 : sameLen u1_0 x.Store.Facts = some () := by unfold sameLen; rw [if_pos n1_0]
  have p1 : ¬ (j1 < 0) := by omega
  obtain ⟨j2, u2_0, m2, n2_0, b2, d2⟩ := laws_markSeries_ex x.Series (j1) ⟨by omega, by omega⟩ h2
  have s2_0 : sameLen u2_0 x.Series.Points = some () := by unfold sameLen; rw [if_pos n2_0]
  have p2 : ¬ (j2 < 0) := by omega
  obtain ⟨j3, u3_0, u3_1, m3, n3_0, n3_1, b3, d3⟩ := laws_markMember_ex x.Member (j2) ⟨by omega, by omega⟩ h3
  have s3_0 : sameLen u3_0 x.Member.Spells = some () := by unfold sameLen; rw [if_pos n3_0]
  have s3_1 : sameLen u3_1 x.Member.Events = some () := by unfold sameLen; rw [if_pos n3_1]
  have p3 : ¬ (j3 < 0) := by omega
  refine ⟨j3, u0_0, u1_0, u2_0, u3_0, u3_1, ?_, n0_0, n1_0, n2_0, n3_0, n3_1, ⟨by omega, by omega⟩, ?_⟩
  · simp only [m0, s0_0, m1, s1_0, m2, s2_0, m3, s3_0, s3_1, Option.bind_some]
  · intro y q0 q1 q2 q3 q4
    have e0 := d0 y.Book q0
    have e1 := d1 y.Store q1
    have e2 := d2 y.Series q2
    have e3 := d3 y.Member q3 q4
    simp [q0, q1, q2, q3, q4, p0, p1, p2, p3, e0, e1, e2, e3]

theorem smCase_B {c : Case} (h : smCase c) : caseB c := by
  obtain ⟨h1, h2, h3, h4, h5⟩ := h
  unfold smBook at h1
  unfold smStore at h2
  unfold smSeries at h3
  have hl := cnRule_len c.Book.Rules
  refine ⟨⟨by omega, fun k hk => ?_⟩, by omega, by omega, by omega, by omega⟩
  have := cnRule_mem (gt_mem hk)
  unfold cnRule at this
  omega

theorem filter_take {α : Type} [Inhabited α] (x0 : List α) (keep : α → Bool) {k : Nat} (hk : k < x0.length) : (x0.take (k + 1)).filter keep = (x0.take k).filter keep ++ (if keep (gt x0 k) then [gt x0 k] else []) := by
  rw [← take_gt hk, List.filter_append]
  congr 1
  cases h : keep (gt x0 k) <;> simp [h]

theorem set_take {α : Type} {l : List α} {i : Nat} (h : i < l.length) (x : α) : (l.set i x).take (i + 1) = l.take i ++ [x] := by
  induction l generalizing i with
  | nil => simp at h
  | cons y l ih =>
    cases i with
    | zero => simp
    | succ i => simp only [List.length_cons] at h; simp [ih (by omega : i < l.length)]

def delN {α : Type} [Inhabited α] (keep : α → Bool) (x0 : List α) (t : Nat) : Nat → Nat × List α
  | 0 => (t, x0)
  | k + 1 => if keep (gt x0 (t + 1 + k)) then ((delN keep x0 t k).1 + 1, (delN keep x0 t k).2.set (delN keep x0 t k).1 (gt x0 (t + 1 + k))) else delN keep x0 t k

theorem delN_inv {α : Type} [Inhabited α] {keep : α → Bool} {x0 : List α} {t : Nat} (ht : t < x0.length) (hall : ∀ k, k < t → keep (gt x0 k) = true) (hnot : keep (gt x0 t) = false) :
    ∀ k, t + 1 + k ≤ x0.length → (delN keep x0 t k).1 ≤ t + k ∧ (delN keep x0 t k).2.length = x0.length ∧ (∀ q, t + k < q → (delN keep x0 t k).2[q]? = x0[q]?) ∧ (delN keep x0 t k).2.take (delN keep x0 t k).1 = (x0.take (t + 1 + k)).filter keep := by
  intro k
  induction k with
  | zero =>
    intro _
    refine ⟨Nat.le_refl _, rfl, fun q _ => rfl, ?_⟩
    show x0.take t = (x0.take (t + 1 + 0)).filter keep
    rw [Nat.add_zero, filter_take x0 keep ht, hnot]
    simp only [Bool.false_eq_true, if_false, List.append_nil]
    refine (List.filter_eq_self.2 fun x hx => ?_).symm
    obtain ⟨q, hq⟩ := List.mem_iff_getElem?.1 hx
    rw [List.getElem?_take] at hq
    split at hq
    · rename_i hqt
      have := hall q hqt
      rwa [gt_of hq] at this
    · cases hq
  | succ k ih =>
    intro hk
    obtain ⟨a1, a2, a3, a4⟩ := ih (by omega)
    unfold delN
    have hf := filter_take x0 keep (k := t + 1 + k) (by omega)
    have e1 : t + 1 + (k + 1) = t + 1 + k + 1 := by omega
    cases hq : keep (gt x0 (t + 1 + k)) with
    | true =>
      rw [hq] at hf
      simp only [if_true] at hf ⊢
      refine ⟨by omega, by rw [List.length_set]; exact a2, fun q hq2 => ?_, ?_⟩
      · rw [List.getElem?_set_ne (by omega)]
        exact a3 q (by omega)
      · rw [set_take (by omega), a4, e1, hf]
    | false =>
      rw [hq] at hf
      simp only [Bool.false_eq_true, if_false, List.append_nil] at hf ⊢
      exact ⟨by omega, a2, fun q hq2 => a3 q (by omega), by rw [a4, e1, hf]⟩

theorem delete_eq {α : Type} [Inhabited α] (x0 : List α) (z : α) (del : α → Option Bool) (keep : α → Bool) (hd : ∀ x, del x = some (!keep x)) (hn : x0.length ≤ 1099511627776) :
    (((loopW (ρ := (Unit) ⊕ (Int)) (fun (s21 : Int) =>
      cond (decide (s21 < (x0.length : Int)))
        ((idx x0 s21).bind fun x37 =>
        (del x37).bind fun t40 =>
        cond t40
          (some (.done (.inr s21)))
          (some (.cont (w64 (s21 + 1)))))
        (some (.done (.inl ()))))
      0).bind fun r24 => brkE r24 (fun (j31 : Unit) =>
      some (-1))
      (some)).bind fun t21 =>
    cond (t21 == (-1))
      (some x0)
      ((loopW (ρ := (Int × (List α)) ⊕ ((List α))) (fun (s28 : Int × Int × (List α)) =>
        cond (decide (s28.1 < (s28.2.2.length : Int)))
          ((idx s28.2.2 s28.1).bind fun x51 =>
          (del x51).bind fun t54 =>
          joinP (fun (j66 : Int × (List α)) =>
            some (.cont (w64 (s28.1 + 1), j66.1, j66.2)))
            (fun k68 =>
            cond (!t54)
              ((idx s28.2.2 s28.2.1).bind fun x75 =>
              (some (List.set s28.2.2 (Int.toNat s28.2.1) x51)).bind fun l78 =>
              k68 (w64 (s28.2.1 + 1), l78))
              (k68 (s28.2.1, s28.2.2))))
          (some (.done (.inl (s28.2.1, s28.2.2)))))
        (w64 (t21 + 1), t21, x0)).bind fun r31 => brkE r31 (fun (j38 : Int × (List α)) =>
        (zeroTail j38.2 j38.1 z).bind fun l40 =>
        (headL l40 j38.1).bind fun l44 =>
        some l44)
        (some)) : Option (List α)) = some (x0.filter keep) := by
  rcases scan_up (ρ := Int) x0.length (fun k => keep (gt x0 k)) (fun k => (k : Int)) () (body := fun (s21 : Int) =>
      cond (decide (s21 < (x0.length : Int)))
        ((idx x0 s21).bind fun x37 =>
        (del x37).bind fun t40 =>
        cond t40
          (some (.done (.inr s21)))
          (some (.cont (w64 (s21 + 1)))))
        (some (.done (.inl ())))) (fun k hk => by
      rw [decide_eq_true (by omega), idx_gt hk]
      simp only [cond_true, Option.bind_some, hd, w64_nat (by omega : k < 9223372036854775807)]
      cases keep (gt x0 k) <;> rfl) (by rw [decide_eq_false (by omega)]; rfl) with ⟨h1, h2⟩ | ⟨h1, t, ht, hall, hnot, h2⟩
  · rw [h2]
    have hf : x0.filter keep = x0 := List.filter_eq_self.2 fun x hx => by
      obtain ⟨q, hq⟩ := List.mem_iff_getElem?.1 hx
      have := allN_true.1 h1 q (List.getElem?_eq_some_iff.1 hq).1
      rwa [gt_of hq] at this
    rw [hf]
    rfl
  · rw [h2]
    have inv := fun k (hk : t + 1 + k ≤ x0.length) => delN_inv (keep := keep) (x0 := x0) ht hnot hall k hk
    simp only [Option.bind_some, brkE]
    have e0 : ((t : Int) == -1) = false := beq_eq_false_iff_ne.2 (by omega)
    rw [e0]
    simp only [cond_false]
    obtain ⟨b1, b2, b3, b4⟩ := inv (x0.length - (t + 1)) (by omega)
    refine loop_bind (r := .inl (((delN keep x0 t (x0.length - (t + 1))).1 : Int), (delN keep x0 t (x0.length - (t + 1))).2)) (fun k => (((t + 1 + k : Nat) : Int), ((delN keep x0 t k).1 : Int), (delN keep x0 t k).2)) (x0.length - (t + 1)) (by
      show (((t + 1 : Nat) : Int), (t : Int), x0) = _
      rw [w64_nat (by omega)]) (fun k hk => ?_) ?_ ?_
    · obtain ⟨a1, a2, a3, a4⟩ := inv k (by omega)
      have eg : idx (delN keep x0 t k).2 ((t + 1 + k : Nat) : Int) = some (gt x0 (t + 1 + k)) := by
        rw [idx_nat, a3 _ (by omega), at_gt (by omega)]
      simp only
      rw [a2, decide_eq_true (by omega), eg]
      simp only [cond_true, Option.bind_some, hd, joinP_eq, Bool.not_not]
      rw [w64_nat (by omega : t + 1 + k < 9223372036854775807)]
      have e2 : delN keep x0 t (k + 1) = if keep (gt x0 (t + 1 + k)) then ((delN keep x0 t k).1 + 1, (delN keep x0 t k).2.set (delN keep x0 t k).1 (gt x0 (t + 1 + k))) else delN keep x0 t k := rfl
      rw [e2, show t + 1 + k + 1 = t + 1 + (k + 1) by omega]
      cases keep (gt x0 (t + 1 + k)) with
      | false => rfl
      | true =>
        rw [idx_gt (by rw [a2]; omega : (delN keep x0 t k).1 < (delN keep x0 t k).2.length)]
        simp only [cond_true, Option.bind_some, if_true, Int.toNat_natCast]
        rw [w64_nat (by omega)]
    · simp only
      rw [b2, decide_eq_false (by omega)]
      rfl
    · show (zeroTail (delN keep x0 t (x0.length - (t + 1))).2 ((delN keep x0 t (x0.length - (t + 1))).1 : Int) z).bind _ = _
      unfold zeroTail
      rw [if_pos (by omega)]
      simp only [Option.bind_some]
      unfold headL
      rw [if_pos (by simp; omega)]
      simp only [Option.bind_some, Int.toNat_natCast]
      rw [List.take_append_of_le_length (by simp; omega), List.take_take, Nat.min_self, b4, show t + 1 + (x0.length - (t + 1)) = x0.length by omega, List.take_length]

theorem keep_loop {α σ : Type} [Inhabited α] (x0 : List α) (keep : α → Bool) (hn : x0.length ≤ 1000000000) :
    loopW (ρ := ((List α)) ⊕ (σ)) (fun (s21 : Int × (List α)) =>
      cond (decide (s21.1 < (x0.length : Int)))
        ((idx x0 s21.1).bind fun x37 =>
        joinP (fun (j50 : (List α)) =>
          some (.cont (w64 (s21.1 + 1), j50)))
          (fun k52 =>
          cond (keep x37)
            ((idx x0 s21.1).bind fun x59 =>
            (appC s21.2 ([x59] : List α)).bind fun l64 =>
            k52 l64)
            (k52 s21.2)))
        (some (.done (.inl s21.2))))
      (0, ([] : List α)) = some (.inl (x0.filter keep)) := by
  refine loop_all (fun k => ((k : Int), (x0.take k).filter keep)) x0.length rfl (fun k hk => ?_) ?_
  · have hl : ((x0.take k).filter keep).length ≤ k := Nat.le_trans (List.length_filter_le _ _) (by simp; omega)
    simp only
    rw [decide_eq_true (by omega), idx_gt hk]
    simp only [cond_true, Option.bind_some, joinP_eq]
    rw [appC_ok _ _ (by simp only [List.length_cons, List.length_nil]; omega), w64_nat (by omega), filter_take x0 keep hk]
    cases keep (gt x0 k) with
    | true => rfl
    | false => simp
  · simp only
    rw [decide_eq_false (by omega), List.take_length]
    rfl

def seriesAsOf (s : Series) (known : Int) : Series := Series.mk (s.Points.filter fun p => decide (p.Known ≤ known))

theorem not_le_gt (a b : Int) : decide (a > b) = !decide (a ≤ b) := by
  by_cases h : a ≤ b
  · rw [decide_eq_true h, decide_eq_false (by omega)]; rfl
  · rw [decide_eq_false h, decide_eq_true (by omega)]; rfl

theorem impl_SeriesAsOf_eq (s : Series) (known : Int) (h : s.Points.length ≤ 1000000000) : impl_SeriesAsOf s known = some (seriesAsOf s known) := by
  unfold impl_SeriesAsOf slices_Clone_Point
  rw [appC_ok _ _ (by simp; omega)]
  simp only [Option.bind_some, List.nil_append]
  unfold slices_DeleteFunc_Point__impl_SeriesAsOf_1 slices_IndexFunc_Point__impl_SeriesAsOf_1
  have e := delete_eq s.Points (Point.mk 0 0 0) (fun x => impl_SeriesAsOf_1 x known) (fun p => decide (p.Known ≤ known)) (fun x => by unfold impl_SeriesAsOf_1; rw [not_le_gt]) (by omega)
  rw [e]
  rfl

theorem spec_SeriesAsOf_eq (s : Series) (known : Int) (h : s.Points.length ≤ 1000000000) : spec_SeriesAsOf s known = some (seriesAsOf s known) := by
  unfold spec_SeriesAsOf
  rw [keep_loop (σ := Series) s.Points (fun p => decide (p.Known ≤ known)) h]
  rfl

def storeAsOf (s : Store) (known : Int) : Store := Store.mk (s.Facts.filter fun p => decide (p.Known ≤ known))

theorem impl_StoreAsOf_eq (s : Store) (known : Int) (h : s.Facts.length ≤ 1000000000) : impl_StoreAsOf s known = some (storeAsOf s known) := by
  unfold impl_StoreAsOf slices_Clone_Fact
  rw [appC_ok _ _ (by simp; omega)]
  simp only [Option.bind_some, List.nil_append]
  unfold slices_DeleteFunc_Fact__impl_StoreAsOf_1 slices_IndexFunc_Fact__impl_StoreAsOf_1
  have e := delete_eq s.Facts (Fact.mk 0 0 0 0 0) (fun x => impl_StoreAsOf_1 x known) (fun p => decide (p.Known ≤ known)) (fun x => by unfold impl_StoreAsOf_1; rw [not_le_gt]) (by omega)
  rw [e]
  rfl

theorem spec_StoreAsOf_eq (s : Store) (known : Int) (h : s.Facts.length ≤ 1000000000) : spec_StoreAsOf s known = some (storeAsOf s known) := by
  unfold spec_StoreAsOf
  rw [keep_loop (σ := Store) s.Facts (fun p => decide (p.Known ≤ known)) h]
  rfl

def caseAsOf (c : Case) (known : Int) : Case := Case.mk c.Book (storeAsOf c.Store known) (seriesAsOf c.Series known) c.Member

theorem impl_CaseAsOf_eq (c : Case) (known : Int) (h : caseB c) : impl_CaseAsOf c known = some (caseAsOf c known) := by
  unfold impl_CaseAsOf
  rw [impl_copyCase_eq c h, impl_StoreAsOf_eq c.Store known h.2.1, impl_SeriesAsOf_eq c.Series known h.2.2.1]
  rfl

theorem spec_CaseAsOf_eq (c : Case) (known : Int) (h : caseB c) : spec_CaseAsOf c known = some (caseAsOf c known) := by
  unfold spec_CaseAsOf
  rw [spec_copyBook_eq c.Book h.1, spec_StoreAsOf_eq c.Store known h.2.1, spec_SeriesAsOf_eq c.Series known h.2.2.1, spec_copyMember_eq c.Member h.2.2.2.1 h.2.2.2.2]
  rfl

theorem caseAsOf_sm {c : Case} (known : Int) (h : smCase c) : smCase (caseAsOf c known) :=
  ⟨h.1, Nat.le_trans (List.length_filter_le _ _) h.2.1, Nat.le_trans (List.length_filter_le _ _) h.2.2.1, h.2.2.2⟩

theorem CaseAsOf_law (c : Case) (known : Int) (wc : Wf.wf c) (_ : Wf.wf known) : laws_FnExactCaseAsOf c known = some true := by
  unfold laws_FnExactCaseAsOf
  obtain ⟨v, e0, c0⟩ := laws_szCase_ex c 1048576 (by omega) wc
  rw [e0]
  simp only [Option.bind_some]
  rcases c0 with c0 | ⟨h, c1⟩
  · simp [c0]
  rw [decide_eq_false (by omega : ¬ v < 0)]
  have r1 := impl_CaseAsOf_eq c known (smCase_B h)
  have r2 := spec_CaseAsOf_eq c known (smCase_B h)
  have hg := caseAsOf_sm known h
  generalize caseAsOf c known = g at r1 r2 hg
  obtain ⟨k1, l1, l2, l3, l4, l5, m1, n1, n2, n3, n4, n5, b1, d1⟩ := laws_markCase_ex c 1 (by omega) h
  obtain ⟨k2, u1, u2, u3, u4, u5, m2, p1, p2, p3, p4, p5, b2, d2⟩ := laws_markCase_ex g 1 (by omega) hg
  have q1 : ¬ (k1 < 0) := by omega
  have q2 : ¬ (k2 < 0) := by omega
  have sl : ∀ {α : Type} {a b : List α}, a.length = b.length → sameLen a b = some () := fun h => by unfold sameLen; rw [if_pos h]
  have q4 := d2 (Case.mk (Book.mk u1) (Store.mk u2) (Series.mk u3) (Member.mk g.Member.Birth g.Member.Joined u4 u5)) rfl rfl rfl rfl rfl
  simp [laws_toCase_eq c h, r1, r2, laws_eqCase_refl g hg, laws_eqCase_refl c h, m1, sl n1, sl n2, sl n3, sl n4, sl n5, m2, sl p1, sl p2, sl p3, sl p4, sl p5, q1, q2, q4]

end Go.Pen
