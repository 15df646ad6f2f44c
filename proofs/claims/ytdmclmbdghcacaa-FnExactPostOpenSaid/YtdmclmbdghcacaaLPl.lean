/-
  What the laws' own helpers compute: written by a program of ours.
-/
import Derived.Test.YtdmclmbdghcacaaL01
import Derived.Test.YtdmclmbdghcacaaPenV
namespace Go.Pen
set_option linter.unusedVariables false
set_option linter.unusedSimpArgs false

theorem laws_toIntS_eq (x0 : List Int) (h : x0.length ≤ 1048576) : laws_toIntS x0 = some x0 := by
  unfold laws_toIntS
  rw [mkL_len x0 (0 : Int) (by omega)]
  simp only [Option.bind_some]
  rw [copy_loop x0 (0 : Int) (by omega)]
  · rfl
  · intro k x l hx hk
    have hk0 := (List.getElem?_eq_some_iff.1 hx).1
    simp only [idx_nat, hx, List.getElem?_eq_getElem hk, Option.bind_some, w64_nat (by omega : k < 9223372036854775807), show ((k : Int) < (x0.length : Int)) by omega, decide_true, cond_true, Int.toNat_natCast]
  · intro l
    simp

theorem laws_toBandS_eq (x0 : List Band) (h : x0.length ≤ 1048576) : laws_toBandS x0 = some x0 := by
  unfold laws_toBandS
  rw [mkL_len x0 (Band.mk 0 0 : Band) (by omega)]
  simp only [Option.bind_some]
  rw [copy_loop x0 (Band.mk 0 0 : Band) (by omega)]
  · rfl
  · intro k x l hx hk
    have hk0 := (List.getElem?_eq_some_iff.1 hx).1
    simp only [idx_nat, hx, laws_toBand, List.getElem?_eq_getElem hk, Option.bind_some, w64_nat (by omega : k < 9223372036854775807), show ((k : Int) < (x0.length : Int)) by omega, decide_true, cond_true, Int.toNat_natCast]
  · intro l
    simp

theorem laws_toFactS_eq (x0 : List Fact) (h : x0.length ≤ 1048576) : laws_toFactS x0 = some x0 := by
  unfold laws_toFactS
  rw [mkL_len x0 (Fact.mk 0 0 0 0 0 : Fact) (by omega)]
  simp only [Option.bind_some]
  rw [copy_loop x0 (Fact.mk 0 0 0 0 0 : Fact) (by omega)]
  · rfl
  · intro k x l hx hk
    have hk0 := (List.getElem?_eq_some_iff.1 hx).1
    simp only [idx_nat, hx, laws_toFact, List.getElem?_eq_getElem hk, Option.bind_some, w64_nat (by omega : k < 9223372036854775807), show ((k : Int) < (x0.length : Int)) by omega, decide_true, cond_true, Int.toNat_natCast]
  · intro l
    simp

theorem laws_toPostingS_eq (x0 : List Posting) (h : x0.length ≤ 1048576) : laws_toPostingS x0 = some x0 := by
  unfold laws_toPostingS
  rw [mkL_len x0 (Posting.mk 0 0 0 0 : Posting) (by omega)]
  simp only [Option.bind_some]
  rw [copy_loop x0 (Posting.mk 0 0 0 0 : Posting) (by omega)]
  · rfl
  · intro k x l hx hk
    have hk0 := (List.getElem?_eq_some_iff.1 hx).1
    simp only [idx_nat, hx, laws_toPosting, List.getElem?_eq_getElem hk, Option.bind_some, w64_nat (by omega : k < 9223372036854775807), show ((k : Int) < (x0.length : Int)) by omega, decide_true, cond_true, Int.toNat_natCast]
  · intro l
    simp

theorem laws_eqIntS_refl (x0 : List Int) (h : x0.length ≤ 1048576) : laws_eqIntS x0 x0 = some true := by
  unfold laws_eqIntS
  simp only [bne_self_eq_false, cond_false]
  rw [eq_loop x0]
  · rfl
  · intro k x hx
    have hk0 := (List.getElem?_eq_some_iff.1 hx).1
    simp [idx_nat, hx, w64_nat (by omega : k < 9223372036854775807), hk0]
  · simp

theorem laws_eqBandS_refl (x0 : List Band) (h : x0.length ≤ 1048576) : laws_eqBandS x0 x0 = some true := by
  unfold laws_eqBandS
  simp only [bne_self_eq_false, cond_false]
  rw [eq_loop x0]
  · rfl
  · intro k x hx
    have hk0 := (List.getElem?_eq_some_iff.1 hx).1
    simp [idx_nat, hx, laws_eqBand, w64_nat (by omega : k < 9223372036854775807), hk0]
  · simp

theorem laws_eqFactS_refl (x0 : List Fact) (h : x0.length ≤ 1048576) : laws_eqFactS x0 x0 = some true := by
  unfold laws_eqFactS
  simp only [bne_self_eq_false, cond_false]
  rw [eq_loop x0]
  · rfl
  · intro k x hx
    have hk0 := (List.getElem?_eq_some_iff.1 hx).1
    simp [idx_nat, hx, laws_eqFact, w64_nat (by omega : k < 9223372036854775807), hk0]
  · simp

theorem laws_eqPostingS_refl (x0 : List Posting) (h : x0.length ≤ 1048576) : laws_eqPostingS x0 x0 = some true := by
  unfold laws_eqPostingS
  simp only [bne_self_eq_false, cond_false]
  rw [eq_loop x0]
  · rfl
  · intro k x hx
    have hk0 := (List.getElem?_eq_some_iff.1 hx).1
    simp [idx_nat, hx, laws_eqPosting, w64_nat (by omega : k < 9223372036854775807), hk0]
  · simp

theorem laws_szBandS_ex (x0 : List Band) (left : Int) (hl : 0 ≤ left ∧ left ≤ 1048576) (w : Wf.wf x0) : ∃ v, laws_szBandS x0 left = some v ∧ (v < 0 ∨ (x0.length ≤ 1048576 ∧ 0 ≤ v ∧ v ≤ 1048576)) := by
  have h1 : x0.length ≤ 9223372036854775807 := w.1
  unfold laws_szBandS
  rw [w64_id (by omega : -9223372036854775808 ≤ left - (x0.length : Int) ∧ left - (x0.length : Int) ≤ 9223372036854775807)]
  by_cases h : left - (x0.length : Int) < 0
  · exact ⟨-1, by simp [h], .inl (by omega)⟩
  · exact ⟨_, by rw [decide_eq_false h]; rfl, .inr (by omega)⟩

theorem laws_szFactS_ex (x0 : List Fact) (left : Int) (hl : 0 ≤ left ∧ left ≤ 1048576) (w : Wf.wf x0) : ∃ v, laws_szFactS x0 left = some v ∧ (v < 0 ∨ (x0.length ≤ 1048576 ∧ 0 ≤ v ∧ v ≤ 1048576)) := by
  have h1 : x0.length ≤ 9223372036854775807 := w.1
  unfold laws_szFactS
  rw [w64_id (by omega : -9223372036854775808 ≤ left - (x0.length : Int) ∧ left - (x0.length : Int) ≤ 9223372036854775807)]
  by_cases h : left - (x0.length : Int) < 0
  · exact ⟨-1, by simp [h], .inl (by omega)⟩
  · exact ⟨_, by rw [decide_eq_false h]; rfl, .inr (by omega)⟩

theorem laws_szPostingS_ex (x0 : List Posting) (left : Int) (hl : 0 ≤ left ∧ left ≤ 1048576) (w : Wf.wf x0) : ∃ v, laws_szPostingS x0 left = some v ∧ (v < 0 ∨ (x0.length ≤ 1048576 ∧ 0 ≤ v ∧ v ≤ 1048576)) := by
  have h1 : x0.length ≤ 9223372036854775807 := w.1
  unfold laws_szPostingS
  rw [w64_id (by omega : -9223372036854775808 ≤ left - (x0.length : Int) ∧ left - (x0.length : Int) ≤ 9223372036854775807)]
  by_cases h : left - (x0.length : Int) < 0
  · exact ⟨-1, by simp [h], .inl (by omega)⟩
  · exact ⟨_, by rw [decide_eq_false h]; rfl, .inr (by omega)⟩

/-- A marked element. -/
def mkInt (m : Int) (x : Int) : Int := m

theorem stepsInt (m : Int) (h : 0 ≤ m ∧ m ≤ 36028797018963968) : w64 (m + 1) = m + 1 := by
  rw [w64_id (by omega)]

theorem laws_markIntS_eq (x0 : List Int) (k0 : Int) (hk0 : 0 ≤ k0 ∧ k0 ≤ 18014398509481984) (h : x0.length ≤ 1048576) : laws_markIntS x0 k0 = some (k0 + wdL (fun _ => 1) x0, marksL mkInt (fun _ => 1) k0 x0) := by
  have hw : wdL (fun _ => 1) x0 = 1 * x0.length := wdL_const 1 x0
  unfold laws_markIntS
  rw [mark_loop mkInt (fun _ => 1) x0 k0 hk0.1 36028797018963968 (by omega)]
  · rfl
  · intro k x l m hx hlen hmem hm hB
    have hk1 := (List.getElem?_eq_some_iff.1 hx).1
    obtain g1 := stepsInt m ⟨hm, by omega⟩
    have q1 := fun y : Int => List.getElem?_set_self (a := y) hk1
    simp [idx_nat, hx, hk1, mkInt, g1, w64_nat (by omega : k < 9223372036854775807)]
  · intro l m hlen
    simp [hlen]

/-- A marked element. -/
def mkPosting (m : Int) (x : Posting) : Posting := Posting.mk (m) (m + 1) (m + 2) (m + 3)

theorem stepsPosting (m : Int) (h : 0 ≤ m ∧ m ≤ 36028797018963968) : w64 (m + 1) = m + 1 ∧ w64 (m + 1 + 1) = m + 2 ∧ w64 (m + 2 + 1) = m + 3 ∧ w64 (m + 3 + 1) = m + 4 := by
  refine ⟨?_, ?_, ?_, ?_⟩ <;> rw [w64_id (by omega)] <;> omega

theorem laws_markPostingS_eq (x0 : List Posting) (k0 : Int) (hk0 : 0 ≤ k0 ∧ k0 ≤ 18014398509481984) (h : x0.length ≤ 1048576) : laws_markPostingS x0 k0 = some (k0 + wdL (fun _ => 4) x0, marksL mkPosting (fun _ => 4) k0 x0) := by
  have hw : wdL (fun _ => 4) x0 = 4 * x0.length := wdL_const 4 x0
  unfold laws_markPostingS
  rw [mark_loop mkPosting (fun _ => 4) x0 k0 hk0.1 36028797018963968 (by omega)]
  · rfl
  · intro k x l m hx hlen hmem hm hB
    have hk1 := (List.getElem?_eq_some_iff.1 hx).1
    obtain ⟨g1, g2, g3, g4⟩ := stepsPosting m ⟨hm, by omega⟩
    have q1 := fun y : Posting => List.getElem?_set_self (a := y) hk1
    simp [idx_nat, hx, hk1, mkPosting, g1, g2, g3, g4, w64_nat (by omega : k < 9223372036854775807)]
  · intro l m hlen
    simp [hlen]

theorem laws_heldIntS_eq (x0 : List Int) (k0 : Int) (hk0 : 0 ≤ k0 ∧ k0 ≤ 18014398509481984) (h : x0.length ≤ 1048576) : laws_heldIntS (marksL mkInt (fun _ => 1) k0 x0) k0 = some (k0 + wdL (fun _ => 1) x0) := by
  have hw : wdL (fun _ => 1) x0 = 1 * x0.length := wdL_const 1 x0
  unfold laws_heldIntS
  rw [held_loop mkInt (fun _ => 1) x0 k0 hk0.1 36028797018963968 (by omega)]
  · rfl
  · intro k x m hk hx hmem hm hB
    obtain g1 := stepsInt m ⟨hm, by omega⟩
    have hi := (idx_nat (marksL mkInt (fun _ => 1) k0 x0) k).trans hx
    rw [hi]
    simp [marksL_length, hk, mkInt, g1, w64_nat (by omega : k < 9223372036854775807)]
  · intro m
    simp [marksL_length]

theorem laws_heldPostingS_eq (x0 : List Posting) (k0 : Int) (hk0 : 0 ≤ k0 ∧ k0 ≤ 18014398509481984) (h : x0.length ≤ 1048576) : laws_heldPostingS (marksL mkPosting (fun _ => 4) k0 x0) k0 = some (k0 + wdL (fun _ => 4) x0) := by
  have hw : wdL (fun _ => 4) x0 = 4 * x0.length := wdL_const 4 x0
  unfold laws_heldPostingS
  rw [held_loop mkPosting (fun _ => 4) x0 k0 hk0.1 36028797018963968 (by omega)]
  · rfl
  · intro k x m hk hx hmem hm hB
    obtain ⟨g1, g2, g3, g4⟩ := stepsPosting m ⟨hm, by omega⟩
    have hi := (idx_nat (marksL mkPosting (fun _ => 4) k0 x0) k).trans hx
    rw [hi]
    simp [marksL_length, hk, mkPosting, g1, g2, g3, g4, w64_nat (by omega : k < 9223372036854775807)]
  · intro m
    simp [marksL_length]

/-- Its lists are of a size that the laws let in. -/
def smStore (x : Store) : Prop := x.Facts.length ≤ 1048576

theorem laws_toStore_eq (x : Store) (h : smStore x) : laws_toStore x = some x := by
  have h0 := h
  unfold smStore at h0
  unfold laws_toStore
  simp only [laws_toFactS_eq x.Facts h0, Option.bind_some]

theorem laws_eqStore_refl (x : Store) (h : smStore x) : laws_eqStore x x = some true := by
  have h0 := h
  unfold smStore at h0
  unfold laws_eqStore
  simp [laws_eqFactS_refl x.Facts h0]

theorem laws_szStore_ex (x : Store) (left : Int) (hl : 0 ≤ left ∧ left ≤ 1048576) (w : Wf.wf x) : ∃ v, laws_szStore x left = some v ∧ (v < 0 ∨ (smStore x ∧ 0 ≤ v ∧ v ≤ 1048576)) := by
  unfold laws_szStore
  obtain ⟨v0, e0, c0⟩ := laws_szFactS_ex x.Facts left hl w
  rw [e0]
  simp only [Option.bind_some]
  rcases c0 with c0 | c0
  · exact ⟨-1, by simp [c0], .inl (by omega)⟩
  rw [decide_eq_false (by omega : ¬ v0 < 0)]
  simp only [cond_false]
  exact ⟨_, rfl, .inr ⟨c0.1, c0.2⟩⟩

/-- Its lists are of a size that the laws let in. -/
def smLedger (x : Ledger) : Prop := x.Postings.length ≤ 1048576

theorem laws_toLedger_eq (x : Ledger) (h : smLedger x) : laws_toLedger x = some x := by
  have h0 := h
  unfold smLedger at h0
  unfold laws_toLedger
  simp only [laws_toPostingS_eq x.Postings h0, Option.bind_some]

theorem laws_eqLedger_refl (x : Ledger) (h : smLedger x) : laws_eqLedger x x = some true := by
  have h0 := h
  unfold smLedger at h0
  unfold laws_eqLedger
  simp [laws_eqPostingS_refl x.Postings h0]

theorem laws_szLedger_ex (x : Ledger) (left : Int) (hl : 0 ≤ left ∧ left ≤ 1048576) (w : Wf.wf x) : ∃ v, laws_szLedger x left = some v ∧ (v < 0 ∨ (smLedger x ∧ 0 ≤ v ∧ v ≤ 1048576)) := by
  unfold laws_szLedger
  obtain ⟨v0, e0, c0⟩ := laws_szPostingS_ex x.Postings left hl w
  rw [e0]
  simp only [Option.bind_some]
  rcases c0 with c0 | c0
  · exact ⟨-1, by simp [c0], .inl (by omega)⟩
  rw [decide_eq_false (by omega : ¬ v0 < 0)]
  simp only [cond_false]
  exact ⟨_, rfl, .inr ⟨c0.1, c0.2⟩⟩

theorem laws_markLedger_ex (x : Ledger) (k : Int) (hk : 0 ≤ k ∧ k ≤ 9007199254740992) (h : smLedger x) : ∃ k1 l0, laws_markLedger x k = some (k1, l0) ∧ l0.length = x.Postings.length ∧ (k ≤ k1 ∧ k1 ≤ k + 1073741824) ∧ ∀ y : Ledger, y.Postings = l0 → laws_heldLedger y k = some k1 := by
  have h0 := h
  unfold smLedger at h0
  unfold laws_markLedger laws_heldLedger
  have w0 : wdL (fun _ => 4) x.Postings = 4 * x.Postings.length := wdL_const 4 x.Postings
  have m0 := laws_markPostingS_eq x.Postings (k) ⟨by omega, by omega⟩ h0
  have d0 := laws_heldPostingS_eq x.Postings (k) ⟨by omega, by omega⟩ h0
  have s0 : sameLen (marksL mkPosting (fun _ => 4) (k) x.Postings) x.Postings = some () := by unfold sameLen; rw [if_pos (marksL_length _ _ _ _)]
  have p0 : ¬ (k + (wdL (fun _ => 4) x.Postings : Int) < 0) := by omega
  refine ⟨k + (wdL (fun _ => 4) x.Postings : Int), marksL mkPosting (fun _ => 4) (k) x.Postings, ?_, marksL_length _ _ _ _, ⟨by omega, by omega⟩, ?_⟩
  · simp only [m0, s0, Option.bind_some]
  · intro y q0
    simp [q0, d0, p0]

/-- Its lists are of a size that the laws let in. -/
def smBooks (x : Books) : Prop := smLedger x.Ledger

theorem laws_toBooks_eq (x : Books) (h : smBooks x) : laws_toBooks x = some x := by
  have h0 := h
  unfold smBooks at h0
  unfold laws_toBooks
  simp only [laws_toLedger_eq x.Ledger h0, Option.bind_some]

theorem laws_eqBooks_refl (x : Books) (h : smBooks x) : laws_eqBooks x x = some true := by
  have h0 := h
  unfold smBooks at h0
  unfold laws_eqBooks
  simp [laws_eqLedger_refl x.Ledger h0]

theorem laws_szBooks_ex (x : Books) (left : Int) (hl : 0 ≤ left ∧ left ≤ 1048576) (w : Wf.wf x) : ∃ v, laws_szBooks x left = some v ∧ (v < 0 ∨ (smBooks x ∧ 0 ≤ v ∧ v ≤ 1048576)) := by
  unfold laws_szBooks
  obtain ⟨v0, e0, c0⟩ := laws_szLedger_ex x.Ledger left hl w.1
  rw [e0]
  simp only [Option.bind_some]
  rcases c0 with c0 | c0
  · exact ⟨-1, by simp [c0], .inl (by omega)⟩
  rw [decide_eq_false (by omega : ¬ v0 < 0)]
  simp only [cond_false]
  exact ⟨_, rfl, .inr ⟨c0.1, c0.2⟩⟩

theorem laws_markBooks_ex (x : Books) (k : Int) (hk : 0 ≤ k ∧ k ≤ 9007199254740992) (h : smBooks x) : ∃ k1 l0, laws_markBooks x k = some (k1, l0) ∧ l0.length = x.Ledger.Postings.length ∧ (k ≤ k1 ∧ k1 ≤ k + 1073741824) ∧ ∀ y : Books, y.Ledger.Postings = l0 → laws_heldBooks y k = some k1 := by
  have h0 := h
  unfold smBooks at h0
  unfold laws_markBooks laws_heldBooks
  obtain ⟨j0, u0_0, m0, n0_0, b0, d0⟩ := laws_markLedger_ex x.Ledger (k) ⟨by omega, by omega⟩ h0
  have s0_0 : sameLen u0_0 x.Ledger.Postings = some () := by unfold sameLen; rw [if_pos n0_0]
  have p0 : ¬ (j0 < 0) := by omega
  refine ⟨j0, u0_0, ?_, n0_0, ⟨by omega, by omega⟩, ?_⟩
  · simp only [m0, s0_0, Option.bind_some]
  · intro y q0
    have e0 := d0 y.Ledger q0
    simp [q0, p0, e0]

end Go.Pen
