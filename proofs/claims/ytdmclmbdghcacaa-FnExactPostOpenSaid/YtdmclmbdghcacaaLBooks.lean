/-
  Books and ledgers: the two texts compute the same.
-/
import Derived.Test.YtdmclmbdghcacaaLPl
namespace Go.Pen
set_option linter.unusedVariables false

def pOk (x : Posting) : Bool := inB x.Month 0 3599 && (inB x.Debit 1 9 && (inB x.Credit 1 9 && ((x.Debit != x.Credit) && inB x.Cents 1 1000000000)))

theorem spec_PostingOk_eq (x : Posting) : spec_PostingOk x = some (pOk x) := by
  unfold spec_PostingOk spec_MonthOk pOk
  simp only [l01In_eq, Option.bind_some]
  cases inB x.Month 0 3599 <;> cases inB x.Debit 1 9 <;> cases inB x.Credit 1 9 <;> cases (x.Debit != x.Credit) <;> cases inB x.Cents 1 1000000000 <;> rfl

theorem impl_PostingOk_eq (x : Posting) : impl_PostingOk x = some (pOk x) := by
  unfold impl_PostingOk impl_MonthOk pOk
  simp only [within_eq, Option.bind_some]
  cases inB x.Month 0 3599 <;> cases inB x.Debit 1 9 <;> cases inB x.Credit 1 9 <;> cases (x.Debit != x.Credit) <;> cases inB x.Cents 1 1000000000 <;> rfl

def lOk (x : Ledger) : Bool := x.Postings.all pOk && decide (x.Postings.length ≤ 300)

theorem spec_LedgerOk_eq (x : Ledger) (h : x.Postings.length ≤ 1099511627776) : spec_LedgerOk x = some (lOk x) := by
  unfold spec_LedgerOk lOk
  have hs := all_scan (ρ := Bool) x.Postings pOk (fun _ => false) (fun (s21 : Int) =>
    cond (decide (s21 < (x.Postings.length : Int)))
      ((idx x.Postings s21).bind fun x37 =>
      (spec_PostingOk x37).bind fun t40 =>
      cond (!t40)
        (some (.done (.inr false)))
        (some (.cont (w64 (s21 + 1)))))
      (some (.done (.inl ())))) (fun k y hy => by
        have hk := (List.getElem?_eq_some_iff.1 hy).1
        simp only [idx_nat, hy, spec_PostingOk_eq, Option.bind_some, w64_nat (by omega : k < 9223372036854775807), show ((k : Int) < (x.Postings.length : Int)) by omega, decide_true, cond_true]
        cases pOk y <;> rfl) (by simp)
  rcases hs with ⟨h1, h2⟩ | ⟨h1, j, h2⟩
  · rw [h1, h2]
    by_cases h3 : x.Postings.length ≤ 300
    · have : (x.Postings.length : Int) ≤ 300 := by omega
      simp [brkE, h3, this]
    · have : ¬ (x.Postings.length : Int) ≤ 300 := by omega
      simp [brkE, h3, this]
  · rw [h1, h2]; rfl

theorem impl_LedgerOk_eq (x : Ledger) (h : x.Postings.length ≤ 1099511627776) : impl_LedgerOk x = some (lOk x) := by
  unfold impl_LedgerOk lOk slices_ContainsFunc_Posting__impl_LedgerOk_1 slices_IndexFunc_Posting__impl_LedgerOk_1
  have hs := all_scan (ρ := Int) x.Postings pOk (fun k => (k : Int)) (fun (s21 : Int) =>
    cond (decide (s21 < (x.Postings.length : Int)))
      ((idx x.Postings s21).bind fun x37 =>
      (impl_LedgerOk_1 x37).bind fun t40 =>
      cond t40
        (some (.done (.inr s21)))
        (some (.cont (w64 (s21 + 1)))))
      (some (.done (.inl ())))) (fun k y hy => by
        have hk := (List.getElem?_eq_some_iff.1 hy).1
        simp only [idx_nat, hy, impl_LedgerOk_1, impl_PostingOk_eq, Option.bind_some, w64_nat (by omega : k < 9223372036854775807), show ((k : Int) < (x.Postings.length : Int)) by omega, decide_true, cond_true]
        cases pOk y <;> rfl) (by simp)
  by_cases h3 : x.Postings.length ≤ 300
  · have h4 : (x.Postings.length : Int) ≤ 300 := by omega
    rw [decide_eq_true h3, decide_eq_true h4]
    simp only [cond_true]
    rcases hs with ⟨h1, h2⟩ | ⟨h1, j, h2⟩
    · rw [h1, h2]; rfl
    · rw [h1, h2]; simp [brkE]
  · have h4 : ¬ (x.Postings.length : Int) ≤ 300 := by omega
    rw [decide_eq_false h3, decide_eq_false h4]
    simp

theorem copyBooks_eq (x : Books) (h : smBooks x) : impl_copyBooks x = some x ∧ spec_l29Copy x = some x := by
  have h1 : x.Ledger.Postings.length ≤ 1048576 := h
  unfold impl_copyBooks spec_l29Copy impl_copyLedger spec_l28Copy slices_Clone_Posting
  rw [appC_ok _ _ (by simp; omega)]
  exact ⟨rfl, rfl⟩

theorem BooksOk_eq (x : Books) (h : smBooks x) : impl_BooksOk x = some (lOk x.Ledger && inB x.Closed 0 3599) ∧ spec_BooksOk x = some (lOk x.Ledger && inB x.Closed 0 3599) := by
  have h1 : x.Ledger.Postings.length ≤ 1048576 := h
  unfold impl_BooksOk spec_BooksOk spec_MonthOk
  simp only [impl_LedgerOk_eq x.Ledger (by omega), spec_LedgerOk_eq x.Ledger (by omega), within_eq, l01In_eq, Option.bind_some]
  cases lOk x.Ledger <;> cases inB x.Closed 0 3599 <;> exact ⟨rfl, rfl⟩

theorem CloseUpTo_eq (x : Books) (m : Int) (h : smBooks x) : ∃ g b, impl_CloseUpTo x m = some (g, b) ∧ spec_CloseUpTo x m = some (g, b) ∧ smBooks g := by
  unfold impl_CloseUpTo spec_CloseUpTo spec_MonthOk impl_MonthOk
  simp only [(copyBooks_eq x h).1, (copyBooks_eq x h).2, (BooksOk_eq x h).1, (BooksOk_eq x h).2, within_eq, l01In_eq, Option.bind_some]
  cases lOk x.Ledger && inB x.Closed 0 3599 <;> cases inB m 0 3599 <;> cases decide (m < x.Closed) <;> exact ⟨_, _, rfl, rfl, h⟩

theorem Post_eq (x : Ledger) (p : Posting) (h : smLedger x) : ∃ g b, impl_Post x p = some (g, b) ∧ spec_Post x p = some (g, b) ∧ g.Postings.length ≤ 1048577 ∧ (b = true → g.Postings.length ≤ 300) ∧ (b = false → g = x) ∧ (lOk x = false → b = false) := by
  have h1 : x.Postings.length ≤ 1048576 := h
  unfold impl_Post spec_Post impl_copyLedger spec_l28Copy slices_Clone_Posting
  rw [appC_ok ([] : List Posting) _ (by simp; omega)]
  simp only [List.nil_append, Option.bind_some]
  rw [appC_ok _ _ (by simp; omega)]
  simp only [Option.bind_some, impl_LedgerOk_eq x (by omega), spec_LedgerOk_eq x (by omega), impl_LedgerOk_eq (Ledger.mk (x.Postings ++ [p])) (by simp; omega), spec_LedgerOk_eq (Ledger.mk (x.Postings ++ [p])) (by simp; omega)]
  cases h2 : lOk x with
  | false => exact ⟨_, _, rfl, rfl, by simp; omega, fun hb => (by cases hb), fun _ => rfl, fun _ => rfl⟩
  | true =>
    cases h3 : lOk (Ledger.mk (x.Postings ++ [p])) with
    | false => exact ⟨_, _, rfl, rfl, by simp; omega, fun hb => (by cases hb), fun _ => rfl, fun hb => (by cases hb)⟩
    | true =>
      refine ⟨_, _, rfl, rfl, by simp; omega, fun _ => ?_, fun hb => (by cases hb), fun hb => (by cases hb)⟩
      simp only [lOk, Bool.and_eq_true, decide_eq_true_eq] at h3
      exact h3.2

theorem PostOpen_eq (x : Books) (p : Posting) (h : smBooks x) : ∃ g b, impl_PostOpen x p = some (g, b) ∧ spec_PostOpen x p = some (g, b) ∧ smBooks g := by
  have h1 : x.Ledger.Postings.length ≤ 1048576 := h
  obtain ⟨g, b, e1, e2, l1, l2, l3, l4⟩ := Post_eq x.Ledger p h
  unfold impl_PostOpen spec_PostOpen
  simp only [(copyBooks_eq x h).1, (copyBooks_eq x h).2, (BooksOk_eq x h).1, (BooksOk_eq x h).2, e1, e2, Option.bind_some]
  cases hb : b with
  | false =>
    have hg := l3 hb
    subst hg
    cases lOk x.Ledger && inB x.Closed 0 3599 <;> cases decide (p.Month < x.Closed) <;> exact ⟨_, _, rfl, rfl, h⟩
  | true =>
    have hg := l2 hb
    cases lOk x.Ledger && inB x.Closed 0 3599 <;> cases decide (p.Month < x.Closed)
    · exact ⟨_, _, rfl, rfl, h⟩
    · exact ⟨_, _, rfl, rfl, h⟩
    · exact ⟨_, _, rfl, rfl, (by show g.Postings.length ≤ 1048576; omega)⟩
    · exact ⟨_, _, rfl, rfl, h⟩

theorem PostLate_eq (x : Books) (p : Posting) (h : smBooks x) : ∃ g m b, impl_PostLate x p = some (g, m, b) ∧ spec_PostLate x p = some (g, m, b) ∧ smBooks g := by
  have h1 : x.Ledger.Postings.length ≤ 1048576 := h
  obtain ⟨g, b, e1, e2, l1, l2, l3, l4⟩ := Post_eq x.Ledger (Posting.mk (imax p.Month x.Closed) p.Debit p.Credit p.Cents) h
  unfold impl_PostLate spec_PostLate spec_PostOpen
  simp only [(copyBooks_eq x h).1, (copyBooks_eq x h).2, (BooksOk_eq x h).1, (BooksOk_eq x h).2, spec_PostingOk_eq, impl_PostingOk_eq, e1, e2, Option.bind_some]
  have hn : decide (imax p.Month x.Closed < x.Closed) = false := by
    unfold imax
    split <;> simp <;> omega
  cases hk : (lOk x.Ledger && inB x.Closed 0 3599) with
  | false => exact ⟨_, _, _, rfl, rfl, h⟩
  | true =>
    cases pOk p with
    | false => exact ⟨_, _, _, rfl, rfl, h⟩
    | true =>
      simp only [Bool.not_true, cond_false, Option.bind_some, hn]
      cases hb : b with
      | false => exact ⟨_, _, _, rfl, rfl, h⟩
      | true =>
        have hg := l2 hb
        exact ⟨_, _, _, rfl, rfl, (by show g.Postings.length ≤ 1048576; omega)⟩

theorem CloseUpTo_law (x : Books) (m : Int) (wx : Wf.wf x) (_ : i64ok m) : laws_FnExactCloseUpTo x m = some true := by
  unfold laws_FnExactCloseUpTo
  obtain ⟨v, e0, c0⟩ := laws_szBooks_ex x 1048576 (by omega) wx
  rw [e0]
  simp only [Option.bind_some]
  rcases c0 with c0 | ⟨h, c1⟩
  · simp [c0]
  · rw [decide_eq_false (by omega : ¬ v < 0)]
    obtain ⟨g, b, e1, e2, hg⟩ := CloseUpTo_eq x m h
    obtain ⟨k1, l1, m1, n1, b1, d1⟩ := laws_markBooks_ex x 1 (by omega) h
    obtain ⟨k2, l2, m2, n2, b2, d2⟩ := laws_markBooks_ex g 1 (by omega) hg
    have s1 : sameLen l1 x.Ledger.Postings = some () := by unfold sameLen; rw [if_pos n1]
    have s2 : sameLen l2 g.Ledger.Postings = some () := by unfold sameLen; rw [if_pos n2]
    have eta : Books.mk (Ledger.mk g.Ledger.Postings) g.Closed = g := rfl
    have p1 : ¬ (k1 < 0) := by omega
    have p2 : ¬ (k2 < 0) := by omega
    have q2 := d2 (Books.mk (Ledger.mk l2) g.Closed) rfl
    simp [laws_toBooks_eq x h, e1, e2, eta, laws_eqBooks_refl g hg, laws_eqBooks_refl x h, m1, m2, s1, s2, p1, p2, q2]

theorem PostOpen_law (x : Books) (p : Posting) (wx : Wf.wf x) (_ : Wf.wf p) : laws_FnExactPostOpen x p = some true := by
  unfold laws_FnExactPostOpen
  obtain ⟨v, e0, c0⟩ := laws_szBooks_ex x 1048576 (by omega) wx
  rw [e0]
  simp only [Option.bind_some]
  rcases c0 with c0 | ⟨h, c1⟩
  · simp [c0]
  · rw [decide_eq_false (by omega : ¬ v < 0)]
    obtain ⟨g, b, e1, e2, hg⟩ := PostOpen_eq x p h
    obtain ⟨k1, l1, m1, n1, b1, d1⟩ := laws_markBooks_ex x 1 (by omega) h
    obtain ⟨k2, l2, m2, n2, b2, d2⟩ := laws_markBooks_ex g 1 (by omega) hg
    have s1 : sameLen l1 x.Ledger.Postings = some () := by unfold sameLen; rw [if_pos n1]
    have s2 : sameLen l2 g.Ledger.Postings = some () := by unfold sameLen; rw [if_pos n2]
    have eta : Books.mk (Ledger.mk g.Ledger.Postings) g.Closed = g := rfl
    have p1 : ¬ (k1 < 0) := by omega
    have p2 : ¬ (k2 < 0) := by omega
    have q2 := d2 (Books.mk (Ledger.mk l2) g.Closed) rfl
    simp [laws_toBooks_eq x h, laws_toPosting, e1, e2, eta, laws_eqBooks_refl g hg, laws_eqBooks_refl x h, m1, m2, s1, s2, p1, p2, q2]

theorem PostLate_law (x : Books) (p : Posting) (wx : Wf.wf x) (_ : Wf.wf p) : laws_FnExactPostLate x p = some true := by
  unfold laws_FnExactPostLate
  obtain ⟨v, e0, c0⟩ := laws_szBooks_ex x 1048576 (by omega) wx
  rw [e0]
  simp only [Option.bind_some]
  rcases c0 with c0 | ⟨h, c1⟩
  · simp [c0]
  · rw [decide_eq_false (by omega : ¬ v < 0)]
    obtain ⟨g, mm, b, e1, e2, hg⟩ := PostLate_eq x p h
    obtain ⟨k1, l1, m1, n1, b1, d1⟩ := laws_markBooks_ex x 1 (by omega) h
    obtain ⟨k2, l2, m2, n2, b2, d2⟩ := laws_markBooks_ex g 1 (by omega) hg
    have s1 : sameLen l1 x.Ledger.Postings = some () := by unfold sameLen; rw [if_pos n1]
    have s2 : sameLen l2 g.Ledger.Postings = some () := by unfold sameLen; rw [if_pos n2]
    have eta : Books.mk (Ledger.mk g.Ledger.Postings) g.Closed = g := rfl
    have p1 : ¬ (k1 < 0) := by omega
    have p2 : ¬ (k2 < 0) := by omega
    have q2 := d2 (Books.mk (Ledger.mk l2) g.Closed) rfl
    simp [laws_toBooks_eq x h, laws_toPosting, e1, e2, eta, laws_eqBooks_refl g hg, laws_eqBooks_refl x h, m1, m2, s1, s2, p1, p2, q2]

end Go.Pen
