/-
  The facts' store: the two texts compute the same.
-/
import Derived.Test.YtdmclmbdghcacaaLInt
namespace Go.Pen
set_option linter.unusedVariables false

theorem FactOk_eq (x : Fact) : impl_FactOk x = spec_FactOk x := by
  unfold impl_FactOk spec_FactOk impl_isSpan impl_MonthOk spec_MonthOk
  simp only [within_eq, l01In_eq, Option.bind_some]
  cases inB x.Key 1 50 <;> cases inB x.Known 0 3599 <;> cases inB x.Value (-1000000000) 1000000000 <;> by_cases h1 : 0 ≤ x.From <;> by_cases h2 : x.From < x.To <;> by_cases h3 : x.To ≤ 3600 <;> simp [h1, h2, h3]

theorem FactOk_some (x : Fact) : ∃ b, spec_FactOk x = some b := by
  unfold spec_FactOk spec_MonthOk
  simp only [l01In_eq, Option.bind_some]
  cases inB x.Key 1 50 <;> cases inB x.Known 0 3599 <;> cases inB x.Value (-1000000000) 1000000000 <;> by_cases h1 : 0 ≤ x.From <;> by_cases h2 : x.From < x.To <;> by_cases h3 : x.To ≤ 3600 <;> simp [h1, h2, h3]

theorem StoreOk_eq (x : Store) : impl_StoreOk x = spec_StoreOk x := by
  unfold impl_StoreOk spec_StoreOk
  congr 2
  funext s
  cases hb : decide (s < (x.Facts.length : Int)) with
  | false => rfl
  | true =>
    simp only [cond_true]
    cases hi : idx x.Facts s with
    | none => rfl
    | some y => simp only [Option.bind_some, FactOk_eq]

theorem StoreOk_some (x : Store) (hx : x.Facts.length ≤ 1099511627776) : ∃ b, spec_StoreOk x = some b := by
  unfold spec_StoreOk
  obtain ⟨r, hr⟩ := loopW_ex (ρ := Unit ⊕ Bool) (body := fun (s21 : Int) =>
    cond (decide (s21 < (x.Facts.length : Int)))
      (Option.bind (α := Bool)
        ((idx x.Facts s21).bind fun x40 =>
        (spec_FactOk x40).bind fun t43 =>
        cond (!t43)
          (some true)
          (cond (decide (s21 > 0))
            ((idx x.Facts (w64 (s21 - 1))).bind fun x53 =>
            (idx x.Facts s21).bind fun x56 =>
            some (decide (x53.Known > x56.Known)))
            (some false)))
        fun p37 =>
      cond p37
        (some (.done (.inr false)))
        (some (.cont (w64 (s21 + 1)))))
      (some (.done (.inl ())))) (fun k (_ : Unit) => ((k : Nat) : Int)) x.Facts.length (fun k t hk => by
        have hx : x.Facts[k]? = some x.Facts[k] := List.getElem?_eq_getElem hk
        obtain ⟨b, hb⟩ := FactOk_some x.Facts[k]
        simp only [idx_nat, hx, hb, Option.bind_some, w64_nat (by omega : k < 9223372036854775807), show ((k : Int) < (x.Facts.length : Int)) by omega, decide_true, cond_true]
        cases b with
        | false => exact .inr ⟨_, rfl⟩
        | true =>
          by_cases h0 : (k : Int) > 0
          · have e1 : w64 ((k : Int) - 1) = ((k - 1 : Nat) : Int) := by rw [w64_id (by omega)]; omega
            have hx1 : x.Facts[k - 1]? = some (x.Facts[k - 1]'(by omega)) := List.getElem?_eq_getElem (by omega)
            simp only [h0, decide_true, Bool.not_true, cond_false, cond_true, e1, idx_nat, hx1, Option.bind_some]
            cases decide ((x.Facts[k - 1]'(by omega)).Known > x.Facts[k].Known) with
            | true => exact .inr ⟨_, rfl⟩
            | false => exact .inl ⟨(), rfl⟩
          · simp only [h0, decide_false, Bool.not_true, cond_false, Option.bind_some]
            exact .inl ⟨(), trivial⟩) (fun t => by simp) ()
  have e0 : ((0 : Nat) : Int) = 0 := rfl
  rw [e0] at hr
  rw [hr]
  simp only [Option.bind_some]
  cases r with
  | inl v => exact ⟨_, rfl⟩
  | inr v => exact ⟨_, rfl⟩

/-- What the digest takes in of a number. -/
def dig (n x : Int) : Int := Int.tmod (w64 ((w64 ((w64 (n * 1000003)) + x)) + 1000000001)) 2147483647
/-- .. of a fact. -/
def digF (n : Int) (x : Fact) : Int := [x.Key, x.From, x.To, x.Known, x.Value].foldl dig n

theorem StoreDigest_some (x : Store) (hx : x.Facts.length ≤ 1099511627776) : ∃ v, impl_StoreDigest x = some v ∧ spec_StoreDigest x = some v := by
  unfold impl_StoreDigest spec_StoreDigest
  rw [StoreOk_eq]
  obtain ⟨b, hb⟩ := StoreOk_some x hx
  simp only [hb, Option.bind_some]
  cases b with
  | false => exact ⟨0, rfl, rfl⟩
  | true =>
    simp only [Bool.not_true, cond_false]
    refine ⟨x.Facts.foldl digF 7, ?_, ?_⟩
    · rw [fold_loop x.Facts (fun k (t : Int) => ((k : Int), (x.Facts.length : Int), t)) digF (fun t => Sum.inl t) 7 (0, (x.Facts.length : Int), 7) rfl (fun k t y hy => ?_) (fun t => ?_)]
      · rfl
      · have hk := (List.getElem?_eq_some_iff.1 hy).1
        simp only [idx_nat, hy, Option.bind_some, show ((k : Int) < (x.Facts.length : Int)) by omega, decide_true, cond_true]
        rw [fold_loop [y.Key, y.From, y.To, y.Known, y.Value] (fun k (t : Int) => ((k : Int), t)) dig (fun t => Sum.inl ((k : Int), (x.Facts.length : Int), t, y.Key, y.From, y.To, y.Known, y.Value)) t (0, t) rfl (fun j t z hz => ?_) (fun t => ?_)]
        · simp only [Option.bind_some, brkE, w64_nat (by omega : k < 9223372036854775807)]
          rfl
        · have hj := (List.getElem?_eq_some_iff.1 hz).1
          simp only [idx_nat, hz, Option.bind_some, show ((j : Int) < (([y.Key, y.From, y.To, y.Known, y.Value] : List Int).length : Int)) by omega, decide_true, cond_true, w64_nat (show j < 9223372036854775807 by simp at hj; omega)]
          rfl
        · simp
      · simp
    · rw [fold_loop x.Facts (fun k (t : Int) => ((k : Int), t)) digF (fun t => Sum.inl t) 7 (0, 7) rfl (fun k t y hy => ?_) (fun t => ?_)]
      · rfl
      · have hk := (List.getElem?_eq_some_iff.1 hy).1
        simp only [idx_nat, hy, Option.bind_some, show ((k : Int) < (x.Facts.length : Int)) by omega, decide_true, cond_true]
        rw [fold_loop [y.Key, y.From, y.To, y.Known, y.Value] (fun k (t : Int) => ((k : Int), t)) dig (fun t => Sum.inl ((k : Int), t, y.Key, y.From, y.To, y.Known, y.Value)) t (0, t) rfl (fun j t z hz => ?_) (fun t => ?_)]
        · simp only [Option.bind_some, brkE, w64_nat (by omega : k < 9223372036854775807)]
          rfl
        · have hj := (List.getElem?_eq_some_iff.1 hz).1
          simp only [idx_nat, hz, Option.bind_some, show ((j : Int) < (([y.Key, y.From, y.To, y.Known, y.Value] : List Int).length : Int)) by omega, decide_true, cond_true, w64_nat (show j < 9223372036854775807 by simp at hj; omega)]
          rfl
        · simp
      · simp

theorem toFactS_eq (x0 : List Fact) (h : x0.length ≤ 1099511627776) : laws_toFactS x0 = some x0 := by
  unfold laws_toFactS
  rw [mkL_len x0 (Fact.mk 0 0 0 0 0) h]
  simp only [Option.bind_some]
  rw [copy_loop x0 (Fact.mk 0 0 0 0 0) h]
  · rfl
  · intro k x l hx hk
    have hk0 := (List.getElem?_eq_some_iff.1 hx).1
    simp only [idx_nat, hx, laws_toFact, List.getElem?_eq_getElem hk, Option.bind_some, w64_nat (by omega : k < 9223372036854775807), show ((k : Int) < (x0.length : Int)) by omega, decide_true, cond_true, Int.toNat_natCast]
  · intro l
    simp

theorem eqFactS_refl (x0 : List Fact) (h : x0.length ≤ 1099511627776) : laws_eqFactS x0 x0 = some true := by
  unfold laws_eqFactS
  simp only [bne_self_eq_false, cond_false]
  rw [eq_loop x0]
  · rfl
  · intro k x hx
    have hk0 := (List.getElem?_eq_some_iff.1 hx).1
    simp only [idx_nat, hx, laws_eqFact, Option.bind_some, w64_nat (by omega : k < 9223372036854775807), show ((k : Int) < (x0.length : Int)) by omega, decide_true, cond_true, bne_self_eq_false, cond_false, Bool.not_true]
  · simp

theorem StoreDigest_law (x : Store) (wx : Wf.wf x) : laws_FnExactStoreDigest x = some true := by
  unfold laws_FnExactStoreDigest laws_szStore laws_szFactS
  have hl : x.Facts.length ≤ 9223372036854775807 := wx.1
  have hw : w64 (1048576 - (x.Facts.length : Int)) = 1048576 - (x.Facts.length : Int) := w64_id (by omega)
  rw [hw]
  by_cases h2 : 1048576 - (x.Facts.length : Int) < 0
  · simp [h2]
  · have hx : x.Facts.length ≤ 1099511627776 := by omega
    obtain ⟨v, g1, g2⟩ := StoreDigest_some x hx
    have et : laws_toStore x = some x := by unfold laws_toStore; rw [toFactS_eq x.Facts hx]; rfl
    have eq : laws_eqStore x x = some true := by unfold laws_eqStore; rw [eqFactS_refl x.Facts hx]; rfl
    simp [h2, et, eq, g1, g2]

end Go.Pen
