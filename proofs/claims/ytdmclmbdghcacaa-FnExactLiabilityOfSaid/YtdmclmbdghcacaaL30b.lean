/-
  Liabilities: the two texts compute the same.
-/
import Derived.Test.YtdmclmbdghcacaaLInt
namespace Go.Pen
set_option linter.unusedVariables false

theorem toBandS_eq (x0 : List Band) (h : x0.length ≤ 1099511627776) : laws_toBandS x0 = some x0 := by
  unfold laws_toBandS
  rw [mkL_len x0 (Band.mk 0 0) h]
  simp only [Option.bind_some]
  rw [copy_loop x0 (Band.mk 0 0) h]
  · rfl
  · intro k x l hx hk
    have hk0 := (List.getElem?_eq_some_iff.1 hx).1
    simp only [idx_nat, hx, laws_toBand, List.getElem?_eq_getElem hk, Option.bind_some, w64_nat (by omega : k < 9223372036854775807), show ((k : Int) < (x0.length : Int)) by omega, decide_true, cond_true, Int.toNat_natCast]
  · intro l
    simp

theorem eqBandS_refl (x0 : List Band) (h : x0.length ≤ 1099511627776) : laws_eqBandS x0 x0 = some true := by
  unfold laws_eqBandS
  simp only [bne_self_eq_false, cond_false]
  rw [eq_loop x0]
  · rfl
  · intro k x hx
    have hk0 := (List.getElem?_eq_some_iff.1 hx).1
    simp only [idx_nat, hx, laws_eqBand, Option.bind_some, w64_nat (by omega : k < 9223372036854775807), show ((k : Int) < (x0.length : Int)) by omega, decide_true, cond_true, bne_self_eq_false, cond_false, Bool.not_true]
  · simp

theorem BandOk_eq (b : Band) : impl_BandOk b = spec_BandOk b := rfl

theorem BandOk_val (b : Band) : spec_BandOk b = some (decide (0 ≤ b.Low ∧ b.Low ≤ b.High ∧ b.High ≤ 1000000000000000)) := by
  unfold spec_BandOk
  by_cases h1 : 0 ≤ b.Low <;> by_cases h2 : b.Low ≤ b.High <;> by_cases h3 : b.High ≤ 1000000000000000 <;> simp [h1, h2, h3]

theorem ReserveFor_some (p : Int) (b : Band) : ∃ v, impl_ReserveFor p b = some v ∧ spec_ReserveFor p b = some v := by
  unfold impl_ReserveFor spec_ReserveFor
  simp only [BandOk_eq, BandOk_val, within_eq, l01In_eq, Option.bind_some, joinP]
  by_cases h1 : 0 ≤ b.Low ∧ b.Low ≤ b.High ∧ b.High ≤ 1000000000000000
  · rw [decide_eq_true h1]
    simp only [Bool.not_true, cond_false]
    by_cases h2 : b.High > 1000000000000
    · simp [h2]
    · simp only [h2, decide_false, cond_false, Option.bind_some]
      cases h3 : inB p 0 1000000 with
      | false => simp
      | true =>
        rw [inB_true] at h3
        have m1 : 0 ≤ p * b.High := Int.mul_nonneg h3.1 (by omega)
        have m2 : p * b.High ≤ 1000000 * 1000000000000 := Int.mul_le_mul h3.2 (by omega) (by omega) (by omega)
        generalize p * b.High = z at m1 m2
        have w1 : w64 z = z := w64_id (by omega)
        simp only [Bool.not_true, Option.bind_some, cond_false, w1]
        have c1 : impl_ceilDiv z 1000000000 = some ((z + 999999999) / 1000000000) := by
          unfold impl_ceilDiv
          rw [nz_eq (by decide)]
          simp only [Option.bind_some]
          rw [w64_id (x := z + 1000000000) (by omega), w64_id (x := z + 1000000000 - 1) (by omega), tdiv_pos (by omega), show z + 1000000000 - 1 = z + 999999999 by omega, w64_id (by omega)]
        rw [c1]
        simp only [Option.bind_some]
        refine ⟨_, rfl, ?_⟩
        rw [tmod_pos m1, tdiv_pos m1]
        by_cases h4 : z % 1000000000 = 0
        · simp only [h4, bne_self_eq_false, cond_false]
          have e1 : (z + 999999999) / 1000000000 = z / 1000000000 := by omega
          rw [w64_id (by omega), e1]
        · have h5 : (z % 1000000000 != 0) = true := by simp [h4]
          simp only [h5, cond_true]
          have e1 : (z + 999999999) / 1000000000 = z / 1000000000 + 1 := by omega
          rw [w64_id (x := z / 1000000000) (by omega), w64_id (by omega), e1]
  · simp [h1]

theorem LiabilityOf_some (x : List Int) (y : List Band) : ∃ v, impl_LiabilityOf x y = some v ∧ spec_LiabilityOf x y = some v := by
  unfold impl_LiabilityOf spec_LiabilityOf
  have hR : spec_ReserveFor = impl_ReserveFor := by
    funext p b
    obtain ⟨v, h1, h2⟩ := ReserveFor_some p b
    rw [h1, h2]
  rw [hR]
  by_cases h1 : x.length = y.length
  · simp only [← h1, bne_self_eq_false, cond_false, Option.bind_some]
    by_cases h3 : (x.length : Int) > 100
    · simp [h3]
    · simp only [h3, decide_false, cond_false]
      obtain ⟨r, hr⟩ := loopW_ex (ρ := Int ⊕ (Int × Bool)) (body := fun (s30 : Int × Int) =>
        cond (decide (s30.1 < (x.length : Int)))
          ((idx x s30.1).bind fun x46 =>
          (idx y s30.1).bind fun x49 =>
          (impl_ReserveFor x46 x49).bind fun t52 =>
          cond (!t52.2)
            (some (.done (.inr (0, false))))
            (some (.cont (w64 (s30.1 + 1), w64 (s30.2 + t52.1)))))
          (some (.done (.inl s30.2)))) (fun k (t : Int) => ((k : Int), t)) x.length (fun k t hk => by
            have hx : x[k]? = some x[k] := List.getElem?_eq_getElem hk
            have hy : y[k]? = some (y[k]'(by omega)) := List.getElem?_eq_getElem (by omega)
            obtain ⟨v, h4, _⟩ := ReserveFor_some x[k] (y[k]'(by omega))
            simp only [idx_nat, hx, hy, h4, Option.bind_some, w64_nat (by omega : k < 9223372036854775807), show ((k : Int) < (x.length : Int)) by omega, decide_true, cond_true]
            cases v.2 with
            | true => exact .inl ⟨_, rfl⟩
            | false => exact .inr ⟨_, rfl⟩) (fun t => by simp) 0
      have e0 : ((0 : Nat) : Int) = 0 := rfl
      rw [e0] at hr
      rw [hr]
      simp only [Option.bind_some]
      cases r with
      | inl v => exact ⟨_, rfl, rfl⟩
      | inr v => exact ⟨_, rfl, rfl⟩
  · have h2 : ((x.length : Int) != (y.length : Int)) = true := by simp; omega
    simp [h2]

theorem LiabilityOf_law (x : List Int) (y : List Band) (_ : Wf.wf x) (wy : Wf.wf y) : laws_FnExactLiabilityOf x y = some true := by
  unfold laws_FnExactLiabilityOf laws_szBandS
  by_cases h1 : (x.length : Int) > 1048576
  · simp [h1]
  · simp only [h1, decide_false, cond_false]
    have hw : w64 (1048576 - (y.length : Int)) = 1048576 - (y.length : Int) := w64_id (by have := wy.1; omega)
    rw [hw]
    by_cases h2 : 1048576 - (y.length : Int) < 0
    · simp [h2]
    · simp only [h2, decide_false, cond_false, Option.bind_some]
      have hx : x.length ≤ 1099511627776 := by omega
      have hy : y.length ≤ 1099511627776 := by omega
      · obtain ⟨v, g1, g2⟩ := LiabilityOf_some x y
        simp [toIntS_eq x hx, toBandS_eq y hy, eqIntS_refl x hx, eqBandS_refl y hy, g1, g2, h2]

end Go.Pen
