/-
  Solvency and the adjustment's rate: the two texts compute the same.
-/
import Derived.Test.YtmnbmbfakpkmcaaL01
namespace Go.Pen

theorem AssetsNeeded_law (x y : Int) (_ : i64ok x) (_ : i64ok y) : laws_FnExactAssetsNeeded x y = some true := by
  simp only [laws_FnExactAssetsNeeded, spec_AssetsNeeded, impl_AssetsNeeded, l01In_eq, within_eq, Option.bind_some]
  cases h1 : inB x 0 1000000000000 with
  | false => simp
  | true =>
    cases h2 : inB y 0 2000 with
    | false => simp
    | true =>
      rw [inB_true] at h1 h2
      have m1 : 0 ≤ x * y := Int.mul_nonneg h1.1 h2.1
      have m2 : x * y ≤ 1000000000000 * 2000 := Int.mul_le_mul h1.2 h2.2 h2.1 (by omega)
      generalize x * y = z at m1 m2
      have e : w64 (w64 (z + 1000) - 1) = w64 (z + 999) := by rw [w64_id (x := z + 1000) (by omega)]; congr 1; omega
      simp [impl_ceilDiv, nz_eq, w64_id (x := z) (by omega), e]

theorem SolvencyOf_law (x : Int) (_ : i64ok x) : laws_FnExactSolvencyOf x = some true := by
  unfold laws_FnExactSolvencyOf
  have h : impl_SolvencyOf x = spec_SolvencyOf x := rfl
  rw [h]
  cases hs : spec_SolvencyOf x with
  | none =>
    unfold spec_SolvencyOf at hs
    by_cases h1 : x < 1000 <;> by_cases h2 : x < 1050 <;> simp [h1, h2] at hs
  | some v => simp

theorem AdjustRate_law (x y : Int) (_ : i64ok x) (_ : i64ok y) : laws_FnExactAdjustRate x y = some true := by
  simp only [laws_FnExactAdjustRate, spec_AdjustRate, impl_AdjustRate, l01In_eq, within_eq, Option.bind_some]
  cases h1 : inB x 0 10000 <;> cases h2 : inB y 0 1000 <;> cases h3 : decide (x < 1000) <;> cases h4 : decide (x ≥ 1100) <;> simp

theorem CoverageOf_law (x y : Int) (_ : i64ok x) (_ : i64ok y) : laws_FnExactCoverageOf x y = some true := by
  simp only [laws_FnExactCoverageOf, spec_CoverageOf, impl_CoverageOf, l01In_eq, within_eq, Option.bind_some]
  cases h1 : inB x 0 1000000000000 <;> cases h2 : inB y 0 1000000000000 <;> simp
  by_cases h3 : y = 0
  · simp [h3]
  · simp only [nz_eq h3, Option.bind_some, show (y == 0) = false by simpa using h3, cond_false]
    simp only [imin]
    generalize w64 ((w64 (x * 1000)).tdiv y) = z
    have : (if (10000 : Int) < z then (10000 : Int) else z) = if z < 10000 then z else 10000 := by split <;> split <;> omega
    simp [this]

end Go.Pen
