/-
  The bounds of a number, in both texts.
-/
import Derived.Test.YtdmclmbdghcacaaF
import Derived.Test.YtdmclmbdghcacaaPenU
namespace Go.Pen

theorem l01In_eq (x a b : Int) : spec_l01In x a b = some (inB x a b) := by
  unfold spec_l01In inB
  by_cases h : a ≤ x <;> by_cases h2 : x ≤ b <;> simp [h, h2]

theorem within_eq (x a b : Int) : impl_within x a b = some (inB x a b) := by
  unfold impl_within inB
  by_cases h : a ≤ x <;> by_cases h2 : x ≤ b <;> simp [h, h2]

end Go.Pen
