/-
  Plain facts on numbers and options for the laws.
-/
import Derived.Test.YtmhjpbpdbdjiaaaDoorPenS
import Derived.IntWalk
namespace Go.Pen

theorem w64_id {x : Int} (h : -9223372036854775808 ≤ x ∧ x ≤ 9223372036854775807) : w64 x = x := IntWalk.i64_in x h
theorem w64_eq (x : Int) : w64 x = if x % 18446744073709551616 < 9223372036854775808 then x % 18446744073709551616 else x % 18446744073709551616 - 18446744073709551616 := by
  unfold w64; rw [IntKind.wrap_i64]; split <;> omega

theorem tdiv_pos {x y : Int} (h : 0 ≤ x) : Int.tdiv x y = x / y := Int.tdiv_eq_ediv_of_nonneg h
theorem tmod_pos {x y : Int} (h : 0 ≤ x) : Int.tmod x y = x % y := Int.tmod_eq_emod_of_nonneg h

/-- x lies within bounds. -/
def inB (x a b : Int) : Bool := decide (a ≤ x ∧ x ≤ b)

theorem inB_true {x a b : Int} : inB x a b = true ↔ a ≤ x ∧ x ≤ b := by simp [inB]
theorem inB_false {x a b : Int} : inB x a b = false ↔ x < a ∨ b < x := by
  simp only [inB, decide_eq_false_iff_not]; omega

theorem nz_eq {y : Int} (h : y ≠ 0) : nz y = some () := by simp [nz, h]

end Go.Pen
