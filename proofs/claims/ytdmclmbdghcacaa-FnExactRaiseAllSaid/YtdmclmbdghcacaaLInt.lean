/-
  The laws' own helpers on lists of whole numbers.
-/
import Derived.Test.YtdmclmbdghcacaaL01
import Derived.Test.YtdmclmbdghcacaaPenV
namespace Go.Pen
set_option linter.unusedVariables false

theorem toIntS_eq (x0 : List Int) (h : x0.length ≤ 1099511627776) : laws_toIntS x0 = some x0 := by
  unfold laws_toIntS
  rw [mkL_len x0 (0 : Int) h]
  simp only [Option.bind_some]
  rw [copy_loop x0 (0 : Int) h]
  · rfl
  · intro k x l hx hk
    have hk0 := (List.getElem?_eq_some_iff.1 hx).1
    simp only [idx_nat, hx, List.getElem?_eq_getElem hk, Option.bind_some, w64_nat (by omega : k < 9223372036854775807), show ((k : Int) < (x0.length : Int)) by omega, decide_true, cond_true, Int.toNat_natCast]
  · intro l
    simp

theorem eqIntS_refl (x0 : List Int) (h : x0.length ≤ 1099511627776) : laws_eqIntS x0 x0 = some true := by
  unfold laws_eqIntS
  simp only [bne_self_eq_false, cond_false]
  rw [eq_loop x0]
  · rfl
  · intro k x hx
    have hk0 := (List.getElem?_eq_some_iff.1 hx).1
    simp only [idx_nat, hx, Option.bind_some, w64_nat (by omega : k < 9223372036854775807), show ((k : Int) < (x0.length : Int)) by omega, decide_true, cond_true, bne_self_eq_false, cond_false]
  · simp

end Go.Pen
