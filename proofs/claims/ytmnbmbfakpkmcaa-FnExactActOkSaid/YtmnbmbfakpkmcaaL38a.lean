/-
  An act's validity: the two texts compute the same.
-/
import Derived.Test.YtmnbmbfakpkmcaaL01
namespace Go.Pen

theorem ActOk_law (a : Act) (_ : Wf.wf a) : laws_FnExactActOk a = some true := by
  have h1 : laws_toAct a = some a := rfl
  unfold laws_FnExactActOk
  rw [h1]
  simp only [Option.bind_some, spec_ActOk, impl_ActOk, spec_l38Plain, joinP, l01In_eq, within_eq]
  obtain ⟨k, ⟨f1, f2, f3, f4, f5⟩, ⟨p1, p2, p3⟩, n⟩ := a
  simp only [beq_self_eq_true, Bool.true_and, Bool.and_true]
  by_cases hk1 : k = 1
  · subst hk1
    simp only [beq_self_eq_true, cond_true, Option.bind_some, Bool.true_and]
    generalize ((p1 == 0) && ((p2 == 0) && (p3 == 0))) = A
    simp only [bne]
    generalize (n == 0) = B
    generalize (f4 == 0) = C
    generalize (p2 == 0) = D
    cases A <;> cases B <;> cases C <;> cases D <;> rfl
  · have e1 : (k == 1) = false := by simpa using hk1
    by_cases hk2 : k = 2
    · subst hk2
      simp only [e1, beq_self_eq_true, cond_true, cond_false, Option.bind_some, Bool.true_and]
      generalize ((f1 == 0) && ((f2 == 0) && ((f3 == 0) && ((f4 == 0) && (f5 == 0))))) = A
      simp only [bne]
      generalize (n == 0) = B
      generalize (f4 == 0) = C
      generalize (p2 == 0) = D
      cases A <;> cases B <;> cases C <;> cases D <;> rfl
    · have e2 : (k == 2) = false := by simpa using hk2
      by_cases hk3 : k = 3
      · subst hk3
        simp only [e1, e2, beq_self_eq_true, cond_true, cond_false, Option.bind_some, Bool.true_and]
        generalize inB n 1 24 = I
        generalize ((p1 == 0) && ((p2 == 0) && (p3 == 0))) = A
        generalize ((f1 == 0) && ((f2 == 0) && ((f3 == 0) && ((f4 == 0) && (f5 == 0))))) = B
        simp only [bne]
        generalize (f4 == 0) = C
        generalize (p2 == 0) = D
        cases I <;> cases A <;> cases B <;> cases C <;> cases D <;> rfl
      · have e3 : (k == 3) = false := by simpa using hk3
        simp only [e1, e2, e3, cond_false, Option.bind_some, beq_self_eq_true, Bool.true_and]
        generalize ((p1 == 0) && ((p2 == 0) && (p3 == 0))) = A
        generalize ((f1 == 0) && ((f2 == 0) && ((f3 == 0) && ((f4 == 0) && (f5 == 0))))) = B
        simp only [bne]
        generalize (n == 0) = N
        generalize (f4 == 0) = C
        generalize (p2 == 0) = D
        cases A <;> cases B <;> cases N <;> cases C <;> cases D <;> rfl

end Go.Pen
