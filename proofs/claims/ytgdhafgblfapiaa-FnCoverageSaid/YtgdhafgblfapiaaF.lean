/-
  What each Go function computes, as a plain function: written by a program of ours off the loaded program.
-/
import Derived.Test.YtgdhafgblfapiaaPenS
import Derived.Test.YtgdhafgblfapiaaPenJ
namespace Go.Pen
set_option linter.unusedVariables false
set_option linter.unusedSimpArgs false
set_option maxRecDepth 100000
set_option maxHeartbeats 4000000

noncomputable def laws_big (x0 : List U8) : Option (Bool) :=
  some (decide ((x0.length : Int) > 1048576))

noncomputable def spec_l01New (x0 : List U8) : Option (Int × Int) :=
  (loopW (ρ := (Int) ⊕ (Int × Int)) (fun (s21 : Int × Int) =>
    Option.bind (α := Bool)
      (cond (decide (s21.1 < (x0.length : Int)))
        (some (decide (s21.1 < 4000)))
        (some false))
      fun p35 =>
    cond p35
      ((idx x0 s21.1).bind fun x44 =>
      some (.cont (w64 (s21.1 + 1), and64 (w64 ((w64 ((w64 (s21.2 * 131)) + (w64 x44.n))) + 7)) 1073741823)))
      (some (.done (.inl s21.2))))
    (0, w64 (98011 + (x0.length : Int)))).bind fun r24 => brkE r24 (fun (j31 : Int) =>
    some (0, j31))
    (some)

noncomputable def spec_l01Byte (xb0 : List U8) (xi0 : Int) (xh0 : Int) : Option (Int × Int × Int) :=
  joinP (fun (j25 : Int × Int) =>
    some (j25.1, j25.2, w64 ((w64 (xh0 * 6364136223846793005)) + 1442695040888963407)))
    (fun k27 =>
    cond (decide (xi0 < (xb0.length : Int)))
      ((idx xb0 xi0).bind fun x34 =>
      k27 (and64 (w64 ((and64 (xor64 (Int.fdiv (w64 ((w64 (xh0 * 6364136223846793005)) + 1442695040888963407)) 8589934592) (Int.fdiv (w64 ((w64 (xh0 * 6364136223846793005)) + 1442695040888963407)) 35184372088832)) 255) + (w64 x34.n))) 255, w64 (xi0 + 1)))
      (k27 (and64 (xor64 (Int.fdiv (w64 ((w64 (xh0 * 6364136223846793005)) + 1442695040888963407)) 8589934592) (Int.fdiv (w64 ((w64 (xh0 * 6364136223846793005)) + 1442695040888963407)) 35184372088832)) 255, xi0)))

noncomputable def spec_l01Below (xb0 : List U8) (xi0 : Int) (xh0 : Int) (x1 : Int) : Option (Int × Int × Int) :=
  cond (decide (x1 ≤ 0))
    (some (0, xi0, xh0))
    (cond (decide (x1 ≤ 256))
      ((spec_l01Byte xb0 xi0 xh0).bind fun t34 =>
      (nz x1).bind fun _ =>
      some (Int.tmod t34.1 x1, t34.2.1, t34.2.2))
      ((spec_l01Byte xb0 xi0 xh0).bind fun t41 =>
      (spec_l01Byte xb0 t41.2.1 t41.2.2).bind fun t45 =>
      (spec_l01Byte xb0 t45.2.1 t45.2.2).bind fun t49 =>
      (spec_l01Byte xb0 t49.2.1 t49.2.2).bind fun t53 =>
      (nz x1).bind fun _ =>
      some (Int.tmod (w64 ((w64 ((w64 ((w64 (t41.1 * 16777216)) + (w64 (t45.1 * 65536)))) + (w64 (t49.1 * 256)))) + t53.1)) x1, t53.2.1, t53.2.2)))

noncomputable def spec_DrawPlaces (x0 : List U8) : Option ((List Int)) :=
  (spec_l01New x0).bind fun t21 =>
  (loopW (ρ := ((List Int)) ⊕ ((List Int))) (fun (s27 : Int × (List Int) × Int × Int) =>
    cond (decide (s27.1 < 12))
      ((spec_l01Below x0 s27.2.2.1 s27.2.2.2 10000).bind fun t43 =>
      (appC s27.2.1 ([t43.1] : List Int)).bind fun l50 =>
      some (.cont (w64 (s27.1 + 1), l50, t43.2.1, t43.2.2)))
      (some (.done (.inl s27.2.1))))
    (0, ([] : List Int), t21.1, t21.2)).bind fun r30 => brkE r30 (fun (j37 : (List Int)) =>
    some j37)
    (some)

noncomputable def impl_within (x0 : Int) (x1 : Int) (x2 : Int) : Option (Bool) :=
  Option.bind (α := Bool)
    (cond (decide (x1 ≤ x0))
      (some (decide (x0 ≤ x2)))
      (some false))
    fun p21 =>
  some p21

noncomputable def impl_ceilDiv (x0 : Int) (x1 : Int) : Option (Int) :=
  (nz x1).bind fun _ =>
  some (w64 (Int.tdiv (w64 ((w64 (x0 + x1)) - 1)) x1))

noncomputable def impl_AssetsNeeded (x0 : Int) (x1 : Int) : Option (Int) :=
  Option.bind (α := Bool)
    ((impl_within x0 0 1000000000000).bind fun t24 =>
    cond (!t24)
      (some true)
      ((impl_within x1 0 2000).bind fun t31 =>
      some (!t31)))
    fun p21 =>
  cond p21
    (some 0)
    ((impl_ceilDiv (w64 (x0 * x1)) 1000).bind fun t38 =>
    some t38)

noncomputable def impl_CoverageOf (x0 : Int) (x1 : Int) : Option (Int) :=
  Option.bind (α := Bool)
    ((impl_within x0 0 1000000000000).bind fun t24 =>
    cond (!t24)
      (some true)
      ((impl_within x1 0 1000000000000).bind fun t31 =>
      some (!t31)))
    fun p21 =>
  cond p21
    (some 0)
    (cond (x1 == 0)
      (some 10000)
      ((nz x1).bind fun _ =>
      some (imin 10000 (w64 (Int.tdiv (w64 (x0 * 1000)) x1)))))

noncomputable def impl_SolvencyOf (x0 : Int) : Option (Int) :=
  cond (decide (x0 < 1000))
    (some 0)
    (cond (decide (x0 < 1050))
      (some 1)
      (some 2))

noncomputable def laws_FnCoverage (x0 : List U8) : Option (Bool) :=
  (laws_big x0).bind fun t21 =>
  cond t21
    (some true)
    ((spec_DrawPlaces x0).bind fun t28 =>
    (idx t28 0).bind fun x32 =>
    (idx t28 1).bind fun x35 =>
    (impl_AssetsNeeded (w64 (1 + (w64 (x32 * 7)))) (w64 (1 + (Int.tmod x35 1900)))).bind fun t38 =>
    (impl_CoverageOf t38 (w64 (1 + (w64 (x32 * 7))))).bind fun t42 =>
    (impl_CoverageOf (w64 (t38 - 1)) (w64 (1 + (w64 (x32 * 7))))).bind fun t46 =>
    Option.bind (α := Bool)
      (cond (decide (t42 ≥ (w64 (1 + (Int.tmod x35 1900)))))
        (cond (decide (t46 < (w64 (1 + (Int.tmod x35 1900)))))
          ((impl_SolvencyOf t42).bind fun t59 =>
          cond ((t59 == 2) == (decide (t42 ≥ 1050)))
            ((impl_SolvencyOf t46).bind fun t66 =>
            cond ((t66 == 0) == (decide (t46 < 1000)))
              ((impl_CoverageOf 5 0).bind fun t73 =>
              some (t73 == 10000))
              (some false))
            (some false))
          (some false))
        (some false))
      fun p50 =>
    some p50)
end Go.Pen
