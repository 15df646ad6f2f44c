/-
  What each Go function computes, as a plain function: written by a program of ours off the loaded program.
-/
import Derived.Test.YtgdhafgblfapiaaPenS
import Derived.Test.YtgdhafgblfapiaaPenJ
namespace Go.Pen
set_option linter.unusedVariables false
set_option linter.unusedSimpArgs false
set_option maxRecDepth 100000
set_option maxHeartbeats 4000000

noncomputable def laws_big (x0 : List U8) : Option (Bool) :=
  some (decide ((x0.length : Int) > 1048576))

noncomputable def spec_l01New (x0 : List U8) : Option (Int × Int) :=
  (loopW (ρ := (Int) ⊕ (Int × Int)) (fun (s21 : Int × Int) =>
    Option.bind (α := Bool)
      (cond (decide (s21.1 < (x0.length : Int)))
        (some (decide (s21.1 < 4000)))
        (some false))
      fun p35 =>
    cond p35
      ((idx x0 s21.1).bind fun x44 =>
      some (.cont (w64 (s21.1 + 1), and64 (w64 ((w64 ((w64 (s21.2 * 131)) + (w64 x44.n))) + 7)) 1073741823)))
      (some (.done (.inl s21.2))))
    (0, w64 (98011 + (x0.length : Int)))).bind fun r24 => brkE r24 (fun (j31 : Int) =>
    some (0, j31))
    (some)

noncomputable def spec_l01Byte (xb0 : List U8) (xi0 : Int) (xh0 : Int) : Option (Int × Int × Int) :=
  joinP (fun (j25 : Int × Int) =>
    some (j25.1, j25.2, w64 ((w64 (xh0 * 6364136223846793005)) + 1442695040888963407)))
    (fun k27 =>
    cond (decide (xi0 < (xb0.length : Int)))
      ((idx xb0 xi0).bind fun x34 =>
      k27 (and64 (w64 ((and64 (xor64 (Int.fdiv (w64 ((w64 (xh0 * 6364136223846793005)) + 1442695040888963407)) 8589934592) (Int.fdiv (w64 ((w64 (xh0 * 6364136223846793005)) + 1442695040888963407)) 35184372088832)) 255) + (w64 x34.n))) 255, w64 (xi0 + 1)))
      (k27 (and64 (xor64 (Int.fdiv (w64 ((w64 (xh0 * 6364136223846793005)) + 1442695040888963407)) 8589934592) (Int.fdiv (w64 ((w64 (xh0 * 6364136223846793005)) + 1442695040888963407)) 35184372088832)) 255, xi0)))

noncomputable def spec_l01Below (xb0 : List U8) (xi0 : Int) (xh0 : Int) (x1 : Int) : Option (Int × Int × Int) :=
  cond (decide (x1 ≤ 0))
    (some (0, xi0, xh0))
    (cond (decide (x1 ≤ 256))
      ((spec_l01Byte xb0 xi0 xh0).bind fun t34 =>
      (nz x1).bind fun _ =>
      some (Int.tmod t34.1 x1, t34.2.1, t34.2.2))
      ((spec_l01Byte xb0 xi0 xh0).bind fun t41 =>
      (spec_l01Byte xb0 t41.2.1 t41.2.2).bind fun t45 =>
      (spec_l01Byte xb0 t45.2.1 t45.2.2).bind fun t49 =>
      (spec_l01Byte xb0 t49.2.1 t49.2.2).bind fun t53 =>
      (nz x1).bind fun _ =>
      some (Int.tmod (w64 ((w64 ((w64 ((w64 (t41.1 * 16777216)) + (w64 (t45.1 * 65536)))) + (w64 (t49.1 * 256)))) + t53.1)) x1, t53.2.1, t53.2.2)))

noncomputable def spec_l31Pensions (xb0 : List U8) (xi0 : Int) (xh0 : Int) : Option ((List Int) × Int × Int) :=
  (loopW (ρ := ((List Int) × Int × Int) ⊕ ((List Int) × Int × Int)) (fun (s23 : Int × (List Int) × Int × Int) =>
    (spec_l01Below xb0 s23.2.2.1 s23.2.2.2 9).bind fun t36 =>
    cond (decide (s23.1 < t36.1))
      ((spec_l01Below xb0 t36.2.1 t36.2.2 4000).bind fun t43 =>
      (appC s23.2.1 ([w64 (t43.1 * 25)] : List Int)).bind fun l50 =>
      some (.cont (w64 (s23.1 + 1), l50, t43.2.1, t43.2.2)))
      (some (.done (.inl (s23.2.1, t36.2.1, t36.2.2)))))
    (0, ([] : List Int), xi0, xh0)).bind fun r26 => brkE r26 (fun (j33 : (List Int) × Int × Int) =>
    some (j33.1, j33.2.1, j33.2.2))
    (some)

noncomputable def spec_DrawPensions (x0 : List U8) : Option ((List Int)) :=
  (spec_l01New x0).bind fun t21 =>
  (spec_l31Pensions x0 t21.1 t21.2).bind fun t25 =>
  some t25.1

noncomputable def spec_DrawPlaces (x0 : List U8) : Option ((List Int)) :=
  (spec_l01New x0).bind fun t21 =>
  (loopW (ρ := ((List Int)) ⊕ ((List Int))) (fun (s27 : Int × (List Int) × Int × Int) =>
    cond (decide (s27.1 < 12))
      ((spec_l01Below x0 s27.2.2.1 s27.2.2.2 10000).bind fun t43 =>
      (appC s27.2.1 ([t43.1] : List Int)).bind fun l50 =>
      some (.cont (w64 (s27.1 + 1), l50, t43.2.1, t43.2.2)))
      (some (.done (.inl s27.2.1))))
    (0, ([] : List Int), t21.1, t21.2)).bind fun r30 => brkE r30 (fun (j37 : (List Int)) =>
    some j37)
    (some)

noncomputable def impl_within (x0 : Int) (x1 : Int) (x2 : Int) : Option (Bool) :=
  Option.bind (α := Bool)
    (cond (decide (x1 ≤ x0))
      (some (decide (x0 ≤ x2)))
      (some false))
    fun p21 =>
  some p21

noncomputable def impl_AdjustRate (x0 : Int) (x1 : Int) : Option (Int) :=
  Option.bind (α := Bool)
    ((impl_within x0 0 10000).bind fun t24 =>
    cond (!t24)
      (some true)
      ((impl_within x1 0 1000).bind fun t31 =>
      cond (!t31)
        (some true)
        (some (decide (x0 < 1000)))))
    fun p21 =>
  cond p21
    (some 0)
    (cond (decide (x0 ≥ 1100))
      (some x1)
      (some (w64 (Int.tdiv (w64 (x1 * (w64 (x0 - 1000)))) 100))))

noncomputable def impl_allWithin_1 (x0 : Int) (zf_0 : Int) (zf_1 : Int) : Option (Bool) :=
  (impl_within x0 zf_0 zf_1).bind fun t21 =>
  some (!t21)

noncomputable def slices_IndexFunc_int__impl_allWithin_1 (x0 : List Int) (z1_0 : Int) (z1_1 : Int) : Option (Int) :=
  (loopW (ρ := (Unit) ⊕ (Int)) (fun (s21 : Int) =>
    cond (decide (s21 < (x0.length : Int)))
      ((idx x0 s21).bind fun x37 =>
      (impl_allWithin_1 x37 z1_0 z1_1).bind fun t40 =>
      cond t40
        (some (.done (.inr s21)))
        (some (.cont (w64 (s21 + 1)))))
      (some (.done (.inl ()))))
    0).bind fun r24 => brkE r24 (fun (j31 : Unit) =>
    some (-1))
    (some)

noncomputable def slices_ContainsFunc_int__impl_allWithin_1 (x0 : List Int) (z1_0 : Int) (z1_1 : Int) : Option (Bool) :=
  (slices_IndexFunc_int__impl_allWithin_1 x0 z1_0 z1_1).bind fun t21 =>
  some (decide (t21 ≥ 0))

noncomputable def impl_allWithin (x0 : List Int) (x1 : Int) (x2 : Int) : Option (Bool) :=
  (slices_ContainsFunc_int__impl_allWithin_1 x0 x1 x2).bind fun t21 =>
  some (!t21)

noncomputable def impl_arePensions (x0 : List Int) : Option (Bool) :=
  Option.bind (α := Bool)
    (cond (decide ((x0.length : Int) ≤ 40))
      ((impl_allWithin x0 0 1000000).bind fun t27 =>
      some t27)
      (some false))
    fun p21 =>
  some p21

noncomputable def impl_RaiseAll (x0 : List Int) (x1 : Int) : Option ((List Int)) :=
  Option.bind (α := Bool)
    ((impl_arePensions x0).bind fun t24 =>
    cond (!t24)
      (some true)
      ((impl_within x1 0 1000).bind fun t31 =>
      some (!t31)))
    fun p21 =>
  cond p21
    (some ([] : List Int))
    ((loopW (ρ := ((List Int)) ⊕ ((List Int))) (fun (s40 : Int × (List Int)) =>
      cond (decide (s40.1 < (x0.length : Int)))
        ((idx x0 s40.1).bind fun x56 =>
        (appC s40.2 ([w64 (x56 + (w64 (Int.tdiv (w64 (x56 * x1)) 1000)))] : List Int)).bind fun l62 =>
        some (.cont (w64 (s40.1 + 1), l62)))
        (some (.done (.inl s40.2))))
      (0, ([] : List Int))).bind fun r43 => brkE r43 (fun (j50 : (List Int)) =>
      some j50)
      (some))

noncomputable def laws_FnRaised (x0 : List U8) : Option (Bool) :=
  (laws_big x0).bind fun t21 =>
  cond t21
    (some true)
    ((spec_DrawPensions x0).bind fun t28 =>
    (spec_DrawPlaces x0).bind fun t32 =>
    (idx t32 0).bind fun x36 =>
    (idx t32 1).bind fun x39 =>
    (impl_AdjustRate (w64 (900 + (Int.tmod x39 300))) (Int.tmod x36 100)).bind fun t42 =>
    (impl_RaiseAll t28 t42).bind fun t46 =>
    cond ((t46.length : Int) != (t28.length : Int))
      (some false)
      ((loopW (ρ := (Int × Int × Int) ⊕ (Bool)) (fun (s53 : Int) =>
        cond (decide (s53 < (t28.length : Int)))
          ((idx t46 s53).bind fun x88 =>
          (idx t28 s53).bind fun x91 =>
          (idx t28 s53).bind fun x94 =>
          Option.bind (α := Bool)
            (cond (decide ((w64 ((w64 ((w64 (x88 - x91)) * 1000)) - (w64 (x94 * t42)))) > 0))
              (some true)
              (some (decide ((w64 ((w64 ((w64 (x88 - x91)) * 1000)) - (w64 (x94 * t42)))) ≤ (-1000)))))
            fun p97 =>
          cond p97
            (some (.done (.inr false)))
            (some (.cont (w64 (s53 + 1)))))
          (some (.done (.inl (t42, w64 (900 + (Int.tmod x39 300)), Int.tmod x36 100)))))
        0).bind fun r56 => brkE r56 (fun (j63 : Int × Int × Int) =>
        Option.bind (α := Bool)
          (cond (decide (j63.1 ≥ 0))
            (cond (decide (j63.1 ≤ j63.2.2))
              ((impl_AdjustRate (w64 (j63.2.1 + 1)) j63.2.2).bind fun t74 =>
              cond (decide (t74 ≥ j63.1))
                (cond (decide (j63.2.1 < 1100))
                  (some true)
                  (some (j63.1 == j63.2.2)))
                (some false))
              (some false))
            (some false))
          fun p65 =>
        some p65)
        (some)))
end Go.Pen
