/-
  What each Go function computes, as a plain function: written by a program of ours off the loaded program.
-/
import Derived.Test.YtgdhafgblfapiaaPenS
import Derived.Test.YtgdhafgblfapiaaPenJ
namespace Go.Pen
set_option linter.unusedVariables false
set_option linter.unusedSimpArgs false
set_option maxRecDepth 100000
set_option maxHeartbeats 4000000

noncomputable def laws_big (x0 : List U8) : Option (Bool) :=
  some (decide ((x0.length : Int) > 1048576))

noncomputable def spec_l01New (x0 : List U8) : Option (Int × Int) :=
  (loopW (ρ := (Int) ⊕ (Int × Int)) (fun (s21 : Int × Int) =>
    Option.bind (α := Bool)
      (cond (decide (s21.1 < (x0.length : Int)))
        (some (decide (s21.1 < 4000)))
        (some false))
      fun p35 =>
    cond p35
      ((idx x0 s21.1).bind fun x44 =>
      some (.cont (w64 (s21.1 + 1), and64 (w64 ((w64 ((w64 (s21.2 * 131)) + (w64 x44.n))) + 7)) 1073741823)))
      (some (.done (.inl s21.2))))
    (0, w64 (98011 + (x0.length : Int)))).bind fun r24 => brkE r24 (fun (j31 : Int) =>
    some (0, j31))
    (some)

noncomputable def spec_l01Byte (xb0 : List U8) (xi0 : Int) (xh0 : Int) : Option (Int × Int × Int) :=
  joinP (fun (j25 : Int × Int) =>
    some (j25.1, j25.2, w64 ((w64 (xh0 * 6364136223846793005)) + 1442695040888963407)))
    (fun k27 =>
    cond (decide (xi0 < (xb0.length : Int)))
      ((idx xb0 xi0).bind fun x34 =>
      k27 (and64 (w64 ((and64 (xor64 (Int.fdiv (w64 ((w64 (xh0 * 6364136223846793005)) + 1442695040888963407)) 8589934592) (Int.fdiv (w64 ((w64 (xh0 * 6364136223846793005)) + 1442695040888963407)) 35184372088832)) 255) + (w64 x34.n))) 255, w64 (xi0 + 1)))
      (k27 (and64 (xor64 (Int.fdiv (w64 ((w64 (xh0 * 6364136223846793005)) + 1442695040888963407)) 8589934592) (Int.fdiv (w64 ((w64 (xh0 * 6364136223846793005)) + 1442695040888963407)) 35184372088832)) 255, xi0)))

noncomputable def spec_l01Below (xb0 : List U8) (xi0 : Int) (xh0 : Int) (x1 : Int) : Option (Int × Int × Int) :=
  cond (decide (x1 ≤ 0))
    (some (0, xi0, xh0))
    (cond (decide (x1 ≤ 256))
      ((spec_l01Byte xb0 xi0 xh0).bind fun t34 =>
      (nz x1).bind fun _ =>
      some (Int.tmod t34.1 x1, t34.2.1, t34.2.2))
      ((spec_l01Byte xb0 xi0 xh0).bind fun t41 =>
      (spec_l01Byte xb0 t41.2.1 t41.2.2).bind fun t45 =>
      (spec_l01Byte xb0 t45.2.1 t45.2.2).bind fun t49 =>
      (spec_l01Byte xb0 t49.2.1 t49.2.2).bind fun t53 =>
      (nz x1).bind fun _ =>
      some (Int.tmod (w64 ((w64 ((w64 ((w64 (t41.1 * 16777216)) + (w64 (t45.1 * 65536)))) + (w64 (t49.1 * 256)))) + t53.1)) x1, t53.2.1, t53.2.2)))

noncomputable def spec_DrawPlaces (x0 : List U8) : Option ((List Int)) :=
  (spec_l01New x0).bind fun t21 =>
  (loopW (ρ := ((List Int)) ⊕ ((List Int))) (fun (s27 : Int × (List Int) × Int × Int) =>
    cond (decide (s27.1 < 12))
      ((spec_l01Below x0 s27.2.2.1 s27.2.2.2 10000).bind fun t43 =>
      (appC s27.2.1 ([t43.1] : List Int)).bind fun l50 =>
      some (.cont (w64 (s27.1 + 1), l50, t43.2.1, t43.2.2)))
      (some (.done (.inl s27.2.1))))
    (0, ([] : List Int), t21.1, t21.2)).bind fun r30 => brkE r30 (fun (j37 : (List Int)) =>
    some j37)
    (some)

noncomputable def spec_l01In (x0 : Int) (x1 : Int) (x2 : Int) : Option (Bool) :=
  Option.bind (α := Bool)
    (cond (decide (x0 ≥ x1))
      (some (decide (x0 ≤ x2)))
      (some false))
    fun p21 =>
  some p21

noncomputable def spec_BandOf (x0 : Int) (x1 : Int) : Option (Band × Bool) :=
  Option.bind (α := Bool)
    ((spec_l01In x0 0 1000000).bind fun t24 =>
    cond (!t24)
      (some true)
      ((spec_l01In x1 1 1000000).bind fun t31 =>
      some (!t31)))
    fun p21 =>
  cond p21
    (some (Band.mk 0 0, false))
    ((nz x1).bind fun _ =>
    (nz x1).bind fun _ =>
    some (Band.mk (w64 (Int.tdiv (w64 (x0 * 1000000000)) x1)) (w64 (Int.tdiv (w64 ((w64 ((w64 (x0 * 1000000000)) + x1)) - 1)) x1)), true))

noncomputable def spec_BandOk (x0 : Band) : Option (Bool) :=
  Option.bind (α := Bool)
    (cond (decide (x0.Low ≥ 0))
      (cond (decide (x0.Low ≤ x0.High))
        (some (decide (x0.High ≤ 1000000000000000)))
        (some false))
      (some false))
    fun p21 =>
  some p21

noncomputable def spec_ReserveFor (x0 : Int) (x1 : Band) : Option (Int × Bool) :=
  Option.bind (α := Bool)
    ((spec_BandOk x1).bind fun t24 =>
    cond (!t24)
      (some true)
      (cond (decide (x1.High > 1000000000000))
        (some true)
        ((spec_l01In x0 0 1000000).bind fun t34 =>
        some (!t34))))
    fun p21 =>
  cond p21
    (some (0, false))
    (joinP (fun (j42 : Int) =>
      some (j42, true))
      (fun k44 =>
      cond ((Int.tmod (w64 (x0 * x1.High)) 1000000000) != 0)
        (k44 (w64 ((w64 (Int.tdiv (w64 (x0 * x1.High)) 1000000000)) + 1)))
        (k44 (w64 (Int.tdiv (w64 (x0 * x1.High)) 1000000000)))))

noncomputable def impl_BandOk (x0 : Band) : Option (Bool) :=
  Option.bind (α := Bool)
    (cond (decide (0 ≤ x0.Low))
      (cond (decide (x0.Low ≤ x0.High))
        (some (decide (x0.High ≤ 1000000000000000)))
        (some false))
      (some false))
    fun p21 =>
  some p21

noncomputable def impl_within (x0 : Int) (x1 : Int) (x2 : Int) : Option (Bool) :=
  Option.bind (α := Bool)
    (cond (decide (x1 ≤ x0))
      (some (decide (x0 ≤ x2)))
      (some false))
    fun p21 =>
  some p21

noncomputable def impl_ceilDiv (x0 : Int) (x1 : Int) : Option (Int) :=
  (nz x1).bind fun _ =>
  some (w64 (Int.tdiv (w64 ((w64 (x0 + x1)) - 1)) x1))

noncomputable def impl_ReserveFor (x0 : Int) (x1 : Band) : Option (Int × Bool) :=
  Option.bind (α := Bool)
    ((impl_BandOk x1).bind fun t24 =>
    cond (!t24)
      (some true)
      (cond (decide (x1.High > 1000000000000))
        (some true)
        ((impl_within x0 0 1000000).bind fun t34 =>
        some (!t34))))
    fun p21 =>
  cond p21
    (some (0, false))
    ((impl_ceilDiv (w64 (x0 * x1.High)) 1000000000).bind fun t41 =>
    some (t41, true))

noncomputable def impl_LiabilityOf (x0 : List Int) (x1 : List Band) : Option (Int × Bool) :=
  Option.bind (α := Bool)
    (cond ((x0.length : Int) != (x1.length : Int))
      (some true)
      (some (decide ((x0.length : Int) > 100))))
    fun p21 =>
  cond p21
    (some (0, false))
    ((loopW (ρ := (Int) ⊕ (Int × Bool)) (fun (s30 : Int × Int) =>
      cond (decide (s30.1 < (x0.length : Int)))
        ((idx x0 s30.1).bind fun x46 =>
        (idx x1 s30.1).bind fun x49 =>
        (impl_ReserveFor x46 x49).bind fun t52 =>
        cond (!t52.2)
          (some (.done (.inr (0, false))))
          (some (.cont (w64 (s30.1 + 1), w64 (s30.2 + t52.1)))))
        (some (.done (.inl s30.2))))
      (0, 0)).bind fun r33 => brkE r33 (fun (j40 : Int) =>
      some (j40, true))
      (some))

noncomputable def laws_FnLiabilities (x0 : List U8) : Option (Bool) :=
  (laws_big x0).bind fun t21 =>
  cond t21
    (some true)
    ((spec_DrawPlaces x0).bind fun t28 =>
    (idx t28 0).bind fun x32 =>
    (loopW (ρ := (Int × (List Band) × (List Int)) ⊕ (Bool)) (fun (s39 : Int × Int × (List Band) × (List Int)) =>
      cond (decide (s39.1 < (Int.tmod x32 6)))
        ((idx t28 (w64 (1 + s39.1))).bind fun x78 =>
        (idx t28 (w64 (2 + s39.1))).bind fun x81 =>
        (spec_BandOf (w64 (1 + (Int.tmod x78 300))) (w64 (1 + (Int.tmod x81 20)))).bind fun t84 =>
        (idx t28 (w64 (3 + s39.1))).bind fun x89 =>
        (spec_ReserveFor x89 t84.1).bind fun t92 =>
        (idx t28 (w64 (3 + s39.1))).bind fun x96 =>
        (appC s39.2.2.2 ([x96] : List Int)).bind fun l102 =>
        (appC s39.2.2.1 ([t84.1] : List Band)).bind fun l108 =>
        some (.cont (w64 (s39.1 + 1), w64 (s39.2.1 + t92.1), l108, l102)))
        (some (.done (.inl (s39.2.1, s39.2.2.1, s39.2.2.2)))))
      (0, 0, ([] : List Band), ([] : List Int))).bind fun r42 => brkE r42 (fun (j49 : Int × (List Band) × (List Int)) =>
      (impl_LiabilityOf j49.2.2 j49.2.1).bind fun t51 =>
      (appC j49.2.2 ([1] : List Int)).bind fun l58 =>
      (impl_LiabilityOf l58 j49.2.1).bind fun t61 =>
      Option.bind (α := Bool)
        (cond t51.2
          (cond (t51.1 == j49.1)
            (some (!t61.2))
            (some false))
          (some false))
        fun p65 =>
      some p65)
      (some))
end Go.Pen
