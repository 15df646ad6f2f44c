/-
  What each Go function computes, as a plain function: written by a program of ours off the loaded program.
-/
import Derived.Test.YtlbmppekoblniaaPenS
import Derived.Test.YtlbmppekoblniaaPenJ
namespace Go.Pen
set_option linter.unusedVariables false
set_option linter.unusedSimpArgs false
set_option maxRecDepth 100000
set_option maxHeartbeats 4000000

noncomputable def laws_big (x0 : List U8) : Option (Bool) :=
  some (decide ((x0.length : Int) > 1048576))

noncomputable def spec_l01New (x0 : List U8) : Option (Int × Int) :=
  (loopW (ρ := (Int) ⊕ (Int × Int)) (fun (s21 : Int × Int) =>
    Option.bind (α := Bool)
      (cond (decide (s21.1 < (x0.length : Int)))
        (some (decide (s21.1 < 4000)))
        (some false))
      fun p35 =>
    cond p35
      ((idx x0 s21.1).bind fun x44 =>
      some (.cont (w64 (s21.1 + 1), and64 (w64 ((w64 ((w64 (s21.2 * 131)) + (w64 x44.n))) + 7)) 1073741823)))
      (some (.done (.inl s21.2))))
    (0, w64 (98011 + (x0.length : Int)))).bind fun r24 => brkE r24 (fun (j31 : Int) =>
    some (0, j31))
    (some)

noncomputable def spec_l01Byte (xb0 : List U8) (xi0 : Int) (xh0 : Int) : Option (Int × Int × Int) :=
  joinP (fun (j25 : Int × Int) =>
    some (j25.1, j25.2, w64 ((w64 (xh0 * 6364136223846793005)) + 1442695040888963407)))
    (fun k27 =>
    cond (decide (xi0 < (xb0.length : Int)))
      ((idx xb0 xi0).bind fun x34 =>
      k27 (and64 (w64 ((and64 (xor64 (Int.fdiv (w64 ((w64 (xh0 * 6364136223846793005)) + 1442695040888963407)) 8589934592) (Int.fdiv (w64 ((w64 (xh0 * 6364136223846793005)) + 1442695040888963407)) 35184372088832)) 255) + (w64 x34.n))) 255, w64 (xi0 + 1)))
      (k27 (and64 (xor64 (Int.fdiv (w64 ((w64 (xh0 * 6364136223846793005)) + 1442695040888963407)) 8589934592) (Int.fdiv (w64 ((w64 (xh0 * 6364136223846793005)) + 1442695040888963407)) 35184372088832)) 255, xi0)))

noncomputable def spec_l01Below (xb0 : List U8) (xi0 : Int) (xh0 : Int) (x1 : Int) : Option (Int × Int × Int) :=
  cond (decide (x1 ≤ 0))
    (some (0, xi0, xh0))
    (cond (decide (x1 ≤ 256))
      ((spec_l01Byte xb0 xi0 xh0).bind fun t34 =>
      (nz x1).bind fun _ =>
      some (Int.tmod t34.1 x1, t34.2.1, t34.2.2))
      ((spec_l01Byte xb0 xi0 xh0).bind fun t41 =>
      (spec_l01Byte xb0 t41.2.1 t41.2.2).bind fun t45 =>
      (spec_l01Byte xb0 t45.2.1 t45.2.2).bind fun t49 =>
      (spec_l01Byte xb0 t49.2.1 t49.2.2).bind fun t53 =>
      (nz x1).bind fun _ =>
      some (Int.tmod (w64 ((w64 ((w64 ((w64 (t41.1 * 16777216)) + (w64 (t45.1 * 65536)))) + (w64 (t49.1 * 256)))) + t53.1)) x1, t53.2.1, t53.2.2)))

noncomputable def spec_l31Pensions (xb0 : List U8) (xi0 : Int) (xh0 : Int) : Option ((List Int) × Int × Int) :=
  (loopW (ρ := ((List Int) × Int × Int) ⊕ ((List Int) × Int × Int)) (fun (s23 : Int × (List Int) × Int × Int) =>
    (spec_l01Below xb0 s23.2.2.1 s23.2.2.2 9).bind fun t36 =>
    cond (decide (s23.1 < t36.1))
      ((spec_l01Below xb0 t36.2.1 t36.2.2 4000).bind fun t43 =>
      (appC s23.2.1 ([w64 (t43.1 * 25)] : List Int)).bind fun l50 =>
      some (.cont (w64 (s23.1 + 1), l50, t43.2.1, t43.2.2)))
      (some (.done (.inl (s23.2.1, t36.2.1, t36.2.2)))))
    (0, ([] : List Int), xi0, xh0)).bind fun r26 => brkE r26 (fun (j33 : (List Int) × Int × Int) =>
    some (j33.1, j33.2.1, j33.2.2))
    (some)

noncomputable def spec_DrawPensions (x0 : List U8) : Option ((List Int)) :=
  (spec_l01New x0).bind fun t21 =>
  (spec_l31Pensions x0 t21.1 t21.2).bind fun t25 =>
  some t25.1

noncomputable def spec_DrawPlaces (x0 : List U8) : Option ((List Int)) :=
  (spec_l01New x0).bind fun t21 =>
  (loopW (ρ := ((List Int)) ⊕ ((List Int))) (fun (s27 : Int × (List Int) × Int × Int) =>
    cond (decide (s27.1 < 12))
      ((spec_l01Below x0 s27.2.2.1 s27.2.2.2 10000).bind fun t43 =>
      (appC s27.2.1 ([t43.1] : List Int)).bind fun l50 =>
      some (.cont (w64 (s27.1 + 1), l50, t43.2.1, t43.2.2)))
      (some (.done (.inl s27.2.1))))
    (0, ([] : List Int), t21.1, t21.2)).bind fun r30 => brkE r30 (fun (j37 : (List Int)) =>
    some j37)
    (some)

noncomputable def impl_within (x0 : Int) (x1 : Int) (x2 : Int) : Option (Bool) :=
  Option.bind (α := Bool)
    (cond (decide (x1 ≤ x0))
      (some (decide (x0 ≤ x2)))
      (some false))
    fun p21 =>
  some p21

noncomputable def impl_AdjustRate (x0 : Int) (x1 : Int) : Option (Int) :=
  Option.bind (α := Bool)
    ((impl_within x0 0 10000).bind fun t24 =>
    cond (!t24)
      (some true)
      ((impl_within x1 0 1000).bind fun t31 =>
      cond (!t31)
        (some true)
        (some (decide (x0 < 1000)))))
    fun p21 =>
  cond p21
    (some 0)
    (cond (decide (x0 ≥ 1100))
      (some x1)
      (some (w64 (Int.tdiv (w64 (x1 * (w64 (x0 - 1000)))) 100))))

noncomputable def impl_allWithin_1 (x0 : Int) (zf_0 : Int) (zf_1 : Int) : Option (Bool) :=
  (impl_within x0 zf_0 zf_1).bind fun t21 =>
  some (!t21)

noncomputable def slices_IndexFunc_int__impl_allWithin_1 (x0 : List Int) (z1_0 : Int) (z1_1 : Int) : Option (Int) :=
  (loopW (ρ := (Unit) ⊕ (Int)) (fun (s21 : Int) =>
    cond (decide (s21 < (x0.length : Int)))
      ((idx x0 s21).bind fun x37 =>
      (impl_allWithin_1 x37 z1_0 z1_1).bind fun t40 =>
      cond t40
        (some (.done (.inr s21)))
        (some (.cont (w64 (s21 + 1)))))
      (some (.done (.inl ()))))
    0).bind fun r24 => brkE r24 (fun (j31 : Unit) =>
    some (-1))
    (some)

noncomputable def slices_ContainsFunc_int__impl_allWithin_1 (x0 : List Int) (z1_0 : Int) (z1_1 : Int) : Option (Bool) :=
  (slices_IndexFunc_int__impl_allWithin_1 x0 z1_0 z1_1).bind fun t21 =>
  some (decide (t21 ≥ 0))

noncomputable def impl_allWithin (x0 : List Int) (x1 : Int) (x2 : Int) : Option (Bool) :=
  (slices_ContainsFunc_int__impl_allWithin_1 x0 x1 x2).bind fun t21 =>
  some (!t21)

noncomputable def impl_arePensions (x0 : List Int) : Option (Bool) :=
  Option.bind (α := Bool)
    (cond (decide ((x0.length : Int) ≤ 40))
      ((impl_allWithin x0 0 1000000).bind fun t27 =>
      some t27)
      (some false))
    fun p21 =>
  some p21

noncomputable def impl_RaiseAll (x0 : List Int) (x1 : Int) : Option ((List Int)) :=
  Option.bind (α := Bool)
    ((impl_arePensions x0).bind fun t24 =>
    cond (!t24)
      (some true)
      ((impl_within x1 0 1000).bind fun t31 =>
      some (!t31)))
    fun p21 =>
  cond p21
    (some ([] : List Int))
    ((loopW (ρ := ((List Int)) ⊕ ((List Int))) (fun (s40 : Int × (List Int)) =>
      cond (decide (s40.1 < (x0.length : Int)))
        ((idx x0 s40.1).bind fun x56 =>
        (appC s40.2 ([w64 (x56 + (w64 (Int.tdiv (w64 (x56 * x1)) 1000)))] : List Int)).bind fun l62 =>
        some (.cont (w64 (s40.1 + 1), l62)))
        (some (.done (.inl s40.2))))
      (0, ([] : List Int))).bind fun r43 => brkE r43 (fun (j50 : (List Int)) =>
      some j50)
      (some))

noncomputable def laws_sameInts (x0 : List Int) (x1 : List Int) : Option (Bool) :=
  cond ((x0.length : Int) != (x1.length : Int))
    (some false)
    ((loopW (ρ := (Unit) ⊕ (Bool)) (fun (s24 : Int) =>
      cond (decide (s24 < (x0.length : Int)))
        ((idx x0 s24).bind fun x40 =>
        (idx x1 s24).bind fun x43 =>
        cond (x40 != x43)
          (some (.done (.inr false)))
          (some (.cont (w64 (s24 + 1)))))
        (some (.done (.inl ()))))
      0).bind fun r27 => brkE r27 (fun (j34 : Unit) =>
      some true)
      (some))

noncomputable def slices_Clone_int (x0 : List Int) : Option ((List Int)) :=
  (appC ([] : List Int) x0).bind fun l27 =>
  some l27

noncomputable def impl_total (x0 : List Int) : Option (Int) :=
  (loopW (ρ := (Int) ⊕ (Int)) (fun (s21 : Int × Int) =>
    cond (decide (s21.1 < (x0.length : Int)))
      ((idx x0 s21.1).bind fun x37 =>
      some (.cont (w64 (s21.1 + 1), w64 (s21.2 + x37))))
      (some (.done (.inl s21.2))))
    (0, 0)).bind fun r24 => brkE r24 (fun (j31 : Int) =>
    some j31)
    (some)

noncomputable def cmp_isNaN_int (x0 : Int) : Option (Bool) :=
  some (x0 != x0)

noncomputable def cmp_Compare_int (x0 : Int) (x1 : Int) : Option (Int) :=
  (cmp_isNaN_int x0).bind fun t21 =>
  (cmp_isNaN_int x1).bind fun t25 =>
  cond t21
    (cond t25
      (some 0)
      (some (-1)))
    (cond t25
      (some 1)
      (cond (decide (x0 < x1))
        (some (-1))
        (cond (decide (x0 > x1))
          (some 1)
          (some 0))))

noncomputable def impl_Allocate_1 (x0 : Int) (x1 : Int) (zf_0 : Int) (zf_1 : List Int) (zf_2 : Int) : Option (Int) :=
  (idx zf_1 x1).bind fun x21 =>
  (nz zf_2).bind fun _ =>
  (idx zf_1 x0).bind fun x27 =>
  (nz zf_2).bind fun _ =>
  (cmp_Compare_int (Int.tmod (w64 (zf_0 * x21)) zf_2) (Int.tmod (w64 (zf_0 * x27)) zf_2)).bind fun t33 =>
  some t33

noncomputable def slices_insertionSortCmpFunc_int__impl_Allocate_1 (x0 : List Int) (x1 : Int) (x2 : Int) (z3_0 : Int) (z3_1 : List Int) (z3_2 : Int) : Option ((List Int)) :=
  (loopW (ρ := ((List Int)) ⊕ ((List Int))) (fun (s21 : Int × (List Int) × Int × Int) =>
    cond (decide (s21.1 < s21.2.2.2))
      ((loopW (ρ := (Int × (List Int) × Int × Int) ⊕ ((List Int))) (fun (s37 : Int × (List Int)) =>
        Option.bind (α := Bool)
          (cond (decide (s37.1 > s21.2.2.1))
            ((idx s37.2 s37.1).bind fun x56 =>
            (idx s37.2 (w64 (s37.1 - 1))).bind fun x59 =>
            (impl_Allocate_1 x56 x59 z3_0 z3_1 z3_2).bind fun t62 =>
            some (decide (t62 < 0)))
            (some false))
          fun p50 =>
        cond p50
          ((idx s37.2 (w64 (s37.1 - 1))).bind fun x69 =>
          (idx s37.2 s37.1).bind fun x72 =>
          (idx s37.2 s37.1).bind fun x75 =>
          (some (List.set s37.2 (Int.toNat s37.1) x69)).bind fun l78 =>
          (idx l78 (w64 (s37.1 - 1))).bind fun x82 =>
          (some (List.set l78 (Int.toNat (w64 (s37.1 - 1))) x72)).bind fun l85 =>
          some (.cont (w64 (s37.1 - 1), l85)))
          (some (.done (.inl (s21.1, s37.2, s21.2.2.1, s21.2.2.2)))))
        (s21.1, s21.2.1)).bind fun r40 => brkE r40 (fun (j47 : Int × (List Int) × Int × Int) =>
        some (.cont (w64 (j47.1 + 1), j47.2.1, j47.2.2.1, j47.2.2.2)))
        (fun v => some (.done (.inr v))))
      (some (.done (.inl s21.2.1))))
    (w64 (x1 + 1), x0, x1, x2)).bind fun r24 => brkE r24 (fun (j31 : (List Int)) =>
    some j31)
    (some)

noncomputable def slices_swapRangeCmpFunc_int__impl_Allocate_1 (x0 : List Int) (x1 : Int) (x2 : Int) (x3 : Int) (z4_0 : Int) (z4_1 : List Int) (z4_2 : Int) : Option ((List Int)) :=
  (loopW (ρ := ((List Int)) ⊕ ((List Int))) (fun (s21 : Int × (List Int)) =>
    cond (decide (s21.1 < x3))
      ((idx s21.2 (w64 (x2 + s21.1))).bind fun x37 =>
      (idx s21.2 (w64 (x1 + s21.1))).bind fun x40 =>
      (idx s21.2 (w64 (x1 + s21.1))).bind fun x43 =>
      (some (List.set s21.2 (Int.toNat (w64 (x1 + s21.1))) x37)).bind fun l46 =>
      (idx l46 (w64 (x2 + s21.1))).bind fun x50 =>
      (some (List.set l46 (Int.toNat (w64 (x2 + s21.1))) x40)).bind fun l53 =>
      some (.cont (w64 (s21.1 + 1), l53)))
      (some (.done (.inl s21.2))))
    (0, x0)).bind fun r24 => brkE r24 (fun (j31 : (List Int)) =>
    some j31)
    (some)

noncomputable def slices_rotateCmpFunc_int__impl_Allocate_1 (x0 : List Int) (x1 : Int) (x2 : Int) (x3 : Int) (z4_0 : Int) (z4_1 : List Int) (z4_2 : Int) : Option ((List Int)) :=
  (loopW (ρ := (Int × (List Int) × Int) ⊕ ((List Int))) (fun (s21 : Int × Int × (List Int)) =>
    cond (s21.2.1 != s21.1)
      (cond (decide (s21.2.1 > s21.1))
        ((slices_swapRangeCmpFunc_int__impl_Allocate_1 s21.2.2 (w64 (x2 - s21.2.1)) x2 s21.1 z4_0 z4_1 z4_2).bind fun t48 =>
        (sameLen t48 s21.2.2).bind fun _ =>
        some (.cont (s21.1, w64 (s21.2.1 - s21.1), t48)))
        ((slices_swapRangeCmpFunc_int__impl_Allocate_1 s21.2.2 (w64 (x2 - s21.2.1)) (w64 ((w64 (x2 + s21.1)) - s21.2.1)) s21.2.1 z4_0 z4_1 z4_2).bind fun t56 =>
        (sameLen t56 s21.2.2).bind fun _ =>
        some (.cont (w64 (s21.1 - s21.2.1), s21.2.1, t56))))
      (some (.done (.inl (s21.2.1, s21.2.2, x2)))))
    (w64 (x3 - x2), w64 (x2 - x1), x0)).bind fun r24 => brkE r24 (fun (j31 : Int × (List Int) × Int) =>
    (slices_swapRangeCmpFunc_int__impl_Allocate_1 j31.2.1 (w64 (j31.2.2 - j31.1)) j31.2.2 j31.1 z4_0 z4_1 z4_2).bind fun t33 =>
    (sameLen t33 j31.2.1).bind fun _ =>
    some t33)
    (some)

noncomputable def slices_symMergeCmpFunc_int__impl_Allocate_1_step (self : List Int → Int → Int → Int → Int → List Int → Int → Option ((List Int))) (x0 : List Int) (x1 : Int) (x2 : Int) (x3 : Int) (z4_0 : Int) (z4_1 : List Int) (z4_2 : Int) : Option ((List Int)) :=
  cond ((w64 (x2 - x1)) == 1)
    ((loopW (ρ := (Int) ⊕ ((List Int))) (fun (s92 : Int × Int) =>
      cond (decide (s92.2 < s92.1))
        ((idx x0 (w64 (Int.fdiv (wu64 (w64 (s92.2 + s92.1))) 2))).bind fun x146 =>
        (idx x0 x1).bind fun x149 =>
        (impl_Allocate_1 x146 x149 z4_0 z4_1 z4_2).bind fun t152 =>
        cond (decide (t152 < 0))
          (some (.cont (s92.1, w64 ((w64 (Int.fdiv (wu64 (w64 (s92.2 + s92.1))) 2)) + 1))))
          (some (.cont (w64 (Int.fdiv (wu64 (w64 (s92.2 + s92.1))) 2), s92.2))))
        (some (.done (.inl s92.2))))
      (x3, x2)).bind fun r95 => brkE r95 (fun (j102 : Int) =>
      (loopW (ρ := ((List Int)) ⊕ ((List Int))) (fun (s104 : Int × (List Int)) =>
        cond (decide (s104.1 < (w64 (j102 - 1))))
          ((idx s104.2 (w64 (s104.1 + 1))).bind fun x120 =>
          (idx s104.2 s104.1).bind fun x123 =>
          (idx s104.2 s104.1).bind fun x126 =>
          (some (List.set s104.2 (Int.toNat s104.1) x120)).bind fun l129 =>
          (idx l129 (w64 (s104.1 + 1))).bind fun x133 =>
          (some (List.set l129 (Int.toNat (w64 (s104.1 + 1))) x123)).bind fun l136 =>
          some (.cont (w64 (s104.1 + 1), l136)))
          (some (.done (.inl s104.2))))
        (x1, x0)).bind fun r107 => brkE r107 (fun (j114 : (List Int)) =>
        some j114)
        (some))
      (some))
    (cond ((w64 (x3 - x2)) == 1)
      ((loopW (ρ := (Int) ⊕ ((List Int))) (fun (s231 : Int × Int) =>
        cond (decide (s231.2 < s231.1))
          ((idx x0 x2).bind fun x285 =>
          (idx x0 (w64 (Int.fdiv (wu64 (w64 (s231.2 + s231.1))) 2))).bind fun x288 =>
          (impl_Allocate_1 x285 x288 z4_0 z4_1 z4_2).bind fun t291 =>
          cond (!(decide (t291 < 0)))
            (some (.cont (s231.1, w64 ((w64 (Int.fdiv (wu64 (w64 (s231.2 + s231.1))) 2)) + 1))))
            (some (.cont (w64 (Int.fdiv (wu64 (w64 (s231.2 + s231.1))) 2), s231.2))))
          (some (.done (.inl s231.2))))
        (x2, x1)).bind fun r234 => brkE r234 (fun (j241 : Int) =>
        (loopW (ρ := ((List Int)) ⊕ ((List Int))) (fun (s243 : Int × (List Int)) =>
          cond (decide (s243.1 > j241))
            ((idx s243.2 (w64 (s243.1 - 1))).bind fun x259 =>
            (idx s243.2 s243.1).bind fun x262 =>
            (idx s243.2 s243.1).bind fun x265 =>
            (some (List.set s243.2 (Int.toNat s243.1) x259)).bind fun l268 =>
            (idx l268 (w64 (s243.1 - 1))).bind fun x272 =>
            (some (List.set l268 (Int.toNat (w64 (s243.1 - 1))) x262)).bind fun l275 =>
            some (.cont (w64 (s243.1 - 1), l275)))
            (some (.done (.inl s243.2))))
          (x2, x0)).bind fun r246 => brkE r246 (fun (j253 : (List Int)) =>
          some j253)
          (some))
        (some))
      (joinP (fun (j300 : Int × Int) =>
        (loopW (ρ := (Int) ⊕ ((List Int))) (fun (s305 : Int × Int) =>
          cond (decide (s305.2 < s305.1))
            ((idx x0 (w64 ((w64 ((w64 ((w64 (Int.fdiv (wu64 (w64 (x1 + x3))) 2)) + x2)) - 1)) - (w64 (Int.fdiv (wu64 (w64 (s305.2 + s305.1))) 2))))).bind fun x402 =>
            (idx x0 (w64 (Int.fdiv (wu64 (w64 (s305.2 + s305.1))) 2))).bind fun x405 =>
            (impl_Allocate_1 x402 x405 z4_0 z4_1 z4_2).bind fun t408 =>
            cond (!(decide (t408 < 0)))
              (some (.cont (s305.1, w64 ((w64 (Int.fdiv (wu64 (w64 (s305.2 + s305.1))) 2)) + 1))))
              (some (.cont (w64 (Int.fdiv (wu64 (w64 (s305.2 + s305.1))) 2), s305.2))))
            (some (.done (.inl s305.2))))
          (j300.1, j300.2)).bind fun r308 => brkE r308 (fun (j315 : Int) =>
          Option.bind (α := Bool)
            (cond (decide (j315 < x2))
              (some (decide (x2 < (w64 ((w64 ((w64 (Int.fdiv (wu64 (w64 (x1 + x3))) 2)) + x2)) - j315)))))
              (some false))
            fun p317 =>
          joinP (fun (j332 : (List Int)) =>
            Option.bind (α := Bool)
              (cond (decide (x1 < j315))
                (some (decide (j315 < (w64 (Int.fdiv (wu64 (w64 (x1 + x3))) 2)))))
                (some false))
              fun p337 =>
            joinP (fun (j352 : (List Int)) =>
              Option.bind (α := Bool)
                (cond (decide ((w64 (Int.fdiv (wu64 (w64 (x1 + x3))) 2)) < (w64 ((w64 ((w64 (Int.fdiv (wu64 (w64 (x1 + x3))) 2)) + x2)) - j315))))
                  (some (decide ((w64 ((w64 ((w64 (Int.fdiv (wu64 (w64 (x1 + x3))) 2)) + x2)) - j315)) < x3)))
                  (some false))
                fun p357 =>
              cond p357
                ((self j352 (w64 (Int.fdiv (wu64 (w64 (x1 + x3))) 2)) (w64 ((w64 ((w64 (Int.fdiv (wu64 (w64 (x1 + x3))) 2)) + x2)) - j315)) x3 z4_0 z4_1 z4_2).bind fun t366 =>
                (sameLen t366 j352).bind fun _ =>
                some t366)
                (some j352))
              (fun k354 =>
              cond p337
                ((self j332 x1 j315 (w64 (Int.fdiv (wu64 (w64 (x1 + x3))) 2)) z4_0 z4_1 z4_2).bind fun t378 =>
                (sameLen t378 j332).bind fun _ =>
                k354 t378)
                (k354 j332)))
            (fun k334 =>
            cond p317
              ((slices_rotateCmpFunc_int__impl_Allocate_1 x0 j315 x2 (w64 ((w64 ((w64 (Int.fdiv (wu64 (w64 (x1 + x3))) 2)) + x2)) - j315)) z4_0 z4_1 z4_2).bind fun t390 =>
              (sameLen t390 x0).bind fun _ =>
              k334 t390)
              (k334 x0)))
          (some))
        (fun k302 =>
        cond (decide (x2 > (w64 (Int.fdiv (wu64 (w64 (x1 + x3))) 2))))
          (k302 (w64 (Int.fdiv (wu64 (w64 (x1 + x3))) 2), w64 ((w64 ((w64 (Int.fdiv (wu64 (w64 (x1 + x3))) 2)) + x2)) - x3)))
          (k302 (x2, x1)))))

noncomputable def slices_symMergeCmpFunc_int__impl_Allocate_1 : Nat → List Int → Int → Int → Int → Int → List Int → Int → Option ((List Int))
  | 0 => fun _ _ _ _ _ _ _ => none
  | fuel + 1 => slices_symMergeCmpFunc_int__impl_Allocate_1_step (slices_symMergeCmpFunc_int__impl_Allocate_1 fuel)

noncomputable def slices_stableCmpFunc_int__impl_Allocate_1 (x0 : List Int) (x1 : Int) (z2_0 : Int) (z2_1 : List Int) (z2_2 : Int) : Option ((List Int)) :=
  (loopW (ρ := (Int × Int × (List Int) × Int) ⊕ ((List Int))) (fun (s21 : Int × Int × (List Int)) =>
    cond (decide (s21.1 ≤ x1))
      ((slices_insertionSortCmpFunc_int__impl_Allocate_1 s21.2.2 s21.2.1 s21.1 z2_0 z2_1 z2_2).bind fun t113 =>
      (sameLen t113 s21.2.2).bind fun _ =>
      some (.cont (w64 (s21.1 + 20), s21.1, t113)))
      (some (.done (.inl (s21.2.1, 20, s21.2.2, x1)))))
    (20, 0, x0)).bind fun r24 => brkE r24 (fun (j31 : Int × Int × (List Int) × Int) =>
    (slices_insertionSortCmpFunc_int__impl_Allocate_1 j31.2.2.1 j31.1 j31.2.2.2 z2_0 z2_1 z2_2).bind fun t33 =>
    (sameLen t33 j31.2.2.1).bind fun _ =>
    (loopW (ρ := ((List Int)) ⊕ ((List Int))) (fun (s41 : Int × (List Int) × Int) =>
      cond (decide (s41.1 < s41.2.2))
        ((loopW (ρ := (Int × Int × (List Int) × Int) ⊕ ((List Int))) (fun (s57 : Int × Int × (List Int)) =>
          cond (decide (s57.1 ≤ s41.2.2))
            ((slices_symMergeCmpFunc_int__impl_Allocate_1 64 s57.2.2 s57.2.1 (w64 (s57.2.1 + s41.1)) s57.1 z2_0 z2_1 z2_2).bind fun t99 =>
            (sameLen t99 s57.2.2).bind fun _ =>
            some (.cont (w64 (s57.1 + (w64 (2 * s41.1))), s57.1, t99)))
            (some (.done (.inl (s57.2.1, s41.1, s57.2.2, s41.2.2)))))
          (w64 (2 * s41.1), 0, s41.2.1)).bind fun r60 => brkE r60 (fun (j67 : Int × Int × (List Int) × Int) =>
          joinP (fun (j78 : (List Int)) =>
            some (.cont (w64 (j67.2.1 * 2), j78, j67.2.2.2)))
            (fun k80 =>
            cond (decide ((w64 (j67.1 + j67.2.1)) < j67.2.2.2))
              ((slices_symMergeCmpFunc_int__impl_Allocate_1 64 j67.2.2.1 j67.1 (w64 (j67.1 + j67.2.1)) j67.2.2.2 z2_0 z2_1 z2_2).bind fun t87 =>
              (sameLen t87 j67.2.2.1).bind fun _ =>
              k80 t87)
              (k80 j67.2.2.1)))
          (fun v => some (.done (.inr v))))
        (some (.done (.inl s41.2.1))))
      (j31.2.1, t33, j31.2.2.2)).bind fun r44 => brkE r44 (fun (j51 : (List Int)) =>
      some j51)
      (some))
    (some)

noncomputable def slices_SortStableFunc_int__impl_Allocate_1 (x0 : List Int) (z1_0 : Int) (z1_1 : List Int) (z1_2 : Int) : Option ((List Int)) :=
  (slices_stableCmpFunc_int__impl_Allocate_1 x0 (x0.length : Int) z1_0 z1_1 z1_2).bind fun t21 =>
  (sameLen t21 x0).bind fun _ =>
  some t21

noncomputable def impl_Allocate (x0 : Int) (x1 : List Int) : Option ((List Int)) :=
  (loopW (ρ := (Int) ⊕ ((List Int))) (fun (s21 : Int × Int) =>
    cond (decide (s21.1 < (x1.length : Int)))
      ((idx x1 s21.1).bind fun x147 =>
      some (.cont (w64 (s21.1 + 1), w64 (s21.2 + x147))))
      (some (.done (.inl s21.2))))
    (0, 0)).bind fun r24 => brkE r24 (fun (j31 : Int) =>
    Option.bind (α := Bool)
      ((impl_within x0 0 1000000000).bind fun t36 =>
      cond (!t36)
        (some true)
        ((impl_within (x1.length : Int) 1 40).bind fun t43 =>
        cond (!t43)
          (some true)
          ((impl_allWithin x1 0 1000000).bind fun t50 =>
          cond (!t50)
            (some true)
            (some (j31 == 0)))))
      fun p33 =>
    cond p33
      (some ([] : List Int))
      ((loopW (ρ := (Int × (List Int) × (List Int)) ⊕ ((List Int))) (fun (s64 : Int × Int × (List Int) × (List Int)) =>
        cond (decide (s64.1 < (x1.length : Int)))
          ((idx x1 s64.1).bind fun x121 =>
          (nz j31).bind fun _ =>
          (appC s64.2.2.2 ([w64 (Int.tdiv (w64 (x0 * x121)) j31)] : List Int)).bind fun l130 =>
          (appC s64.2.2.1 ([s64.1] : List Int)).bind fun l136 =>
          (idx l130 s64.1).bind fun x139 =>
          some (.cont (w64 (s64.1 + 1), w64 (s64.2.1 - x139), l136, l130)))
          (some (.done (.inl (s64.2.1, s64.2.2.1, s64.2.2.2)))))
        (0, x0, ([] : List Int), ([] : List Int))).bind fun r67 => brkE r67 (fun (j74 : Int × (List Int) × (List Int)) =>
        (slices_SortStableFunc_int__impl_Allocate_1 j74.2.1 x0 x1 j31).bind fun t76 =>
        (sameLen t76 j74.2.1).bind fun _ =>
        (headL t76 j74.1).bind fun l84 =>
        (loopW (ρ := ((List Int)) ⊕ ((List Int))) (fun (s87 : Int × (List Int)) =>
          cond (decide (s87.1 < (l84.length : Int)))
            ((idx l84 s87.1).bind fun x103 =>
            (idx s87.2 x103).bind fun x106 =>
            (idx s87.2 x103).bind fun x109 =>
            (some (List.set s87.2 (Int.toNat x103) (w64 (x106 + 1)))).bind fun l112 =>
            some (.cont (w64 (s87.1 + 1), l112)))
            (some (.done (.inl s87.2))))
          (0, j74.2.2)).bind fun r90 => brkE r90 (fun (j97 : (List Int)) =>
          some j97)
          (some))
        (some)))
    (some)

noncomputable def impl_CutAll (x0 : List Int) (x1 : Int) : Option ((List Int)) :=
  Option.bind (α := Bool)
    ((impl_arePensions x0).bind fun t24 =>
    cond (!t24)
      (some true)
      ((impl_within x1 0 1000).bind fun t31 =>
      some (!t31)))
    fun p21 =>
  cond p21
    (some ([] : List Int))
    ((slices_Clone_int x0).bind fun t38 =>
    (impl_total x0).bind fun t42 =>
    (impl_Allocate (w64 (Int.tdiv (w64 (t42 * x1)) 1000)) x0).bind fun t46 =>
    (loopW (ρ := ((List Int)) ⊕ ((List Int))) (fun (s50 : Int × (List Int)) =>
      cond (decide (s50.1 < (t46.length : Int)))
        ((idx t46 s50.1).bind fun x66 =>
        (idx s50.2 s50.1).bind fun x69 =>
        (idx s50.2 s50.1).bind fun x72 =>
        (some (List.set s50.2 (Int.toNat s50.1) (w64 (x69 - x66)))).bind fun l75 =>
        some (.cont (w64 (s50.1 + 1), l75)))
        (some (.done (.inl s50.2))))
      (0, t38)).bind fun r53 => brkE r53 (fun (j60 : (List Int)) =>
      some j60)
      (some))

noncomputable def laws_FnIndexed (x0 : List U8) : Option (Bool) :=
  (laws_big x0).bind fun t21 =>
  cond t21
    (some true)
    ((spec_DrawPensions x0).bind fun t28 =>
    (spec_DrawPlaces x0).bind fun t32 =>
    (idx t32 0).bind fun x36 =>
    (idx t32 1).bind fun x39 =>
    Option.bind (α := Bool)
      ((impl_AdjustRate (w64 (2 * (Int.tmod x36 1200))) (Int.tmod x39 200)).bind fun t45 =>
      (impl_AdjustRate (Int.tmod x36 1200) (Int.tmod x39 200)).bind fun t49 =>
      cond (decide (t45 ≥ t49))
        ((impl_RaiseAll t28 0).bind fun t56 =>
        (laws_sameInts t56 t28).bind fun t60 =>
        cond t60
          ((impl_CutAll t28 0).bind fun t67 =>
          (laws_sameInts t67 t28).bind fun t71 =>
          cond t71
            ((impl_AdjustRate 1100 (Int.tmod x39 200)).bind fun t78 =>
            cond (t78 == (Int.tmod x39 200))
              ((impl_AdjustRate 999 (Int.tmod x39 200)).bind fun t85 =>
              some (t85 == 0))
              (some false))
            (some false))
          (some false))
        (some false))
      fun p42 =>
    some p42)
end Go.Pen
