/-
  What each Go function computes, as a plain function: written by a program of ours off the loaded program.
-/
import Derived.Test.YtgdhafgblfapiaaPenS
import Derived.Test.YtgdhafgblfapiaaPenJ
namespace Go.Pen
set_option linter.unusedVariables false
set_option linter.unusedSimpArgs false
set_option maxRecDepth 100000
set_option maxHeartbeats 4000000

noncomputable def laws_szPointS (x0 : List Point) (x1 : Int) : Option (Int) :=
  cond (decide ((w64 (x1 - (x0.length : Int))) < 0))
    (some (-1))
    (some (w64 (x1 - (x0.length : Int))))

noncomputable def laws_szSeries (x0 : Series) (x1 : Int) : Option (Int) :=
  (laws_szPointS x0.Points x1).bind fun t21 =>
  cond (decide (t21 < 0))
    (some (-1))
    (some t21)

noncomputable def laws_toPoint (x0 : Point) : Option (Point) :=
  some x0

noncomputable def laws_toPointS (x0 : List Point) : Option ((List Point)) :=
  (mkL (x0.length : Int) (Point.mk 0 0 0 : Point)).bind fun l22 =>
  (loopW (ρ := ((List Point)) ⊕ ((List Point))) (fun (s25 : Int × (List Point)) =>
    cond (decide (s25.1 < (x0.length : Int)))
      ((idx x0 s25.1).bind fun x41 =>
      (laws_toPoint x41).bind fun t44 =>
      (idx s25.2 s25.1).bind fun x48 =>
      (some (List.set s25.2 (Int.toNat s25.1) t44)).bind fun l51 =>
      some (.cont (w64 (s25.1 + 1), l51)))
      (some (.done (.inl s25.2))))
    (0, l22)).bind fun r28 => brkE r28 (fun (j35 : (List Point)) =>
    some j35)
    (some)

noncomputable def laws_toSeries (x0 : Series) : Option (Series) :=
  (laws_toPointS x0.Points).bind fun t21 =>
  some (Series.mk t21)

noncomputable def spec_SeriesAsOf (x0 : Series) (x1 : Int) : Option (Series) :=
  (loopW (ρ := ((List Point)) ⊕ (Series)) (fun (s21 : Int × (List Point)) =>
    cond (decide (s21.1 < (x0.Points.length : Int)))
      ((idx x0.Points s21.1).bind fun x37 =>
      joinP (fun (j50 : (List Point)) =>
        some (.cont (w64 (s21.1 + 1), j50)))
        (fun k52 =>
        cond (decide (x37.Known ≤ x1))
          ((idx x0.Points s21.1).bind fun x59 =>
          (appC s21.2 ([x59] : List Point)).bind fun l64 =>
          k52 l64)
          (k52 s21.2)))
      (some (.done (.inl s21.2))))
    (0, ([] : List Point))).bind fun r24 => brkE r24 (fun (j31 : (List Point)) =>
    some (Series.mk j31))
    (some)

noncomputable def slices_Clone_Point (x0 : List Point) : Option ((List Point)) :=
  (appC ([] : List Point) x0).bind fun l27 =>
  some l27

noncomputable def impl_SeriesAsOf_1 (x0 : Point) (zf_0 : Int) : Option (Bool) :=
  some (decide (x0.Known > zf_0))

noncomputable def slices_IndexFunc_Point__impl_SeriesAsOf_1 (x0 : List Point) (z1_0 : Int) : Option (Int) :=
  (loopW (ρ := (Unit) ⊕ (Int)) (fun (s21 : Int) =>
    cond (decide (s21 < (x0.length : Int)))
      ((idx x0 s21).bind fun x37 =>
      (impl_SeriesAsOf_1 x37 z1_0).bind fun t40 =>
      cond t40
        (some (.done (.inr s21)))
        (some (.cont (w64 (s21 + 1)))))
      (some (.done (.inl ()))))
    0).bind fun r24 => brkE r24 (fun (j31 : Unit) =>
    some (-1))
    (some)

noncomputable def slices_DeleteFunc_Point__impl_SeriesAsOf_1 (x0 : List Point) (z1_0 : Int) : Option ((List Point)) :=
  (slices_IndexFunc_Point__impl_SeriesAsOf_1 x0 z1_0).bind fun t21 =>
  cond (t21 == (-1))
    (some x0)
    ((loopW (ρ := (Int × (List Point)) ⊕ ((List Point))) (fun (s28 : Int × Int × (List Point)) =>
      cond (decide (s28.1 < (s28.2.2.length : Int)))
        ((idx s28.2.2 s28.1).bind fun x51 =>
        (impl_SeriesAsOf_1 x51 z1_0).bind fun t54 =>
        joinP (fun (j66 : Int × (List Point)) =>
          some (.cont (w64 (s28.1 + 1), j66.1, j66.2)))
          (fun k68 =>
          cond (!t54)
            ((idx s28.2.2 s28.2.1).bind fun x75 =>
            (some (List.set s28.2.2 (Int.toNat s28.2.1) x51)).bind fun l78 =>
            k68 (w64 (s28.2.1 + 1), l78))
            (k68 (s28.2.1, s28.2.2))))
        (some (.done (.inl (s28.2.1, s28.2.2)))))
      (w64 (t21 + 1), t21, x0)).bind fun r31 => brkE r31 (fun (j38 : Int × (List Point)) =>
      (zeroTail j38.2 j38.1 (Point.mk 0 0 0 : Point)).bind fun l40 =>
      (headL l40 j38.1).bind fun l44 =>
      some l44)
      (some))

noncomputable def impl_SeriesAsOf (x0 : Series) (x1 : Int) : Option (Series) :=
  (slices_Clone_Point x0.Points).bind fun t21 =>
  (slices_DeleteFunc_Point__impl_SeriesAsOf_1 t21 x1).bind fun t25 =>
  some (Series.mk t25)

noncomputable def laws_eqPoint (x0 : Point) (x1 : Point) : Option (Bool) :=
  cond (x0.Month != x1.Month)
    (some false)
    (cond (x0.Known != x1.Known)
      (some false)
      (cond (x0.Value != x1.Value)
        (some false)
        (some true)))

noncomputable def laws_eqPointS (x0 : List Point) (x1 : List Point) : Option (Bool) :=
  cond ((x0.length : Int) != (x1.length : Int))
    (some false)
    ((loopW (ρ := (Unit) ⊕ (Bool)) (fun (s24 : Int) =>
      cond (decide (s24 < (x0.length : Int)))
        ((idx x0 s24).bind fun x40 =>
        (idx x1 s24).bind fun x43 =>
        (laws_eqPoint x40 x43).bind fun t46 =>
        cond (!t46)
          (some (.done (.inr false)))
          (some (.cont (w64 (s24 + 1)))))
        (some (.done (.inl ()))))
      0).bind fun r27 => brkE r27 (fun (j34 : Unit) =>
      some true)
      (some))

noncomputable def laws_eqSeries (x0 : Series) (x1 : Series) : Option (Bool) :=
  (laws_eqPointS x0.Points x1.Points).bind fun t21 =>
  cond (!t21)
    (some false)
    (some true)

noncomputable def laws_markPointS (x0 : List Point) (x1 : Int) : Option (Int × (List Point)) :=
  (loopW (ρ := ((List Point) × Int) ⊕ (Int × (List Point))) (fun (s21 : Int × (List Point) × Int) =>
    cond (decide (s21.1 < (s21.2.1.length : Int)))
      ((idx s21.2.1 s21.1).bind fun x37 =>
      (some (List.set s21.2.1 (Int.toNat s21.1) (Point.mk s21.2.2 x37.Known x37.Value))).bind fun l40 =>
      (idx l40 s21.1).bind fun x44 =>
      (some (List.set l40 (Int.toNat s21.1) (Point.mk x44.Month (w64 (s21.2.2 + 1)) x44.Value))).bind fun l47 =>
      (idx l47 s21.1).bind fun x51 =>
      (some (List.set l47 (Int.toNat s21.1) (Point.mk x51.Month x51.Known (w64 ((w64 (s21.2.2 + 1)) + 1))))).bind fun l54 =>
      some (.cont (w64 (s21.1 + 1), l54, w64 ((w64 ((w64 (s21.2.2 + 1)) + 1)) + 1))))
      (some (.done (.inl (s21.2.1, s21.2.2)))))
    (0, x0, x1)).bind fun r24 => brkE r24 (fun (j31 : (List Point) × Int) =>
    some (j31.2, j31.1))
    (some)

noncomputable def laws_markSeries (x0 : Series) (x1 : Int) : Option (Int × (List Point)) :=
  (laws_markPointS x0.Points x1).bind fun t21 =>
  (sameLen t21.2 x0.Points).bind fun _ =>
  some (t21.1, t21.2)

noncomputable def laws_heldPointS (x0 : List Point) (x1 : Int) : Option (Int) :=
  (loopW (ρ := (Int) ⊕ (Int)) (fun (s21 : Int × Int) =>
    cond (decide (s21.1 < (x0.length : Int)))
      ((idx x0 s21.1).bind fun x37 =>
      cond (x37.Month != s21.2)
        (some (.done (.inr (-1))))
        ((idx x0 s21.1).bind fun x44 =>
        cond (x44.Known != (w64 (s21.2 + 1)))
          (some (.done (.inr (-1))))
          ((idx x0 s21.1).bind fun x51 =>
          cond (x51.Value != (w64 ((w64 (s21.2 + 1)) + 1)))
            (some (.done (.inr (-1))))
            (some (.cont (w64 (s21.1 + 1), w64 ((w64 ((w64 (s21.2 + 1)) + 1)) + 1)))))))
      (some (.done (.inl s21.2))))
    (0, x1)).bind fun r24 => brkE r24 (fun (j31 : Int) =>
    some j31)
    (some)

noncomputable def laws_heldSeries (x0 : Series) (x1 : Int) : Option (Int) :=
  (laws_heldPointS x0.Points x1).bind fun t21 =>
  cond (decide (t21 < 0))
    (some (-1))
    (some t21)

noncomputable def laws_FnExactSeriesAsOf (x0 : Series) (x1 : Int) : Option (Bool) :=
  (laws_szSeries x0 1048576).bind fun t21 =>
  cond (decide (t21 < 0))
    (some true)
    ((laws_toSeries x0).bind fun t28 =>
    (spec_SeriesAsOf t28 x1).bind fun t32 =>
    (laws_toSeries x0).bind fun t36 =>
    (impl_SeriesAsOf t36 x1).bind fun t40 =>
    (laws_eqSeries t40 t32).bind fun t44 =>
    cond (!t44)
      (some false)
      ((laws_toSeries x0).bind fun t51 =>
      (laws_eqSeries t36 t51).bind fun t55 =>
      cond (!t55)
        (some false)
        ((laws_markSeries t36 1).bind fun t63 =>
        (sameLen t63.2 t36.Points).bind fun _ =>
        Option.bind (α := Bool)
          (cond (decide (t63.1 < 0))
            (some true)
            ((laws_eqSeries t40 t32).bind fun t77 =>
            some (!t77)))
          fun p71 =>
        cond p71
          (some false)
          ((laws_markSeries t40 1).bind fun t84 =>
          (sameLen t84.2 t40.Points).bind fun _ =>
          (laws_heldSeries (Series.mk t84.2) 1).bind fun t92 =>
          cond (decide (t92 < 0))
            (some false)
            (cond (t92 != t84.1)
              (some false)
              ((laws_toSeries x0).bind fun t102 =>
              (impl_SeriesAsOf t102 x1).bind fun t106 =>
              (laws_eqSeries t106 t32).bind fun t110 =>
              cond (!t110)
                (some false)
                ((laws_heldSeries (Series.mk t84.2) 1).bind fun t117 =>
                cond (decide (t117 < 0))
                  (some false)
                  (cond (t117 != t84.1)
                    (some false)
                    (some true)))))))))
end Go.Pen
