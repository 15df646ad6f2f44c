/-
  What each Go function computes, as a plain function: written by a program of ours off the loaded program.
-/
import Derived.Test.YtdmclmbdghcacaaPenS
import Derived.Test.YtdmclmbdghcacaaPenI
namespace Go.Pen
set_option linter.unusedVariables false
set_option maxRecDepth 100000
set_option maxHeartbeats 1000000

noncomputable def laws_toIntS (x0 : List Int) : Option ((List Int)) :=
  (mkL (x0.length : Int) (0 : Int)).bind fun l22 =>
  (loopW (ρ := ((List Int)) ⊕ ((List Int))) (fun (s25 : Int × (List Int)) =>
    cond (decide (s25.1 < (x0.length : Int)))
      ((idx x0 s25.1).bind fun x41 =>
      (idx s25.2 s25.1).bind fun x44 =>
      (some (List.set s25.2 (Int.toNat s25.1) x41)).bind fun l47 =>
      some (.cont (w64 (s25.1 + 1), l47)))
      (some (.done (.inl s25.2))))
    (0, l22)).bind fun r28 => brkE r28 (fun (j35 : (List Int)) =>
    some j35)
    (some)

noncomputable def spec_l01In (x0 : Int) (x1 : Int) (x2 : Int) : Option (Bool) :=
  Option.bind (α := Bool)
    (cond (decide (x0 ≥ x1))
      (some (decide (x0 ≤ x2)))
      (some false))
    fun p21 =>
  some p21

noncomputable def spec_l31Ask (x0 : List Int) (x1 : Int) : Option (Bool) :=
  (loopW (ρ := (Int) ⊕ (Bool)) (fun (s21 : Int) =>
    cond (decide (s21 < (x0.length : Int)))
      ((idx x0 s21).bind fun x47 =>
      (spec_l01In x47 0 1000000).bind fun t50 =>
      cond (!t50)
        (some (.done (.inr false)))
        (some (.cont (w64 (s21 + 1)))))
      (some (.done (.inl x1))))
    0).bind fun r24 => brkE r24 (fun (j31 : Int) =>
    Option.bind (α := Bool)
      (cond (decide ((x0.length : Int) ≤ 40))
        ((spec_l01In j31 0 1000).bind fun t39 =>
        some t39)
        (some false))
      fun p33 =>
    some p33)
    (some)

noncomputable def spec_RaiseAll (x0 : List Int) (x1 : Int) : Option ((List Int)) :=
  (loopW (ρ := ((List Int)) ⊕ ((List Int))) (fun (s23 : Int × (List Int)) =>
    Option.bind (α := Bool)
      (cond (decide (s23.1 < (x0.length : Int)))
        ((spec_l31Ask x0 x1).bind fun t42 =>
        some t42)
        (some false))
      fun p36 =>
    cond p36
      ((idx x0 s23.1).bind fun x49 =>
      (idx x0 s23.1).bind fun x52 =>
      (appC s23.2 ([w64 (x49 + (w64 (Int.tdiv (w64 (x52 * x1)) 1000)))] : List Int)).bind fun l57 =>
      some (.cont (w64 (s23.1 + 1), l57)))
      (some (.done (.inl s23.2))))
    (0, ([] : List Int))).bind fun r26 => brkE r26 (fun (j33 : (List Int)) =>
    some j33)
    (some)

noncomputable def impl_within (x0 : Int) (x1 : Int) (x2 : Int) : Option (Bool) :=
  Option.bind (α := Bool)
    (cond (decide (x1 ≤ x0))
      (some (decide (x0 ≤ x2)))
      (some false))
    fun p21 =>
  some p21

noncomputable def impl_allWithin_1 (x0 : Int) (zf_0 : Int) (zf_1 : Int) : Option (Bool) :=
  (impl_within x0 zf_0 zf_1).bind fun t21 =>
  some (!t21)

noncomputable def slices_IndexFunc_int__impl_allWithin_1 (x0 : List Int) (z1_0 : Int) (z1_1 : Int) : Option (Int) :=
  (loopW (ρ := (Unit) ⊕ (Int)) (fun (s21 : Int) =>
    cond (decide (s21 < (x0.length : Int)))
      ((idx x0 s21).bind fun x37 =>
      (impl_allWithin_1 x37 z1_0 z1_1).bind fun t40 =>
      cond t40
        (some (.done (.inr s21)))
        (some (.cont (w64 (s21 + 1)))))
      (some (.done (.inl ()))))
    0).bind fun r24 => brkE r24 (fun (j31 : Unit) =>
    some (-1))
    (some)

noncomputable def slices_ContainsFunc_int__impl_allWithin_1 (x0 : List Int) (z1_0 : Int) (z1_1 : Int) : Option (Bool) :=
  (slices_IndexFunc_int__impl_allWithin_1 x0 z1_0 z1_1).bind fun t21 =>
  some (decide (t21 ≥ 0))

noncomputable def impl_allWithin (x0 : List Int) (x1 : Int) (x2 : Int) : Option (Bool) :=
  (slices_ContainsFunc_int__impl_allWithin_1 x0 x1 x2).bind fun t21 =>
  some (!t21)

noncomputable def impl_arePensions (x0 : List Int) : Option (Bool) :=
  Option.bind (α := Bool)
    (cond (decide ((x0.length : Int) ≤ 40))
      ((impl_allWithin x0 0 1000000).bind fun t27 =>
      some t27)
      (some false))
    fun p21 =>
  some p21

noncomputable def impl_RaiseAll (x0 : List Int) (x1 : Int) : Option ((List Int)) :=
  Option.bind (α := Bool)
    ((impl_arePensions x0).bind fun t24 =>
    cond (!t24)
      (some true)
      ((impl_within x1 0 1000).bind fun t31 =>
      some (!t31)))
    fun p21 =>
  cond p21
    (some ([] : List Int))
    ((loopW (ρ := ((List Int)) ⊕ ((List Int))) (fun (s40 : Int × (List Int)) =>
      cond (decide (s40.1 < (x0.length : Int)))
        ((idx x0 s40.1).bind fun x56 =>
        (appC s40.2 ([w64 (x56 + (w64 (Int.tdiv (w64 (x56 * x1)) 1000)))] : List Int)).bind fun l62 =>
        some (.cont (w64 (s40.1 + 1), l62)))
        (some (.done (.inl s40.2))))
      (0, ([] : List Int))).bind fun r43 => brkE r43 (fun (j50 : (List Int)) =>
      some j50)
      (some))

noncomputable def laws_eqIntS (x0 : List Int) (x1 : List Int) : Option (Bool) :=
  cond ((x0.length : Int) != (x1.length : Int))
    (some false)
    ((loopW (ρ := (Unit) ⊕ (Bool)) (fun (s24 : Int) =>
      cond (decide (s24 < (x0.length : Int)))
        ((idx x0 s24).bind fun x40 =>
        (idx x1 s24).bind fun x43 =>
        cond (x40 != x43)
          (some (.done (.inr false)))
          (some (.cont (w64 (s24 + 1)))))
        (some (.done (.inl ()))))
      0).bind fun r27 => brkE r27 (fun (j34 : Unit) =>
      some true)
      (some))

noncomputable def laws_markIntS (x0 : List Int) (x1 : Int) : Option (Int × (List Int)) :=
  (loopW (ρ := ((List Int) × Int) ⊕ (Int × (List Int))) (fun (s21 : Int × (List Int) × Int) =>
    cond (decide (s21.1 < (s21.2.1.length : Int)))
      ((idx s21.2.1 s21.1).bind fun x37 =>
      (some (List.set s21.2.1 (Int.toNat s21.1) s21.2.2)).bind fun l40 =>
      some (.cont (w64 (s21.1 + 1), l40, w64 (s21.2.2 + 1))))
      (some (.done (.inl (s21.2.1, s21.2.2)))))
    (0, x0, x1)).bind fun r24 => brkE r24 (fun (j31 : (List Int) × Int) =>
    some (j31.2, j31.1))
    (some)

noncomputable def laws_heldIntS (x0 : List Int) (x1 : Int) : Option (Int) :=
  (loopW (ρ := (Int) ⊕ (Int)) (fun (s21 : Int × Int) =>
    cond (decide (s21.1 < (x0.length : Int)))
      ((idx x0 s21.1).bind fun x37 =>
      cond (x37 != s21.2)
        (some (.done (.inr (-1))))
        (some (.cont (w64 (s21.1 + 1), w64 (s21.2 + 1)))))
      (some (.done (.inl s21.2))))
    (0, x1)).bind fun r24 => brkE r24 (fun (j31 : Int) =>
    some j31)
    (some)

noncomputable def laws_FnExactRaiseAll (x0 : List Int) (x1 : Int) : Option (Bool) :=
  cond (decide ((x0.length : Int) > 1048576))
    (some true)
    ((laws_toIntS x0).bind fun t24 =>
    (spec_RaiseAll t24 x1).bind fun t28 =>
    (laws_toIntS x0).bind fun t32 =>
    (impl_RaiseAll t32 x1).bind fun t36 =>
    (laws_eqIntS t36 t28).bind fun t40 =>
    cond (!t40)
      (some false)
      ((laws_toIntS x0).bind fun t47 =>
      (laws_eqIntS t32 t47).bind fun t51 =>
      cond (!t51)
        (some false)
        ((laws_markIntS t32 1).bind fun t58 =>
        (sameLen t58.2 t32).bind fun _ =>
        Option.bind (α := Bool)
          (cond (decide (t58.1 < 0))
            (some true)
            ((laws_eqIntS t36 t28).bind fun t72 =>
            some (!t72)))
          fun p66 =>
        cond p66
          (some false)
          ((laws_markIntS t36 1).bind fun t79 =>
          (sameLen t79.2 t36).bind fun _ =>
          (laws_heldIntS t79.2 1).bind fun t87 =>
          cond (decide (t87 < 0))
            (some false)
            (cond (t87 != t79.1)
              (some false)
              ((laws_toIntS x0).bind fun t97 =>
              (impl_RaiseAll t97 x1).bind fun t101 =>
              (laws_eqIntS t101 t28).bind fun t105 =>
              cond (!t105)
                (some false)
                ((laws_heldIntS t79.2 1).bind fun t112 =>
                cond (decide (t112 < 0))
                  (some false)
                  (cond (t112 != t79.1)
                    (some false)
                    (some true)))))))))

noncomputable def laws_szBandS (x0 : List Band) (x1 : Int) : Option (Int) :=
  cond (decide ((w64 (x1 - (x0.length : Int))) < 0))
    (some (-1))
    (some (w64 (x1 - (x0.length : Int))))

noncomputable def laws_toBand (x0 : Band) : Option (Band) :=
  some x0

noncomputable def laws_toBandS (x0 : List Band) : Option ((List Band)) :=
  (mkL (x0.length : Int) (Band.mk 0 0 : Band)).bind fun l22 =>
  (loopW (ρ := ((List Band)) ⊕ ((List Band))) (fun (s25 : Int × (List Band)) =>
    cond (decide (s25.1 < (x0.length : Int)))
      ((idx x0 s25.1).bind fun x41 =>
      (laws_toBand x41).bind fun t44 =>
      (idx s25.2 s25.1).bind fun x48 =>
      (some (List.set s25.2 (Int.toNat s25.1) t44)).bind fun l51 =>
      some (.cont (w64 (s25.1 + 1), l51)))
      (some (.done (.inl s25.2))))
    (0, l22)).bind fun r28 => brkE r28 (fun (j35 : (List Band)) =>
    some j35)
    (some)

noncomputable def spec_BandOk (x0 : Band) : Option (Bool) :=
  Option.bind (α := Bool)
    (cond (decide (x0.Low ≥ 0))
      (cond (decide (x0.Low ≤ x0.High))
        (some (decide (x0.High ≤ 1000000000000000)))
        (some false))
      (some false))
    fun p21 =>
  some p21

noncomputable def spec_ReserveFor (x0 : Int) (x1 : Band) : Option (Int × Bool) :=
  Option.bind (α := Bool)
    ((spec_BandOk x1).bind fun t24 =>
    cond (!t24)
      (some true)
      (cond (decide (x1.High > 1000000000000))
        (some true)
        ((spec_l01In x0 0 1000000).bind fun t34 =>
        some (!t34))))
    fun p21 =>
  cond p21
    (some (0, false))
    (joinP (fun (j42 : Int) =>
      some (j42, true))
      (fun k44 =>
      cond ((Int.tmod (w64 (x0 * x1.High)) 1000000000) != 0)
        (k44 (w64 ((w64 (Int.tdiv (w64 (x0 * x1.High)) 1000000000)) + 1)))
        (k44 (w64 (Int.tdiv (w64 (x0 * x1.High)) 1000000000)))))

noncomputable def spec_LiabilityOf (x0 : List Int) (x1 : List Band) : Option (Int × Bool) :=
  Option.bind (α := Bool)
    (cond ((x0.length : Int) != (x1.length : Int))
      (some true)
      (some (decide ((x1.length : Int) > 100))))
    fun p21 =>
  cond p21
    (some (0, false))
    ((loopW (ρ := (Int) ⊕ (Int × Bool)) (fun (s30 : Int × Int) =>
      cond (decide (s30.1 < (x1.length : Int)))
        ((idx x0 s30.1).bind fun x46 =>
        (idx x1 s30.1).bind fun x49 =>
        (spec_ReserveFor x46 x49).bind fun t52 =>
        cond (!t52.2)
          (some (.done (.inr (0, false))))
          (some (.cont (w64 (s30.1 + 1), w64 (s30.2 + t52.1)))))
        (some (.done (.inl s30.2))))
      (0, 0)).bind fun r33 => brkE r33 (fun (j40 : Int) =>
      some (j40, true))
      (some))

noncomputable def impl_BandOk (x0 : Band) : Option (Bool) :=
  Option.bind (α := Bool)
    (cond (decide (0 ≤ x0.Low))
      (cond (decide (x0.Low ≤ x0.High))
        (some (decide (x0.High ≤ 1000000000000000)))
        (some false))
      (some false))
    fun p21 =>
  some p21

noncomputable def impl_ceilDiv (x0 : Int) (x1 : Int) : Option (Int) :=
  (nz x1).bind fun _ =>
  some (w64 (Int.tdiv (w64 ((w64 (x0 + x1)) - 1)) x1))

noncomputable def impl_ReserveFor (x0 : Int) (x1 : Band) : Option (Int × Bool) :=
  Option.bind (α := Bool)
    ((impl_BandOk x1).bind fun t24 =>
    cond (!t24)
      (some true)
      (cond (decide (x1.High > 1000000000000))
        (some true)
        ((impl_within x0 0 1000000).bind fun t34 =>
        some (!t34))))
    fun p21 =>
  cond p21
    (some (0, false))
    ((impl_ceilDiv (w64 (x0 * x1.High)) 1000000000).bind fun t41 =>
    some (t41, true))

noncomputable def impl_LiabilityOf (x0 : List Int) (x1 : List Band) : Option (Int × Bool) :=
  Option.bind (α := Bool)
    (cond ((x0.length : Int) != (x1.length : Int))
      (some true)
      (some (decide ((x0.length : Int) > 100))))
    fun p21 =>
  cond p21
    (some (0, false))
    ((loopW (ρ := (Int) ⊕ (Int × Bool)) (fun (s30 : Int × Int) =>
      cond (decide (s30.1 < (x0.length : Int)))
        ((idx x0 s30.1).bind fun x46 =>
        (idx x1 s30.1).bind fun x49 =>
        (impl_ReserveFor x46 x49).bind fun t52 =>
        cond (!t52.2)
          (some (.done (.inr (0, false))))
          (some (.cont (w64 (s30.1 + 1), w64 (s30.2 + t52.1)))))
        (some (.done (.inl s30.2))))
      (0, 0)).bind fun r33 => brkE r33 (fun (j40 : Int) =>
      some (j40, true))
      (some))

noncomputable def laws_eqBand (x0 : Band) (x1 : Band) : Option (Bool) :=
  cond (x0.Low != x1.Low)
    (some false)
    (cond (x0.High != x1.High)
      (some false)
      (some true))

noncomputable def laws_eqBandS (x0 : List Band) (x1 : List Band) : Option (Bool) :=
  cond ((x0.length : Int) != (x1.length : Int))
    (some false)
    ((loopW (ρ := (Unit) ⊕ (Bool)) (fun (s24 : Int) =>
      cond (decide (s24 < (x0.length : Int)))
        ((idx x0 s24).bind fun x40 =>
        (idx x1 s24).bind fun x43 =>
        (laws_eqBand x40 x43).bind fun t46 =>
        cond (!t46)
          (some (.done (.inr false)))
          (some (.cont (w64 (s24 + 1)))))
        (some (.done (.inl ()))))
      0).bind fun r27 => brkE r27 (fun (j34 : Unit) =>
      some true)
      (some))

noncomputable def laws_FnExactLiabilityOf (x0 : List Int) (x1 : List Band) : Option (Bool) :=
  cond (decide ((x0.length : Int) > 1048576))
    (some true)
    ((laws_szBandS x1 1048576).bind fun t24 =>
    cond (decide (t24 < 0))
      (some true)
      ((laws_toIntS x0).bind fun t31 =>
      (laws_toBandS x1).bind fun t35 =>
      (spec_LiabilityOf t31 t35).bind fun t39 =>
      (laws_toIntS x0).bind fun t43 =>
      (laws_toBandS x1).bind fun t47 =>
      (impl_LiabilityOf t43 t47).bind fun t51 =>
      Option.bind (α := Bool)
        (cond (t51.1 != t39.1)
          (some true)
          (some (!(t51.2 == t39.2))))
        fun p55 =>
      cond p55
        (some false)
        ((laws_toIntS x0).bind fun t64 =>
        (laws_eqIntS t43 t64).bind fun t68 =>
        cond (!t68)
          (some false)
          ((laws_toBandS x1).bind fun t75 =>
          (laws_eqBandS t47 t75).bind fun t79 =>
          cond (!t79)
            (some false)
            (some true)))))

noncomputable def laws_szFactS (x0 : List Fact) (x1 : Int) : Option (Int) :=
  cond (decide ((w64 (x1 - (x0.length : Int))) < 0))
    (some (-1))
    (some (w64 (x1 - (x0.length : Int))))

noncomputable def laws_szStore (x0 : Store) (x1 : Int) : Option (Int) :=
  (laws_szFactS x0.Facts x1).bind fun t21 =>
  cond (decide (t21 < 0))
    (some (-1))
    (some t21)

noncomputable def laws_toFact (x0 : Fact) : Option (Fact) :=
  some x0

noncomputable def laws_toFactS (x0 : List Fact) : Option ((List Fact)) :=
  (mkL (x0.length : Int) (Fact.mk 0 0 0 0 0 : Fact)).bind fun l22 =>
  (loopW (ρ := ((List Fact)) ⊕ ((List Fact))) (fun (s25 : Int × (List Fact)) =>
    cond (decide (s25.1 < (x0.length : Int)))
      ((idx x0 s25.1).bind fun x41 =>
      (laws_toFact x41).bind fun t44 =>
      (idx s25.2 s25.1).bind fun x48 =>
      (some (List.set s25.2 (Int.toNat s25.1) t44)).bind fun l51 =>
      some (.cont (w64 (s25.1 + 1), l51)))
      (some (.done (.inl s25.2))))
    (0, l22)).bind fun r28 => brkE r28 (fun (j35 : (List Fact)) =>
    some j35)
    (some)

noncomputable def laws_toStore (x0 : Store) : Option (Store) :=
  (laws_toFactS x0.Facts).bind fun t21 =>
  some (Store.mk t21)

noncomputable def spec_MonthOk (x0 : Int) : Option (Bool) :=
  (spec_l01In x0 0 3599).bind fun t21 =>
  some t21

noncomputable def spec_FactOk (x0 : Fact) : Option (Bool) :=
  Option.bind (α := Bool)
    ((spec_l01In x0.Key 1 50).bind fun t24 =>
    cond t24
      (cond (decide (x0.From ≥ 0))
        (cond (decide (x0.From < x0.To))
          (cond (decide (x0.To ≤ 3600))
            ((spec_MonthOk x0.Known).bind fun t40 =>
            cond t40
              ((spec_l01In x0.Value (-1000000000) 1000000000).bind fun t47 =>
              some t47)
              (some false))
            (some false))
          (some false))
        (some false))
      (some false))
    fun p21 =>
  some p21

noncomputable def spec_StoreOk (x0 : Store) : Option (Bool) :=
  (loopW (ρ := (Unit) ⊕ (Bool)) (fun (s21 : Int) =>
    cond (decide (s21 < (x0.Facts.length : Int)))
      (Option.bind (α := Bool)
        ((idx x0.Facts s21).bind fun x40 =>
        (spec_FactOk x40).bind fun t43 =>
        cond (!t43)
          (some true)
          (cond (decide (s21 > 0))
            ((idx x0.Facts (w64 (s21 - 1))).bind fun x53 =>
            (idx x0.Facts s21).bind fun x56 =>
            some (decide (x53.Known > x56.Known)))
            (some false)))
        fun p37 =>
      cond p37
        (some (.done (.inr false)))
        (some (.cont (w64 (s21 + 1)))))
      (some (.done (.inl ()))))
    0).bind fun r24 => brkE r24 (fun (j31 : Unit) =>
    some (decide ((x0.Facts.length : Int) ≤ 200)))
    (some)

noncomputable def spec_StoreDigest (x0 : Store) : Option (Int) :=
  (spec_StoreOk x0).bind fun t21 =>
  cond (!t21)
    (some 0)
    ((loopW (ρ := (Int) ⊕ (Int)) (fun (s28 : Int × Int) =>
      cond (decide (s28.1 < (x0.Facts.length : Int)))
        ((idx x0.Facts s28.1).bind fun x44 =>
        (loopW (ρ := (Int × Int × Int × Int × Int × Int × Int) ⊕ (Int)) (fun (s49 : Int × Int) =>
          cond (decide (s49.1 < (([x44.Key, x44.From, x44.To, x44.Known, x44.Value] : List Int).length : Int)))
            ((idx ([x44.Key, x44.From, x44.To, x44.Known, x44.Value] : List Int) s49.1).bind fun x65 =>
            some (.cont (w64 (s49.1 + 1), Int.tmod (w64 ((w64 ((w64 (s49.2 * 1000003)) + x65)) + 1000000001)) 2147483647)))
            (some (.done (.inl (s28.1, s49.2, x44.Key, x44.From, x44.To, x44.Known, x44.Value)))))
          (0, s28.2)).bind fun r52 => brkE r52 (fun (j59 : Int × Int × Int × Int × Int × Int × Int) =>
          some (.cont (w64 (j59.1 + 1), j59.2.1)))
          (fun v => some (.done (.inr v))))
        (some (.done (.inl s28.2))))
      (0, 7)).bind fun r31 => brkE r31 (fun (j38 : Int) =>
      some j38)
      (some))

noncomputable def impl_isSpan (x0 : Int) (x1 : Int) : Option (Bool) :=
  Option.bind (α := Bool)
    (cond (decide (0 ≤ x0))
      (cond (decide (x0 < x1))
        (some (decide (x1 ≤ 3600)))
        (some false))
      (some false))
    fun p21 =>
  some p21

noncomputable def impl_MonthOk (x0 : Int) : Option (Bool) :=
  (impl_within x0 0 3599).bind fun t21 =>
  some t21

noncomputable def impl_FactOk (x0 : Fact) : Option (Bool) :=
  Option.bind (α := Bool)
    ((impl_within x0.Key 1 50).bind fun t24 =>
    cond t24
      ((impl_isSpan x0.From x0.To).bind fun t31 =>
      cond t31
        ((impl_MonthOk x0.Known).bind fun t38 =>
        cond t38
          ((impl_within x0.Value (-1000000000) 1000000000).bind fun t45 =>
          some t45)
          (some false))
        (some false))
      (some false))
    fun p21 =>
  some p21

noncomputable def impl_StoreOk (x0 : Store) : Option (Bool) :=
  (loopW (ρ := (Unit) ⊕ (Bool)) (fun (s21 : Int) =>
    cond (decide (s21 < (x0.Facts.length : Int)))
      ((idx x0.Facts s21).bind fun x37 =>
      Option.bind (α := Bool)
        ((impl_FactOk x37).bind fun t43 =>
        cond (!t43)
          (some true)
          (cond (decide (s21 > 0))
            ((idx x0.Facts (w64 (s21 - 1))).bind fun x53 =>
            some (decide (x53.Known > x37.Known)))
            (some false)))
        fun p40 =>
      cond p40
        (some (.done (.inr false)))
        (some (.cont (w64 (s21 + 1)))))
      (some (.done (.inl ()))))
    0).bind fun r24 => brkE r24 (fun (j31 : Unit) =>
    some (decide ((x0.Facts.length : Int) ≤ 200)))
    (some)

noncomputable def impl_StoreDigest (x0 : Store) : Option (Int) :=
  (impl_StoreOk x0).bind fun t21 =>
  cond (!t21)
    (some 0)
    ((loopW (ρ := (Int) ⊕ (Int)) (fun (s28 : Int × Int × Int) =>
      cond (decide (s28.1 < s28.2.1))
        ((idx x0.Facts s28.1).bind fun x44 =>
        (loopW (ρ := (Int × Int × Int × Int × Int × Int × Int × Int) ⊕ (Int)) (fun (s49 : Int × Int) =>
          cond (decide (s49.1 < (([x44.Key, x44.From, x44.To, x44.Known, x44.Value] : List Int).length : Int)))
            ((idx ([x44.Key, x44.From, x44.To, x44.Known, x44.Value] : List Int) s49.1).bind fun x65 =>
            some (.cont (w64 (s49.1 + 1), Int.tmod (w64 ((w64 ((w64 (s49.2 * 1000003)) + x65)) + 1000000001)) 2147483647)))
            (some (.done (.inl (s28.1, s28.2.1, s49.2, x44.Key, x44.From, x44.To, x44.Known, x44.Value)))))
          (0, s28.2.2)).bind fun r52 => brkE r52 (fun (j59 : Int × Int × Int × Int × Int × Int × Int × Int) =>
          some (.cont (w64 (j59.1 + 1), j59.2.1, j59.2.2.1)))
          (fun v => some (.done (.inr v))))
        (some (.done (.inl s28.2.2))))
      (0, (x0.Facts.length : Int), 7)).bind fun r31 => brkE r31 (fun (j38 : Int) =>
      some j38)
      (some))

noncomputable def laws_eqFact (x0 : Fact) (x1 : Fact) : Option (Bool) :=
  cond (x0.Key != x1.Key)
    (some false)
    (cond (x0.From != x1.From)
      (some false)
      (cond (x0.To != x1.To)
        (some false)
        (cond (x0.Known != x1.Known)
          (some false)
          (cond (x0.Value != x1.Value)
            (some false)
            (some true)))))

noncomputable def laws_eqFactS (x0 : List Fact) (x1 : List Fact) : Option (Bool) :=
  cond ((x0.length : Int) != (x1.length : Int))
    (some false)
    ((loopW (ρ := (Unit) ⊕ (Bool)) (fun (s24 : Int) =>
      cond (decide (s24 < (x0.length : Int)))
        ((idx x0 s24).bind fun x40 =>
        (idx x1 s24).bind fun x43 =>
        (laws_eqFact x40 x43).bind fun t46 =>
        cond (!t46)
          (some (.done (.inr false)))
          (some (.cont (w64 (s24 + 1)))))
        (some (.done (.inl ()))))
      0).bind fun r27 => brkE r27 (fun (j34 : Unit) =>
      some true)
      (some))

noncomputable def laws_eqStore (x0 : Store) (x1 : Store) : Option (Bool) :=
  (laws_eqFactS x0.Facts x1.Facts).bind fun t21 =>
  cond (!t21)
    (some false)
    (some true)

noncomputable def laws_FnExactStoreDigest (x0 : Store) : Option (Bool) :=
  (laws_szStore x0 1048576).bind fun t21 =>
  cond (decide (t21 < 0))
    (some true)
    ((laws_toStore x0).bind fun t28 =>
    (spec_StoreDigest t28).bind fun t32 =>
    (laws_toStore x0).bind fun t36 =>
    (impl_StoreDigest t36).bind fun t40 =>
    cond (t40 != t32)
      (some false)
      ((laws_toStore x0).bind fun t47 =>
      (laws_eqStore t36 t47).bind fun t51 =>
      cond (!t51)
        (some false)
        (some true)))

noncomputable def laws_szPostingS (x0 : List Posting) (x1 : Int) : Option (Int) :=
  cond (decide ((w64 (x1 - (x0.length : Int))) < 0))
    (some (-1))
    (some (w64 (x1 - (x0.length : Int))))

noncomputable def laws_szLedger (x0 : Ledger) (x1 : Int) : Option (Int) :=
  (laws_szPostingS x0.Postings x1).bind fun t21 =>
  cond (decide (t21 < 0))
    (some (-1))
    (some t21)

noncomputable def laws_szBooks (x0 : Books) (x1 : Int) : Option (Int) :=
  (laws_szLedger x0.Ledger x1).bind fun t21 =>
  cond (decide (t21 < 0))
    (some (-1))
    (some t21)

noncomputable def laws_toPosting (x0 : Posting) : Option (Posting) :=
  some x0

noncomputable def laws_toPostingS (x0 : List Posting) : Option ((List Posting)) :=
  (mkL (x0.length : Int) (Posting.mk 0 0 0 0 : Posting)).bind fun l22 =>
  (loopW (ρ := ((List Posting)) ⊕ ((List Posting))) (fun (s25 : Int × (List Posting)) =>
    cond (decide (s25.1 < (x0.length : Int)))
      ((idx x0 s25.1).bind fun x41 =>
      (laws_toPosting x41).bind fun t44 =>
      (idx s25.2 s25.1).bind fun x48 =>
      (some (List.set s25.2 (Int.toNat s25.1) t44)).bind fun l51 =>
      some (.cont (w64 (s25.1 + 1), l51)))
      (some (.done (.inl s25.2))))
    (0, l22)).bind fun r28 => brkE r28 (fun (j35 : (List Posting)) =>
    some j35)
    (some)

noncomputable def laws_toLedger (x0 : Ledger) : Option (Ledger) :=
  (laws_toPostingS x0.Postings).bind fun t21 =>
  some (Ledger.mk t21)

noncomputable def laws_toBooks (x0 : Books) : Option (Books) :=
  (laws_toLedger x0.Ledger).bind fun t21 =>
  some (Books.mk t21 x0.Closed)

noncomputable def spec_l28Copy (x0 : Ledger) : Option (Ledger) :=
  (appC ([] : List Posting) x0.Postings).bind fun l24 =>
  some (Ledger.mk l24)

noncomputable def spec_l29Copy (x0 : Books) : Option (Books) :=
  (spec_l28Copy x0.Ledger).bind fun t21 =>
  some (Books.mk t21 x0.Closed)

noncomputable def spec_PostingOk (x0 : Posting) : Option (Bool) :=
  Option.bind (α := Bool)
    ((spec_MonthOk x0.Month).bind fun t24 =>
    cond t24
      ((spec_l01In x0.Debit 1 9).bind fun t31 =>
      cond t31
        ((spec_l01In x0.Credit 1 9).bind fun t38 =>
        cond t38
          (cond (x0.Debit != x0.Credit)
            ((spec_l01In x0.Cents 1 1000000000).bind fun t48 =>
            some t48)
            (some false))
          (some false))
        (some false))
      (some false))
    fun p21 =>
  some p21

noncomputable def spec_LedgerOk (x0 : Ledger) : Option (Bool) :=
  (loopW (ρ := (Unit) ⊕ (Bool)) (fun (s21 : Int) =>
    cond (decide (s21 < (x0.Postings.length : Int)))
      ((idx x0.Postings s21).bind fun x37 =>
      (spec_PostingOk x37).bind fun t40 =>
      cond (!t40)
        (some (.done (.inr false)))
        (some (.cont (w64 (s21 + 1)))))
      (some (.done (.inl ()))))
    0).bind fun r24 => brkE r24 (fun (j31 : Unit) =>
    some (decide ((x0.Postings.length : Int) ≤ 300)))
    (some)

noncomputable def spec_BooksOk (x0 : Books) : Option (Bool) :=
  Option.bind (α := Bool)
    ((spec_LedgerOk x0.Ledger).bind fun t24 =>
    cond t24
      ((spec_MonthOk x0.Closed).bind fun t31 =>
      some t31)
      (some false))
    fun p21 =>
  some p21

noncomputable def spec_CloseUpTo (x0 : Books) (x1 : Int) : Option (Books × Bool) :=
  (spec_l29Copy x0).bind fun t21 =>
  Option.bind (α := Bool)
    ((spec_BooksOk x0).bind fun t28 =>
    cond (!t28)
      (some true)
      ((spec_MonthOk x1).bind fun t35 =>
      cond (!t35)
        (some true)
        (some (decide (x1 < x0.Closed)))))
    fun p25 =>
  cond p25
    (some (t21, false))
    (some (Books.mk t21.Ledger x1, true))

noncomputable def slices_Clone_Posting (x0 : List Posting) : Option ((List Posting)) :=
  (appC ([] : List Posting) x0).bind fun l27 =>
  some l27

noncomputable def impl_copyLedger (x0 : Ledger) : Option (Ledger) :=
  (slices_Clone_Posting x0.Postings).bind fun t21 =>
  some (Ledger.mk t21)

noncomputable def impl_copyBooks (x0 : Books) : Option (Books) :=
  (impl_copyLedger x0.Ledger).bind fun t21 =>
  some (Books.mk t21 x0.Closed)

noncomputable def impl_PostingOk (x0 : Posting) : Option (Bool) :=
  Option.bind (α := Bool)
    ((impl_MonthOk x0.Month).bind fun t24 =>
    cond t24
      ((impl_within x0.Debit 1 9).bind fun t31 =>
      cond t31
        ((impl_within x0.Credit 1 9).bind fun t38 =>
        cond t38
          (cond (x0.Debit != x0.Credit)
            ((impl_within x0.Cents 1 1000000000).bind fun t48 =>
            some t48)
            (some false))
          (some false))
        (some false))
      (some false))
    fun p21 =>
  some p21

noncomputable def impl_LedgerOk_1 (x0 : Posting) : Option (Bool) :=
  (impl_PostingOk x0).bind fun t21 =>
  some (!t21)

noncomputable def slices_IndexFunc_Posting__impl_LedgerOk_1 (x0 : List Posting) : Option (Int) :=
  (loopW (ρ := (Unit) ⊕ (Int)) (fun (s21 : Int) =>
    cond (decide (s21 < (x0.length : Int)))
      ((idx x0 s21).bind fun x37 =>
      (impl_LedgerOk_1 x37).bind fun t40 =>
      cond t40
        (some (.done (.inr s21)))
        (some (.cont (w64 (s21 + 1)))))
      (some (.done (.inl ()))))
    0).bind fun r24 => brkE r24 (fun (j31 : Unit) =>
    some (-1))
    (some)

noncomputable def slices_ContainsFunc_Posting__impl_LedgerOk_1 (x0 : List Posting) : Option (Bool) :=
  (slices_IndexFunc_Posting__impl_LedgerOk_1 x0).bind fun t21 =>
  some (decide (t21 ≥ 0))

noncomputable def impl_LedgerOk (x0 : Ledger) : Option (Bool) :=
  Option.bind (α := Bool)
    (cond (decide ((x0.Postings.length : Int) ≤ 300))
      ((slices_ContainsFunc_Posting__impl_LedgerOk_1 x0.Postings).bind fun t27 =>
      some (!t27))
      (some false))
    fun p21 =>
  some p21

noncomputable def impl_BooksOk (x0 : Books) : Option (Bool) :=
  Option.bind (α := Bool)
    ((impl_LedgerOk x0.Ledger).bind fun t24 =>
    cond t24
      ((impl_within x0.Closed 0 3599).bind fun t31 =>
      some t31)
      (some false))
    fun p21 =>
  some p21

noncomputable def impl_CloseUpTo (x0 : Books) (x1 : Int) : Option (Books × Bool) :=
  (impl_copyBooks x0).bind fun t21 =>
  Option.bind (α := Bool)
    ((impl_BooksOk x0).bind fun t28 =>
    cond (!t28)
      (some true)
      ((impl_MonthOk x1).bind fun t35 =>
      cond (!t35)
        (some true)
        (some (decide (x1 < x0.Closed)))))
    fun p25 =>
  cond p25
    (some (t21, false))
    (some (Books.mk t21.Ledger x1, true))

noncomputable def laws_eqPosting (x0 : Posting) (x1 : Posting) : Option (Bool) :=
  cond (x0.Month != x1.Month)
    (some false)
    (cond (x0.Debit != x1.Debit)
      (some false)
      (cond (x0.Credit != x1.Credit)
        (some false)
        (cond (x0.Cents != x1.Cents)
          (some false)
          (some true))))

noncomputable def laws_eqPostingS (x0 : List Posting) (x1 : List Posting) : Option (Bool) :=
  cond ((x0.length : Int) != (x1.length : Int))
    (some false)
    ((loopW (ρ := (Unit) ⊕ (Bool)) (fun (s24 : Int) =>
      cond (decide (s24 < (x0.length : Int)))
        ((idx x0 s24).bind fun x40 =>
        (idx x1 s24).bind fun x43 =>
        (laws_eqPosting x40 x43).bind fun t46 =>
        cond (!t46)
          (some (.done (.inr false)))
          (some (.cont (w64 (s24 + 1)))))
        (some (.done (.inl ()))))
      0).bind fun r27 => brkE r27 (fun (j34 : Unit) =>
      some true)
      (some))

noncomputable def laws_eqLedger (x0 : Ledger) (x1 : Ledger) : Option (Bool) :=
  (laws_eqPostingS x0.Postings x1.Postings).bind fun t21 =>
  cond (!t21)
    (some false)
    (some true)

noncomputable def laws_eqBooks (x0 : Books) (x1 : Books) : Option (Bool) :=
  (laws_eqLedger x0.Ledger x1.Ledger).bind fun t21 =>
  cond (!t21)
    (some false)
    (cond (x0.Closed != x1.Closed)
      (some false)
      (some true))

noncomputable def laws_markPostingS (x0 : List Posting) (x1 : Int) : Option (Int × (List Posting)) :=
  (loopW (ρ := ((List Posting) × Int) ⊕ (Int × (List Posting))) (fun (s21 : Int × (List Posting) × Int) =>
    cond (decide (s21.1 < (s21.2.1.length : Int)))
      ((idx s21.2.1 s21.1).bind fun x37 =>
      (some (List.set s21.2.1 (Int.toNat s21.1) (Posting.mk s21.2.2 x37.Debit x37.Credit x37.Cents))).bind fun l40 =>
      (idx l40 s21.1).bind fun x44 =>
      (some (List.set l40 (Int.toNat s21.1) (Posting.mk x44.Month (w64 (s21.2.2 + 1)) x44.Credit x44.Cents))).bind fun l47 =>
      (idx l47 s21.1).bind fun x51 =>
      (some (List.set l47 (Int.toNat s21.1) (Posting.mk x51.Month x51.Debit (w64 ((w64 (s21.2.2 + 1)) + 1)) x51.Cents))).bind fun l54 =>
      (idx l54 s21.1).bind fun x58 =>
      (some (List.set l54 (Int.toNat s21.1) (Posting.mk x58.Month x58.Debit x58.Credit (w64 ((w64 ((w64 (s21.2.2 + 1)) + 1)) + 1))))).bind fun l61 =>
      some (.cont (w64 (s21.1 + 1), l61, w64 ((w64 ((w64 ((w64 (s21.2.2 + 1)) + 1)) + 1)) + 1))))
      (some (.done (.inl (s21.2.1, s21.2.2)))))
    (0, x0, x1)).bind fun r24 => brkE r24 (fun (j31 : (List Posting) × Int) =>
    some (j31.2, j31.1))
    (some)

noncomputable def laws_markLedger (x0 : Ledger) (x1 : Int) : Option (Int × (List Posting)) :=
  (laws_markPostingS x0.Postings x1).bind fun t21 =>
  (sameLen t21.2 x0.Postings).bind fun _ =>
  some (t21.1, t21.2)

noncomputable def laws_markBooks (x0 : Books) (x1 : Int) : Option (Int × (List Posting)) :=
  (laws_markLedger x0.Ledger x1).bind fun t21 =>
  (sameLen t21.2 x0.Ledger.Postings).bind fun _ =>
  some (t21.1, t21.2)

noncomputable def laws_heldPostingS (x0 : List Posting) (x1 : Int) : Option (Int) :=
  (loopW (ρ := (Int) ⊕ (Int)) (fun (s21 : Int × Int) =>
    cond (decide (s21.1 < (x0.length : Int)))
      ((idx x0 s21.1).bind fun x37 =>
      cond (x37.Month != s21.2)
        (some (.done (.inr (-1))))
        ((idx x0 s21.1).bind fun x44 =>
        cond (x44.Debit != (w64 (s21.2 + 1)))
          (some (.done (.inr (-1))))
          ((idx x0 s21.1).bind fun x51 =>
          cond (x51.Credit != (w64 ((w64 (s21.2 + 1)) + 1)))
            (some (.done (.inr (-1))))
            ((idx x0 s21.1).bind fun x58 =>
            cond (x58.Cents != (w64 ((w64 ((w64 (s21.2 + 1)) + 1)) + 1)))
              (some (.done (.inr (-1))))
              (some (.cont (w64 (s21.1 + 1), w64 ((w64 ((w64 ((w64 (s21.2 + 1)) + 1)) + 1)) + 1))))))))
      (some (.done (.inl s21.2))))
    (0, x1)).bind fun r24 => brkE r24 (fun (j31 : Int) =>
    some j31)
    (some)

noncomputable def laws_heldLedger (x0 : Ledger) (x1 : Int) : Option (Int) :=
  (laws_heldPostingS x0.Postings x1).bind fun t21 =>
  cond (decide (t21 < 0))
    (some (-1))
    (some t21)

noncomputable def laws_heldBooks (x0 : Books) (x1 : Int) : Option (Int) :=
  (laws_heldLedger x0.Ledger x1).bind fun t21 =>
  cond (decide (t21 < 0))
    (some (-1))
    (some t21)

noncomputable def laws_FnExactCloseUpTo (x0 : Books) (x1 : Int) : Option (Bool) :=
  (laws_szBooks x0 1048576).bind fun t21 =>
  cond (decide (t21 < 0))
    (some true)
    ((laws_toBooks x0).bind fun t28 =>
    (spec_CloseUpTo t28 x1).bind fun t32 =>
    (laws_toBooks x0).bind fun t36 =>
    (impl_CloseUpTo t36 x1).bind fun t40 =>
    Option.bind (α := Bool)
      ((laws_eqBooks (Books.mk (Ledger.mk t40.1.Ledger.Postings) t40.1.Closed) (Books.mk (Ledger.mk t32.1.Ledger.Postings) t32.1.Closed)).bind fun t47 =>
      cond (!t47)
        (some true)
        (some (!(t40.2 == t32.2))))
      fun p44 =>
    cond p44
      (some false)
      ((laws_toBooks x0).bind fun t57 =>
      (laws_eqBooks t36 t57).bind fun t61 =>
      cond (!t61)
        (some false)
        ((laws_markBooks t36 1).bind fun t69 =>
        (sameLen t69.2 t36.Ledger.Postings).bind fun _ =>
        Option.bind (α := Bool)
          (cond (decide (t69.1 < 0))
            (some true)
            ((laws_eqBooks (Books.mk (Ledger.mk t40.1.Ledger.Postings) t40.1.Closed) (Books.mk (Ledger.mk t32.1.Ledger.Postings) t32.1.Closed)).bind fun t83 =>
            cond (!t83)
              (some true)
              (some (!(t40.2 == t32.2)))))
          fun p77 =>
        cond p77
          (some false)
          ((laws_markBooks (Books.mk (Ledger.mk t40.1.Ledger.Postings) t40.1.Closed) 1).bind fun t93 =>
          (sameLen t93.2 t40.1.Ledger.Postings).bind fun _ =>
          (laws_heldBooks (Books.mk (Ledger.mk t93.2) t40.1.Closed) 1).bind fun t101 =>
          cond (decide (t101 < 0))
            (some false)
            (cond (t101 != t93.1)
              (some false)
              ((laws_toBooks x0).bind fun t111 =>
              (impl_CloseUpTo t111 x1).bind fun t115 =>
              Option.bind (α := Bool)
                ((laws_eqBooks (Books.mk (Ledger.mk t115.1.Ledger.Postings) t115.1.Closed) (Books.mk (Ledger.mk t32.1.Ledger.Postings) t32.1.Closed)).bind fun t122 =>
                cond (!t122)
                  (some true)
                  (some (!(t115.2 == t32.2))))
                fun p119 =>
              cond p119
                (some false)
                ((laws_heldBooks (Books.mk (Ledger.mk t93.2) t40.1.Closed) 1).bind fun t132 =>
                cond (decide (t132 < 0))
                  (some false)
                  (cond (t132 != t93.1)
                    (some false)
                    (some true)))))))))

noncomputable def spec_Post (x0 : Ledger) (x1 : Posting) : Option (Ledger × Bool) :=
  (spec_l28Copy x0).bind fun t21 =>
  (appC t21.Postings ([x1] : List Posting)).bind fun l28 =>
  Option.bind (α := Bool)
    ((spec_LedgerOk x0).bind fun t34 =>
    cond (!t34)
      (some true)
      ((spec_LedgerOk (Ledger.mk l28)).bind fun t41 =>
      some (!t41)))
    fun p31 =>
  cond p31
    ((spec_l28Copy x0).bind fun t52 =>
    some (t52, false))
    (some (Ledger.mk l28, true))

noncomputable def spec_PostOpen (x0 : Books) (x1 : Posting) : Option (Books × Bool) :=
  (spec_l29Copy x0).bind fun t21 =>
  Option.bind (α := Bool)
    ((spec_BooksOk x0).bind fun t28 =>
    cond (!t28)
      (some true)
      (some (decide (x1.Month < x0.Closed))))
    fun p25 =>
  cond p25
    (some (t21, false))
    ((spec_Post x0.Ledger x1).bind fun t38 =>
    some (Books.mk (Ledger.mk t38.1.Postings) t21.Closed, t38.2))

noncomputable def impl_Post (x0 : Ledger) (x1 : Posting) : Option (Ledger × Bool) :=
  (slices_Clone_Posting x0.Postings).bind fun t21 =>
  (appC t21 ([x1] : List Posting)).bind fun l27 =>
  Option.bind (α := Bool)
    ((impl_LedgerOk x0).bind fun t34 =>
    cond (!t34)
      (some true)
      ((impl_LedgerOk (Ledger.mk l27)).bind fun t41 =>
      some (!t41)))
    fun p31 =>
  cond p31
    ((impl_copyLedger x0).bind fun t52 =>
    some (t52, false))
    (some (Ledger.mk l27, true))

noncomputable def impl_PostOpen (x0 : Books) (x1 : Posting) : Option (Books × Bool) :=
  (impl_Post x0.Ledger x1).bind fun t21 =>
  Option.bind (α := Bool)
    (cond (!t21.2)
      (some true)
      ((impl_BooksOk x0).bind fun t31 =>
      cond (!t31)
        (some true)
        (some (decide (x1.Month < x0.Closed)))))
    fun p25 =>
  cond p25
    ((impl_copyBooks x0).bind fun t45 =>
    some (t45, false))
    (some (Books.mk (Ledger.mk t21.1.Postings) x0.Closed, true))

noncomputable def laws_FnExactPostOpen (x0 : Books) (x1 : Posting) : Option (Bool) :=
  (laws_szBooks x0 1048576).bind fun t21 =>
  cond (decide (t21 < 0))
    (some true)
    ((laws_toBooks x0).bind fun t28 =>
    (laws_toPosting x1).bind fun t32 =>
    (spec_PostOpen t28 t32).bind fun t36 =>
    (laws_toBooks x0).bind fun t41 =>
    (laws_toPosting x1).bind fun t45 =>
    (impl_PostOpen t41 t45).bind fun t49 =>
    Option.bind (α := Bool)
      ((laws_eqBooks (Books.mk (Ledger.mk t49.1.Ledger.Postings) t49.1.Closed) (Books.mk (Ledger.mk t36.1.Ledger.Postings) t36.1.Closed)).bind fun t57 =>
      cond (!t57)
        (some true)
        (some (!(t49.2 == t36.2))))
      fun p54 =>
    cond p54
      (some false)
      ((laws_toBooks x0).bind fun t67 =>
      (laws_eqBooks t41 t67).bind fun t71 =>
      cond (!t71)
        (some false)
        ((laws_markBooks t41 1).bind fun t79 =>
        (sameLen t79.2 t41.Ledger.Postings).bind fun _ =>
        Option.bind (α := Bool)
          (cond (decide (t79.1 < 0))
            (some true)
            ((laws_eqBooks (Books.mk (Ledger.mk t49.1.Ledger.Postings) t49.1.Closed) (Books.mk (Ledger.mk t36.1.Ledger.Postings) t36.1.Closed)).bind fun t93 =>
            cond (!t93)
              (some true)
              (some (!(t49.2 == t36.2)))))
          fun p87 =>
        cond p87
          (some false)
          ((laws_markBooks (Books.mk (Ledger.mk t49.1.Ledger.Postings) t49.1.Closed) 1).bind fun t103 =>
          (sameLen t103.2 t49.1.Ledger.Postings).bind fun _ =>
          (laws_heldBooks (Books.mk (Ledger.mk t103.2) t49.1.Closed) 1).bind fun t111 =>
          cond (decide (t111 < 0))
            (some false)
            (cond (t111 != t103.1)
              (some false)
              ((laws_toBooks x0).bind fun t121 =>
              (laws_toPosting x1).bind fun t125 =>
              (impl_PostOpen t121 t125).bind fun t129 =>
              Option.bind (α := Bool)
                ((laws_eqBooks (Books.mk (Ledger.mk t129.1.Ledger.Postings) t129.1.Closed) (Books.mk (Ledger.mk t36.1.Ledger.Postings) t36.1.Closed)).bind fun t137 =>
                cond (!t137)
                  (some true)
                  (some (!(t129.2 == t36.2))))
                fun p134 =>
              cond p134
                (some false)
                ((laws_heldBooks (Books.mk (Ledger.mk t103.2) t49.1.Closed) 1).bind fun t147 =>
                cond (decide (t147 < 0))
                  (some false)
                  (cond (t147 != t103.1)
                    (some false)
                    (some true)))))))))

noncomputable def spec_PostLate (x0 : Books) (x1 : Posting) : Option (Books × Int × Bool) :=
  Option.bind (α := Bool)
    ((spec_BooksOk x0).bind fun t24 =>
    cond (!t24)
      (some true)
      ((spec_PostingOk x1).bind fun t31 =>
      some (!t31)))
    fun p21 =>
  cond p21
    ((spec_l29Copy x0).bind fun t42 =>
    some (t42, 0, false))
    ((spec_PostOpen x0 (Posting.mk (imax x1.Month x0.Closed) x1.Debit x1.Credit x1.Cents)).bind fun t46 =>
    cond (!t46.2)
      ((spec_l29Copy x0).bind fun t57 =>
      some (t57, 0, false))
      (some (Books.mk (Ledger.mk t46.1.Ledger.Postings) t46.1.Closed, imax x1.Month x0.Closed, true)))

noncomputable def impl_PostLate (x0 : Books) (x1 : Posting) : Option (Books × Int × Bool) :=
  Option.bind (α := Bool)
    ((impl_BooksOk x0).bind fun t24 =>
    cond (!t24)
      (some true)
      ((impl_PostingOk x1).bind fun t31 =>
      some (!t31)))
    fun p21 =>
  cond p21
    ((impl_copyBooks x0).bind fun t42 =>
    some (t42, 0, false))
    ((impl_Post x0.Ledger (Posting.mk (imax x1.Month x0.Closed) x1.Debit x1.Credit x1.Cents)).bind fun t46 =>
    cond (!t46.2)
      ((impl_copyBooks x0).bind fun t57 =>
      some (t57, 0, false))
      (some (Books.mk (Ledger.mk t46.1.Postings) x0.Closed, imax x1.Month x0.Closed, true)))

noncomputable def laws_FnExactPostLate (x0 : Books) (x1 : Posting) : Option (Bool) :=
  (laws_szBooks x0 1048576).bind fun t21 =>
  cond (decide (t21 < 0))
    (some true)
    ((laws_toBooks x0).bind fun t28 =>
    (laws_toPosting x1).bind fun t32 =>
    (spec_PostLate t28 t32).bind fun t36 =>
    (laws_toBooks x0).bind fun t41 =>
    (laws_toPosting x1).bind fun t45 =>
    (impl_PostLate t41 t45).bind fun t49 =>
    Option.bind (α := Bool)
      ((laws_eqBooks (Books.mk (Ledger.mk t49.1.Ledger.Postings) t49.1.Closed) (Books.mk (Ledger.mk t36.1.Ledger.Postings) t36.1.Closed)).bind fun t57 =>
      cond (!t57)
        (some true)
        (cond (t49.2.1 != t36.2.1)
          (some true)
          (some (!(t49.2.2 == t36.2.2)))))
      fun p54 =>
    cond p54
      (some false)
      ((laws_toBooks x0).bind fun t70 =>
      (laws_eqBooks t41 t70).bind fun t74 =>
      cond (!t74)
        (some false)
        ((laws_markBooks t41 1).bind fun t82 =>
        (sameLen t82.2 t41.Ledger.Postings).bind fun _ =>
        Option.bind (α := Bool)
          (cond (decide (t82.1 < 0))
            (some true)
            ((laws_eqBooks (Books.mk (Ledger.mk t49.1.Ledger.Postings) t49.1.Closed) (Books.mk (Ledger.mk t36.1.Ledger.Postings) t36.1.Closed)).bind fun t96 =>
            cond (!t96)
              (some true)
              (cond (t49.2.1 != t36.2.1)
                (some true)
                (some (!(t49.2.2 == t36.2.2))))))
          fun p90 =>
        cond p90
          (some false)
          ((laws_markBooks (Books.mk (Ledger.mk t49.1.Ledger.Postings) t49.1.Closed) 1).bind fun t109 =>
          (sameLen t109.2 t49.1.Ledger.Postings).bind fun _ =>
          (laws_heldBooks (Books.mk (Ledger.mk t109.2) t49.1.Closed) 1).bind fun t117 =>
          cond (decide (t117 < 0))
            (some false)
            (cond (t117 != t109.1)
              (some false)
              ((laws_toBooks x0).bind fun t127 =>
              (laws_toPosting x1).bind fun t131 =>
              (impl_PostLate t127 t131).bind fun t135 =>
              Option.bind (α := Bool)
                ((laws_eqBooks (Books.mk (Ledger.mk t135.1.Ledger.Postings) t135.1.Closed) (Books.mk (Ledger.mk t36.1.Ledger.Postings) t36.1.Closed)).bind fun t143 =>
                cond (!t143)
                  (some true)
                  (cond (t135.2.1 != t36.2.1)
                    (some true)
                    (some (!(t135.2.2 == t36.2.2)))))
                fun p140 =>
              cond p140
                (some false)
                ((laws_heldBooks (Books.mk (Ledger.mk t109.2) t49.1.Closed) 1).bind fun t156 =>
                cond (decide (t156 < 0))
                  (some false)
                  (cond (t156 != t109.1)
                    (some false)
                    (some true)))))))))
end Go.Pen
