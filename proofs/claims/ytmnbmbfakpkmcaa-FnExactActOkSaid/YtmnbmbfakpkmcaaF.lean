/-
  What each Go function computes, as a plain function: written by a program of ours off the loaded program.
-/
import Derived.Test.YtmnbmbfakpkmcaaPenS
namespace Go.Pen
set_option linter.unusedVariables false
set_option maxRecDepth 100000

noncomputable def spec_l01In (x0 : Int) (x1 : Int) (x2 : Int) : Option (Bool) :=
  Option.bind (α := Bool)
    (cond (decide (x0 ≥ x1))
      (some (decide (x0 ≤ x2)))
      (some false))
    fun p1 =>
  some p1

noncomputable def spec_AssetsNeeded (x0 : Int) (x1 : Int) : Option (Int) :=
  Option.bind (α := Bool)
    ((spec_l01In x0 0 1000000000000).bind fun t4 =>
    cond (!t4)
      (some true)
      ((spec_l01In x1 0 2000).bind fun t11 =>
      some (!t11)))
    fun p1 =>
  cond p1
    (some 0)
    (some (w64 (Int.tdiv (w64 ((w64 (x0 * x1)) + 999)) 1000)))

noncomputable def impl_within (x0 : Int) (x1 : Int) (x2 : Int) : Option (Bool) :=
  Option.bind (α := Bool)
    (cond (decide (x1 ≤ x0))
      (some (decide (x0 ≤ x2)))
      (some false))
    fun p1 =>
  some p1

noncomputable def impl_ceilDiv (x0 : Int) (x1 : Int) : Option (Int) :=
  (nz x1).bind fun _ =>
  some (w64 (Int.tdiv (w64 ((w64 (x0 + x1)) - 1)) x1))

noncomputable def impl_AssetsNeeded (x0 : Int) (x1 : Int) : Option (Int) :=
  Option.bind (α := Bool)
    ((impl_within x0 0 1000000000000).bind fun t4 =>
    cond (!t4)
      (some true)
      ((impl_within x1 0 2000).bind fun t11 =>
      some (!t11)))
    fun p1 =>
  cond p1
    (some 0)
    ((impl_ceilDiv (w64 (x0 * x1)) 1000).bind fun t18 =>
    some t18)

noncomputable def laws_FnExactAssetsNeeded (x0 : Int) (x1 : Int) : Option (Bool) :=
  (spec_AssetsNeeded x0 x1).bind fun t1 =>
  (impl_AssetsNeeded x0 x1).bind fun t5 =>
  cond (t5 != t1)
    (some false)
    (some true)

noncomputable def spec_SolvencyOf (x0 : Int) : Option (Int) :=
  cond (decide (x0 < 1000))
    (some 0)
    (cond (decide (x0 < 1050))
      (some 1)
      (some 2))

noncomputable def impl_SolvencyOf (x0 : Int) : Option (Int) :=
  cond (decide (x0 < 1000))
    (some 0)
    (cond (decide (x0 < 1050))
      (some 1)
      (some 2))

noncomputable def laws_FnExactSolvencyOf (x0 : Int) : Option (Bool) :=
  (spec_SolvencyOf x0).bind fun t1 =>
  (impl_SolvencyOf x0).bind fun t5 =>
  cond (t5 != t1)
    (some false)
    (some true)

noncomputable def spec_AdjustRate (x0 : Int) (x1 : Int) : Option (Int) :=
  Option.bind (α := Bool)
    ((spec_l01In x0 0 10000).bind fun t4 =>
    cond (!t4)
      (some true)
      ((spec_l01In x1 0 1000).bind fun t11 =>
      cond (!t11)
        (some true)
        (some (decide (x0 < 1000)))))
    fun p1 =>
  cond p1
    (some 0)
    (cond (decide (x0 ≥ 1100))
      (some x1)
      (some (w64 (Int.tdiv (w64 (x1 * (w64 (x0 - 1000)))) 100))))

noncomputable def impl_AdjustRate (x0 : Int) (x1 : Int) : Option (Int) :=
  Option.bind (α := Bool)
    ((impl_within x0 0 10000).bind fun t4 =>
    cond (!t4)
      (some true)
      ((impl_within x1 0 1000).bind fun t11 =>
      cond (!t11)
        (some true)
        (some (decide (x0 < 1000)))))
    fun p1 =>
  cond p1
    (some 0)
    (cond (decide (x0 ≥ 1100))
      (some x1)
      (some (w64 (Int.tdiv (w64 (x1 * (w64 (x0 - 1000)))) 100))))

noncomputable def laws_FnExactAdjustRate (x0 : Int) (x1 : Int) : Option (Bool) :=
  (spec_AdjustRate x0 x1).bind fun t1 =>
  (impl_AdjustRate x0 x1).bind fun t5 =>
  cond (t5 != t1)
    (some false)
    (some true)

noncomputable def spec_CoverageOf (x0 : Int) (x1 : Int) : Option (Int) :=
  Option.bind (α := Bool)
    ((spec_l01In x0 0 1000000000000).bind fun t4 =>
    cond (!t4)
      (some true)
      ((spec_l01In x1 0 1000000000000).bind fun t11 =>
      some (!t11)))
    fun p1 =>
  cond p1
    (some 0)
    (cond (x1 == 0)
      (some 10000)
      ((nz x1).bind fun _ =>
      some (imin (w64 (Int.tdiv (w64 (x0 * 1000)) x1)) 10000)))

noncomputable def impl_CoverageOf (x0 : Int) (x1 : Int) : Option (Int) :=
  Option.bind (α := Bool)
    ((impl_within x0 0 1000000000000).bind fun t4 =>
    cond (!t4)
      (some true)
      ((impl_within x1 0 1000000000000).bind fun t11 =>
      some (!t11)))
    fun p1 =>
  cond p1
    (some 0)
    (cond (x1 == 0)
      (some 10000)
      ((nz x1).bind fun _ =>
      some (imin 10000 (w64 (Int.tdiv (w64 (x0 * 1000)) x1)))))

noncomputable def laws_FnExactCoverageOf (x0 : Int) (x1 : Int) : Option (Bool) :=
  (spec_CoverageOf x0 x1).bind fun t1 =>
  (impl_CoverageOf x0 x1).bind fun t5 =>
  cond (t5 != t1)
    (some false)
    (some true)

noncomputable def laws_toFact (x0 : Fact) : Option (Fact) :=
  some x0

noncomputable def laws_toPoint (x0 : Point) : Option (Point) :=
  some x0

noncomputable def laws_toAct (x0 : Act) : Option (Act) :=
  (laws_toFact x0.Fact).bind fun t1 =>
  (laws_toPoint x0.Point).bind fun t5 =>
  some (Act.mk x0.Kind t1 t5 x0.N)

noncomputable def spec_l38Plain (x0 : Act) : Option (Act) :=
  joinP (fun (j2 : Int × Int × Int × Int × Int × Int × Int × Int × Int) =>
    some (Act.mk x0.Kind (Fact.mk j2.1 j2.2.1 j2.2.2.1 j2.2.2.2.1 j2.2.2.2.2.1) (Point.mk j2.2.2.2.2.2.1 j2.2.2.2.2.2.2.1 j2.2.2.2.2.2.2.2.1) j2.2.2.2.2.2.2.2.2))
    (fun k4 =>
    cond (x0.Kind == 1)
      (k4 (x0.Fact.Key, x0.Fact.From, x0.Fact.To, x0.Fact.Known, x0.Fact.Value, 0, 0, 0, 0))
      (cond (x0.Kind == 2)
        (k4 (0, 0, 0, 0, 0, x0.Point.Month, x0.Point.Known, x0.Point.Value, 0))
        (cond (x0.Kind == 3)
          (k4 (0, 0, 0, 0, 0, 0, 0, 0, x0.N))
          (k4 (0, 0, 0, 0, 0, 0, 0, 0, 0)))))

noncomputable def spec_ActOk (x0 : Act) : Option (Bool) :=
  Option.bind (α := Bool)
    ((spec_l38Plain x0).bind fun t4 =>
    cond (!((x0.Kind == t4.Kind) && (((x0.Fact.Key == t4.Fact.Key) && ((x0.Fact.From == t4.Fact.From) && ((x0.Fact.To == t4.Fact.To) && ((x0.Fact.Known == t4.Fact.Known) && ((x0.Fact.Value == t4.Fact.Value) && true))))) && (((x0.Point.Month == t4.Point.Month) && ((x0.Point.Known == t4.Point.Known) && ((x0.Point.Value == t4.Point.Value) && true))) && ((x0.N == t4.N) && true)))))
      (some true)
      (cond (x0.Fact.Known != 0)
        (some true)
        (some (x0.Point.Known != 0))))
    fun p1 =>
  cond p1
    (some false)
    (Option.bind (α := Bool)
      (cond (x0.Kind == 1)
        (some true)
        (cond (x0.Kind == 2)
          (some true)
          (cond (x0.Kind == 3)
            ((spec_l01In x0.N 1 24).bind fun t29 =>
            some t29)
            (some false))))
      fun p17 =>
    some p17)

noncomputable def impl_ActOk (x0 : Act) : Option (Bool) :=
  joinP (fun (j2 : Int × Int × Int × Int × Int × Int × Int × Int × Int) =>
    Option.bind (α := Bool)
      (cond ((x0.Kind == x0.Kind) && (((x0.Fact.Key == j2.1) && ((x0.Fact.From == j2.2.1) && ((x0.Fact.To == j2.2.2.1) && ((x0.Fact.Known == j2.2.2.2.1) && ((x0.Fact.Value == j2.2.2.2.2.1) && true))))) && (((x0.Point.Month == j2.2.2.2.2.2.1) && ((x0.Point.Known == j2.2.2.2.2.2.2.1) && ((x0.Point.Value == j2.2.2.2.2.2.2.2.1) && true))) && ((x0.N == j2.2.2.2.2.2.2.2.2) && true))))
        (cond (x0.Fact.Known == 0)
          (some (x0.Point.Known == 0))
          (some false))
        (some false))
      fun p7 =>
    some p7)
    (fun k4 =>
    cond (x0.Kind == 1)
      (k4 (x0.Fact.Key, x0.Fact.From, x0.Fact.To, x0.Fact.Known, x0.Fact.Value, 0, 0, 0, 0))
      (cond (x0.Kind == 2)
        (k4 (0, 0, 0, 0, 0, x0.Point.Month, x0.Point.Known, x0.Point.Value, 0))
        (cond (x0.Kind == 3)
          ((impl_within x0.N 1 24).bind fun t26 =>
          cond (!t26)
            (some false)
            (k4 (0, 0, 0, 0, 0, 0, 0, 0, x0.N)))
          (some false))))

noncomputable def laws_FnExactActOk (x0 : Act) : Option (Bool) :=
  (laws_toAct x0).bind fun t1 =>
  (spec_ActOk t1).bind fun t5 =>
  (laws_toAct x0).bind fun t9 =>
  (impl_ActOk t9).bind fun t13 =>
  cond (!(t13 == t5))
    (some false)
    (some true)
end Go.Pen
