/-
  What each Go function computes, as a plain function: written by a program of ours off the loaded program.
-/
import Derived.Test.YtagenkhjchiigaaGreatPenS
import Derived.Test.YtagenkhjchiigaaGreatPenJ
namespace Go.Pen
set_option linter.unusedVariables false
set_option linter.unusedSimpArgs false
set_option maxRecDepth 100000
set_option maxHeartbeats 4000000

noncomputable def laws_big (x0 : List U8) : Option (Bool) :=
  some (decide ((x0.length : Int) > 1048576))

noncomputable def spec_l01New (x0 : List U8) : Option (Int × Int) :=
  (loopW (ρ := (Int) ⊕ (Int × Int)) (fun (s21 : Int × Int) =>
    Option.bind (α := Bool)
      (cond (decide (s21.1 < (x0.length : Int)))
        (some (decide (s21.1 < 4000)))
        (some false))
      fun p35 =>
    cond p35
      ((idx x0 s21.1).bind fun x44 =>
      some (.cont (w64 (s21.1 + 1), and64 (w64 ((w64 ((w64 (s21.2 * 131)) + (w64 x44.n))) + 7)) 1073741823)))
      (some (.done (.inl s21.2))))
    (0, w64 (98011 + (x0.length : Int)))).bind fun r24 => brkE r24 (fun (j31 : Int) =>
    some (0, j31))
    (some)

noncomputable def spec_l01Byte (xb0 : List U8) (xi0 : Int) (xh0 : Int) : Option (Int × Int × Int) :=
  joinP (fun (j25 : Int × Int) =>
    some (j25.1, j25.2, w64 ((w64 (xh0 * 6364136223846793005)) + 1442695040888963407)))
    (fun k27 =>
    cond (decide (xi0 < (xb0.length : Int)))
      ((idx xb0 xi0).bind fun x34 =>
      k27 (and64 (w64 ((and64 (xor64 (Int.fdiv (w64 ((w64 (xh0 * 6364136223846793005)) + 1442695040888963407)) 8589934592) (Int.fdiv (w64 ((w64 (xh0 * 6364136223846793005)) + 1442695040888963407)) 35184372088832)) 255) + (w64 x34.n))) 255, w64 (xi0 + 1)))
      (k27 (and64 (xor64 (Int.fdiv (w64 ((w64 (xh0 * 6364136223846793005)) + 1442695040888963407)) 8589934592) (Int.fdiv (w64 ((w64 (xh0 * 6364136223846793005)) + 1442695040888963407)) 35184372088832)) 255, xi0)))

noncomputable def spec_l01Below (xb0 : List U8) (xi0 : Int) (xh0 : Int) (x1 : Int) : Option (Int × Int × Int) :=
  cond (decide (x1 ≤ 0))
    (some (0, xi0, xh0))
    (cond (decide (x1 ≤ 256))
      ((spec_l01Byte xb0 xi0 xh0).bind fun t34 =>
      (nz x1).bind fun _ =>
      some (Int.tmod t34.1 x1, t34.2.1, t34.2.2))
      ((spec_l01Byte xb0 xi0 xh0).bind fun t41 =>
      (spec_l01Byte xb0 t41.2.1 t41.2.2).bind fun t45 =>
      (spec_l01Byte xb0 t45.2.1 t45.2.2).bind fun t49 =>
      (spec_l01Byte xb0 t49.2.1 t49.2.2).bind fun t53 =>
      (nz x1).bind fun _ =>
      some (Int.tmod (w64 ((w64 ((w64 ((w64 (t41.1 * 16777216)) + (w64 (t45.1 * 65536)))) + (w64 (t49.1 * 256)))) + t53.1)) x1, t53.2.1, t53.2.2)))

noncomputable def spec_l05Fact (xb0 : List U8) (xi0 : Int) (xh0 : Int) (x1 : Int) : Option (Fact × Int × Int) :=
  (spec_l01Below xb0 xi0 xh0 60).bind fun t21 =>
  (spec_l01Below xb0 t21.2.1 t21.2.2 4).bind fun t25 =>
  (spec_l01Below xb0 t25.2.1 t25.2.2 40).bind fun t29 =>
  (spec_l01Below xb0 t29.2.1 t29.2.2 500).bind fun t33 =>
  some (Fact.mk (w64 (1 + t25.1)) t21.1 (w64 ((w64 (t21.1 + 1)) + t29.1)) x1 (w64 (t33.1 * 100)), t33.2.1, t33.2.2)

noncomputable def spec_l05Store (xb0 : List U8) (xi0 : Int) (xh0 : Int) : Option (Store × Int × Int) :=
  (spec_l01Below xb0 xi0 xh0 10).bind fun t21 =>
  (loopW (ρ := (Int × Int × (List Fact)) ⊕ (Store × Int × Int)) (fun (s25 : Int × Int × Int × Int × (List Fact)) =>
    (spec_l01Below xb0 s25.2.2.1 s25.2.2.2.1 10).bind fun t38 =>
    cond (decide (s25.1 < t38.1))
      ((spec_l01Below xb0 t38.2.1 t38.2.2 12).bind fun t45 =>
      (spec_l05Fact xb0 t45.2.1 t45.2.2 (w64 (s25.2.1 + t45.1))).bind fun t49 =>
      (appC s25.2.2.2.2 ([t49.1] : List Fact)).bind fun l55 =>
      some (.cont (w64 (s25.1 + 1), w64 (s25.2.1 + t45.1), t49.2.1, t49.2.2, l55)))
      (some (.done (.inl (t38.2.1, t38.2.2, s25.2.2.2.2)))))
    (0, t21.1, t21.2.1, t21.2.2, ([] : List Fact))).bind fun r28 => brkE r28 (fun (j35 : Int × Int × (List Fact)) =>
    some (Store.mk j35.2.2, j35.1, j35.2.1))
    (some)

noncomputable def spec_l07Series (xb0 : List U8) (xi0 : Int) (xh0 : Int) : Option (Series × Int × Int) :=
  (loopW (ρ := (Int × Int × (List Point)) ⊕ (Series × Int × Int)) (fun (s21 : Int × Int × Int × Int × (List Point)) =>
    (spec_l01Below xb0 s21.2.2.1 s21.2.2.2.1 10).bind fun t34 =>
    cond (decide (s21.1 < t34.1))
      ((spec_l01Below xb0 t34.2.1 t34.2.2 12).bind fun t41 =>
      (spec_l01Below xb0 t41.2.1 t41.2.2 (w64 ((w64 (s21.2.1 + t41.1)) + 1))).bind fun t45 =>
      (spec_l01Below xb0 t45.2.1 t45.2.2 4000).bind fun t49 =>
      (appC s21.2.2.2.2 ([Point.mk t45.1 (w64 (s21.2.1 + t41.1)) (w64 (9000 + t49.1))] : List Point)).bind fun l55 =>
      some (.cont (w64 (s21.1 + 1), w64 (s21.2.1 + t41.1), t49.2.1, t49.2.2, l55)))
      (some (.done (.inl (t34.2.1, t34.2.2, s21.2.2.2.2)))))
    (0, 0, xi0, xh0, ([] : List Point))).bind fun r24 => brkE r24 (fun (j31 : Int × Int × (List Point)) =>
    some (Series.mk j31.2.2, j31.1, j31.2.1))
    (some)

noncomputable def spec_l01PickInt (xb0 : List U8) (xi0 : Int) (xh0 : Int) (x1 : List Int) : Option (Int × Int × Int) :=
  (spec_l01Below xb0 xi0 xh0 (x1.length : Int)).bind fun t21 =>
  (idx x1 t21.1).bind fun x25 =>
  some (x25, t21.2.1, t21.2.2)

noncomputable def spec_l01Once (xb0 : List U8) (xi0 : Int) (xh0 : Int) (x1 : Int) : Option (Bool × Int × Int) :=
  (spec_l01Below xb0 xi0 xh0 x1).bind fun t21 =>
  some (t21.1 == 0, t21.2.1, t21.2.2)

noncomputable def spec_l11Spells (xb0 : List U8) (xi0 : Int) (xh0 : Int) : Option ((List Spell) × Int × Int) :=
  (spec_l01Below xb0 xi0 xh0 20).bind fun t23 =>
  (loopW (ρ := ((List Spell) × Int × Int) ⊕ ((List Spell) × Int × Int)) (fun (s27 : Int × Int × (List Spell) × Int × Int) =>
    (spec_l01Below xb0 s27.2.2.2.1 s27.2.2.2.2 7).bind fun t40 =>
    cond (decide (s27.1 < t40.1))
      ((spec_l01Below xb0 t40.2.1 t40.2.2 8).bind fun t47 =>
      (spec_l01Below xb0 t47.2.1 t47.2.2 2).bind fun t51 =>
      (spec_l01Below xb0 t51.2.1 t51.2.2 30).bind fun t55 =>
      (spec_l01PickInt xb0 t55.2.1 t55.2.2 ([100, 100, 50, 80, 1] : List Int)).bind fun t61 =>
      (spec_l01Once xb0 t61.2.1 t61.2.2 5).bind fun t65 =>
      (appC s27.2.2.1 ([Spell.mk (w64 (s27.2.1 + (w64 (t47.1 * t51.1)))) (w64 ((w64 ((w64 (s27.2.1 + (w64 (t47.1 * t51.1)))) + 1)) + t55.1)) t61.1 t65.1] : List Spell)).bind fun l72 =>
      some (.cont (w64 (s27.1 + 1), w64 ((w64 ((w64 (s27.2.1 + (w64 (t47.1 * t51.1)))) + 1)) + t55.1), l72, t65.2.1, t65.2.2)))
      (some (.done (.inl (s27.2.2.1, t40.2.1, t40.2.2)))))
    (0, t23.1, ([] : List Spell), t23.2.1, t23.2.2)).bind fun r30 => brkE r30 (fun (j37 : (List Spell) × Int × Int) =>
    some (j37.1, j37.2.1, j37.2.2))
    (some)

noncomputable def spec_l01In (x0 : Int) (x1 : Int) (x2 : Int) : Option (Bool) :=
  Option.bind (α := Bool)
    (cond (decide (x0 ≥ x1))
      (some (decide (x0 ≤ x2)))
      (some false))
    fun p21 =>
  some p21

noncomputable def spec_StatusAfter (x0 : Int) (x1 : Int) : Option (Int × Bool) :=
  Option.bind (α := Bool)
    (cond (x1 == 1)
      (cond (x0 == 0)
        (some true)
        (some (x0 == 2)))
      (some false))
    fun p21 =>
  cond p21
    (some (1, true))
    (Option.bind (α := Bool)
      (cond (x1 == 2)
        (some (x0 == 1))
        (some false))
      fun p67 =>
    cond p67
      (some (2, true))
      (Option.bind (α := Bool)
        (cond (x1 == 3)
          (cond (x0 == 1)
            (some true)
            (some (x0 == 2)))
          (some false))
        fun p101 =>
      cond p101
        (some (3, true))
        (Option.bind (α := Bool)
          (cond (x1 == 4)
            ((spec_l01In x0 1 3).bind fun t132 =>
            some t132)
            (some false))
          fun p126 =>
        cond p126
          (some (4, true))
          (some (x0, false)))))

noncomputable def spec_MonthOk (x0 : Int) : Option (Bool) :=
  (spec_l01In x0 0 3599).bind fun t21 =>
  some t21

noncomputable def spec_EventsOk (x0 : List Event) : Option (Bool) :=
  (loopW (ρ := (Unit) ⊕ (Bool)) (fun (s21 : Int × Int) =>
    cond (decide (s21.1 < (x0.length : Int)))
      ((idx x0 s21.1).bind fun x37 =>
      (spec_StatusAfter s21.2 x37.Kind).bind fun t40 =>
      Option.bind (α := Bool)
        (cond (!t40.2)
          (some true)
          ((idx x0 s21.1).bind fun x50 =>
          (spec_MonthOk x50.Month).bind fun t53 =>
          cond (!t53)
            (some true)
            (cond (decide (s21.1 > 0))
              ((idx x0 (w64 (s21.1 - 1))).bind fun x63 =>
              (idx x0 s21.1).bind fun x66 =>
              some (decide (x63.Month ≥ x66.Month)))
              (some false))))
        fun p44 =>
      cond p44
        (some (.done (.inr false)))
        (some (.cont (w64 (s21.1 + 1), t40.1))))
      (some (.done (.inl ()))))
    (0, 0)).bind fun r24 => brkE r24 (fun (j31 : Unit) =>
    some (decide ((x0.length : Int) ≤ 30)))
    (some)

noncomputable def spec_AddEvent (x0 : List Event) (x1 : Event) : Option ((List Event) × Bool) :=
  (loopW (ρ := (Bool × (List Event) × Int × Int) ⊕ ((List Event) × Bool)) (fun (s23 : Int × Bool × (List Event)) =>
    cond (decide (s23.1 < (x0.length : Int)))
      (Option.bind (α := Bool)
        (cond (!s23.2.1)
          ((idx x0 s23.1).bind fun x96 =>
          some (decide (x96.Month > x1.Month)))
          (some false))
        fun p90 =>
      joinP (fun (j106 : (List Event) × Bool) =>
        (idx x0 s23.1).bind fun x111 =>
        (appC j106.1 ([x111] : List Event)).bind fun l117 =>
        some (.cont (w64 (s23.1 + 1), j106.2, l117)))
        (fun k108 =>
        cond p90
          ((appC s23.2.2 ([x1] : List Event)).bind fun l127 =>
          k108 (l127, true))
          (k108 (s23.2.2, s23.2.1))))
      (some (.done (.inl (s23.2.1, s23.2.2, x1.Kind, x1.Month)))))
    (0, false, ([] : List Event))).bind fun r26 => brkE r26 (fun (j33 : Bool × (List Event) × Int × Int) =>
    joinP (fun (j42 : (List Event)) =>
      Option.bind (α := Bool)
        ((spec_EventsOk x0).bind fun t50 =>
        cond (!t50)
          (some true)
          ((spec_EventsOk j42).bind fun t57 =>
          some (!t57)))
        fun p47 =>
      cond p47
        ((appC ([] : List Event) x0).bind fun l73 =>
        some (l73, false))
        (some (j42, true)))
      (fun k44 =>
      cond (!j33.1)
        ((appC j33.2.1 ([Event.mk j33.2.2.1 j33.2.2.2] : List Event)).bind fun l83 =>
        k44 l83)
        (k44 j33.2.1)))
    (some)

noncomputable def spec_l18Events (xb0 : List U8) (xi0 : Int) (xh0 : Int) : Option ((List Event) × Int × Int) :=
  (spec_l01Below xb0 xi0 xh0 20).bind fun t23 =>
  (loopW (ρ := ((List Event) × Int × Int) ⊕ ((List Event) × Int × Int)) (fun (s27 : Int × Int × (List Event) × Int × Int) =>
    (spec_l01Below xb0 s27.2.2.2.1 s27.2.2.2.2 9).bind fun t40 =>
    cond (decide (s27.1 < t40.1))
      ((spec_l01Below xb0 t40.2.1 t40.2.2 4).bind fun t47 =>
      Option.bind (α := (Int × Int × Bool))
        (cond ((w64 (1 + t47.1)) == 4)
          ((spec_l01Once xb0 t47.2.1 t47.2.2 3).bind fun t57 =>
          some (t57.2.1, t57.2.2, !t57.1))
          (some (t47.2.1, t47.2.2, false)))
        fun p51 =>
      joinP (fun (j62 : Int) =>
        (spec_AddEvent s27.2.2.1 (Event.mk j62 s27.2.1)).bind fun t67 =>
        joinP (fun (j76 : Int × Int × (List Event) × Int) =>
          some (.cont (w64 (s27.1 + 1), j76.2.2.2, j76.2.2.1, j76.1, j76.2.1)))
          (fun k78 =>
          cond t67.2
            ((spec_l01Below xb0 p51.1 p51.2.1 20).bind fun t85 =>
            k78 (t85.2.1, t85.2.2, t67.1, w64 ((w64 (s27.2.1 + 1)) + t85.1)))
            (k78 (p51.1, p51.2.1, s27.2.2.1, s27.2.1))))
        (fun k64 =>
        cond p51.2.2
          (k64 1)
          (k64 (w64 (1 + t47.1)))))
      (some (.done (.inl (s27.2.2.1, t40.2.1, t40.2.2)))))
    (0, t23.1, ([] : List Event), t23.2.1, t23.2.2)).bind fun r30 => brkE r30 (fun (j37 : (List Event) × Int × Int) =>
    some (j37.1, j37.2.1, j37.2.2))
    (some)

noncomputable def spec_l22Member (xb0 : List U8) (xi0 : Int) (xh0 : Int) : Option (Member × Int × Int) :=
  (spec_l01Below xb0 xi0 xh0 4).bind fun t21 =>
  (spec_l11Spells xb0 t21.2.1 t21.2.2).bind fun t25 =>
  (spec_l01Below xb0 t25.2.1 t25.2.2 20).bind fun t29 =>
  (spec_l01Below xb0 t29.2.1 t29.2.2 6).bind fun t35 =>
  joinP (fun (j57 : Int × Int × (List Event)) =>
    some (Member.mk t21.1 5 t25.1 j57.2.2, j57.1, j57.2.1))
    (fun k59 =>
    cond (t35.1 == 0)
      ((spec_l01Below xb0 t35.2.1 t35.2.2 30).bind fun t66 =>
      (appC ([Event.mk 1 5, Event.mk 3 (w64 (30 + t29.1))] : List Event) ([Event.mk 4 (w64 (60 + t66.1))] : List Event)).bind fun l72 =>
      k59 (t66.2.1, t66.2.2, l72))
      (cond (t35.1 == 1)
        ((spec_l18Events xb0 t35.2.1 t35.2.2).bind fun t79 =>
        k59 (t79.2.1, t79.2.2, t79.1))
        (k59 (t35.2.1, t35.2.2, ([Event.mk 1 5, Event.mk 3 (w64 (30 + t29.1))] : List Event)))))

noncomputable def spec_l02Abs (x0 : Int) : Option (Int) :=
  cond (decide (x0 < 0))
    (some (w64 (0 - x0)))
    (some x0)

noncomputable def spec_l02Gcd (x0 : Int) (x1 : Int) : Option (Int) :=
  (loopW (ρ := (Int) ⊕ (Int)) (fun (s21 : Int × Int) =>
    cond (s21.2 != 0)
      ((nz s21.2).bind fun _ =>
      some (.cont (s21.2, Int.tmod s21.1 s21.2)))
      (some (.done (.inl s21.1))))
    (x0, x1)).bind fun r24 => brkE r24 (fun (j31 : Int) =>
    some j31)
    (some)

noncomputable def spec_FracOk (x0 : Frac) : Option (Bool) :=
  Option.bind (α := Bool)
    ((spec_l01In x0.Den 1 1000000).bind fun t24 =>
    cond t24
      ((spec_l01In x0.Num (-1000000000000) 1000000000000).bind fun t31 =>
      cond t31
        ((spec_l02Abs x0.Num).bind fun t38 =>
        (spec_l02Gcd t38 x0.Den).bind fun t42 =>
        some (t42 == 1))
        (some false))
      (some false))
    fun p21 =>
  some p21

noncomputable def spec_l02Make (x0 : Int) (x1 : Int) : Option (Frac × Bool) :=
  joinP (fun (j22 : Int × Int) =>
    (spec_l02Abs j22.1).bind fun t27 =>
    (spec_l02Gcd t27 j22.2).bind fun t31 =>
    (nz t31).bind fun _ =>
    (nz t31).bind fun _ =>
    (spec_FracOk (Frac.mk (w64 (Int.tdiv j22.1 t31)) (w64 (Int.tdiv j22.2 t31)))).bind fun t42 =>
    cond (!t42)
      (some (Frac.mk 0 0, false))
      (some (Frac.mk (w64 (Int.tdiv j22.1 t31)) (w64 (Int.tdiv j22.2 t31)), true)))
    (fun k24 =>
    cond (decide (x1 < 0))
      (k24 (w64 (0 - x0), w64 (0 - x1)))
      (k24 (x0, x1)))

noncomputable def spec_FracNew (x0 : Int) (x1 : Int) : Option (Frac × Bool) :=
  Option.bind (α := Bool)
    (cond (x1 == 0)
      (some true)
      ((spec_l01In x0 (-1000000000000) 1000000000000).bind fun t27 =>
      cond (!t27)
        (some true)
        ((spec_l01In x1 (-1000000000000) 1000000000000).bind fun t34 =>
        some (!t34))))
    fun p21 =>
  cond p21
    (some (Frac.mk 0 0, false))
    ((spec_l02Make x0 x1).bind fun t41 =>
    some (t41.1, t41.2))

noncomputable def spec_l22Rule (xb0 : List U8) (xi0 : Int) (xh0 : Int) : Option (Rule × Int × Int) :=
  (spec_l01Below xb0 xi0 xh0 9).bind fun t21 =>
  (spec_FracNew (w64 (1 + t21.1)) 4000).bind fun t25 =>
  (spec_l01Once xb0 t21.2.1 t21.2.2 2).bind fun t31 =>
  joinP (fun (j54 : (List Node) × Int × Int) =>
    (spec_l01Below xb0 j54.2.1 j54.2.2 4).bind fun t59 =>
    (spec_l01Once xb0 t59.2.1 t59.2.2 2).bind fun t63 =>
    joinP (fun (j81 : Int × Int × Int × Int × Int) =>
      some (Rule.mk 1 j81.2.2.1 j81.2.2.2.1 3600 j81.2.2.2.2 (w64 (1 + t59.1)) j54.1, j81.1, j81.2.1))
      (fun k83 =>
      cond t63.1
        ((spec_l01Below xb0 t63.2.1 t63.2.2 60).bind fun t90 =>
        (spec_l01Below xb0 t90.2.1 t90.2.2 60).bind fun t94 =>
        (spec_l01Below xb0 t94.2.1 t94.2.2 3).bind fun t99 =>
        k83 (t99.2.1, t99.2.2, t90.1, w64 ((w64 (t90.1 + 10)) + t94.1), w64 (1 + t99.1)))
        (k83 (t63.2.1, t63.2.2, 0, 3600, 0))))
    (fun k56 =>
    cond t31.1
      ((spec_l01PickInt xb0 t31.2.1 t31.2.2 ([2, 3, 4] : List Int)).bind fun t109 =>
      (spec_l01PickInt xb0 t109.2.1 t109.2.2 ([3, 8, 5] : List Int)).bind fun t115 =>
      (appC ([Node.mk 2 0 0 0 (Frac.mk 0 0), Node.mk 1 0 0 0 t25.1, Node.mk 5 0 1 0 (Frac.mk 0 0), Node.mk 2 1 0 0 (Frac.mk 0 0), Node.mk 5 2 3 0 (Frac.mk 0 0)] : List Node) ([Node.mk 2 t109.1 0 0 (Frac.mk 0 0), Node.mk t115.1 4 5 0 (Frac.mk 0 0)] : List Node)).bind fun l122 =>
      k56 (l122, t115.2.1, t115.2.2))
      (k56 (([Node.mk 2 0 0 0 (Frac.mk 0 0), Node.mk 1 0 0 0 t25.1, Node.mk 5 0 1 0 (Frac.mk 0 0), Node.mk 2 1 0 0 (Frac.mk 0 0), Node.mk 5 2 3 0 (Frac.mk 0 0)] : List Node), t31.2.1, t31.2.2)))

noncomputable def spec_l10Rule (x0 : Rule) : Option (Rule) :=
  (appC ([] : List Node) x0.Nodes).bind fun l24 =>
  some (Rule.mk x0.Name x0.From x0.To x0.Joined x0.Rank x0.Mode l24)

noncomputable def spec_l10Copy (x0 : Book) : Option (Book) :=
  (loopW (ρ := ((List Rule)) ⊕ (Book)) (fun (s21 : Int × (List Rule)) =>
    cond (decide (s21.1 < (x0.Rules.length : Int)))
      ((idx x0.Rules s21.1).bind fun x37 =>
      (spec_l10Rule x37).bind fun t44 =>
      (appC s21.2 ([t44] : List Rule)).bind fun l50 =>
      some (.cont (w64 (s21.1 + 1), l50)))
      (some (.done (.inl s21.2))))
    (0, ([] : List Rule))).bind fun r24 => brkE r24 (fun (j31 : (List Rule)) =>
    some (Book.mk j31))
    (some)

noncomputable def spec_l08Two (x0 : Int) : Option (Bool) :=
  (spec_l01In x0 3 8).bind fun t21 =>
  some t21

noncomputable def spec_l08At (x0 : Int) (x1 : Int) : Option (Bool) :=
  Option.bind (α := Bool)
    (cond (decide (x0 ≥ 0))
      (some (decide (x0 < x1)))
      (some false))
    fun p21 =>
  some p21

noncomputable def spec_NodeOk (x0 : Node) (x1 : Int) : Option (Bool) :=
  cond (x0.Kind == 1)
    (Option.bind (α := Bool)
      (cond (x0.A == 0)
        (cond (x0.B == 0)
          (cond (x0.C == 0)
            ((spec_FracOk x0.Value).bind fun t95 =>
            some t95)
            (some false))
          (some false))
        (some false))
      fun p83 =>
    some p83)
    (cond (!((x0.Value.Num == 0) && ((x0.Value.Den == 0) && true)))
      (some false)
      (cond (x0.Kind == 2)
        (Option.bind (α := Bool)
          ((spec_l01In x0.A 0 7).bind fun t185 =>
          cond t185
            (cond (x0.B == 0)
              (some (x0.C == 0))
              (some false))
            (some false))
          fun p182 =>
        some p182)
        ((spec_l08Two x0.Kind).bind fun t195 =>
        cond t195
          (Option.bind (α := Bool)
            ((spec_l08At x0.A x1).bind fun t222 =>
            cond t222
              ((spec_l08At x0.B x1).bind fun t229 =>
              cond t229
                (some (x0.C == 0))
                (some false))
              (some false))
            fun p219 =>
          some p219)
          (Option.bind (α := Bool)
            (cond (x0.Kind == 9)
              ((spec_l08At x0.A x1).bind fun t242 =>
              cond t242
                ((spec_l08At x0.B x1).bind fun t249 =>
                cond t249
                  ((spec_l08At x0.C x1).bind fun t256 =>
                  some t256)
                  (some false))
                (some false))
              (some false))
            fun p236 =>
          some p236))))

noncomputable def spec_FormulaOk (x0 : List Node) : Option (Bool) :=
  (loopW (ρ := (Unit) ⊕ (Bool)) (fun (s21 : Int) =>
    cond (decide (s21 < (x0.length : Int)))
      ((idx x0 s21).bind fun x41 =>
      (spec_NodeOk x41 s21).bind fun t44 =>
      cond (!t44)
        (some (.done (.inr false)))
        (some (.cont (w64 (s21 + 1)))))
      (some (.done (.inl ()))))
    0).bind fun r24 => brkE r24 (fun (j31 : Unit) =>
    (spec_l01In (x0.length : Int) 1 30).bind fun t33 =>
    some t33)
    (some)

noncomputable def spec_RuleOk (x0 : Rule) : Option (Bool) :=
  Option.bind (α := Bool)
    ((spec_l01In x0.Name 1 20).bind fun t24 =>
    cond t24
      (cond (decide (x0.From ≥ 0))
        (cond (decide (x0.From < x0.To))
          (cond (decide (x0.To ≤ 3600))
            ((spec_l01In x0.Joined 1 3600).bind fun t40 =>
            cond t40
              ((spec_l01In x0.Rank 0 9).bind fun t47 =>
              cond t47
                ((spec_l01In x0.Mode 1 4).bind fun t54 =>
                cond t54
                  ((spec_FormulaOk x0.Nodes).bind fun t61 =>
                  some t61)
                  (some false))
                (some false))
              (some false))
            (some false))
          (some false))
        (some false))
      (some false))
    fun p21 =>
  some p21

noncomputable def spec_l04End (x0 : Int) : Option (Bool) :=
  (spec_l01In x0 0 3600).bind fun t21 =>
  some t21

noncomputable def spec_MonthsIn (x0 : Int) (x1 : Int) (x2 : Int) (x3 : Int) : Option (Int) :=
  Option.bind (α := Bool)
    ((spec_l04End x0).bind fun t24 =>
    cond (!t24)
      (some true)
      ((spec_l04End x1).bind fun t31 =>
      cond (!t31)
        (some true)
        ((spec_l04End x2).bind fun t38 =>
        cond (!t38)
          (some true)
          ((spec_l04End x3).bind fun t45 =>
          some (!t45)))))
    fun p21 =>
  cond p21
    (some 0)
    (some (imax 0 (w64 ((imin x1 x3) - (imax x0 x2)))))

noncomputable def spec_BookOk (x0 : Book) : Option (Bool) :=
  (loopW (ρ := (Unit) ⊕ (Bool)) (fun (s21 : Int) =>
    cond (decide (s21 < (x0.Rules.length : Int)))
      ((idx x0.Rules s21).bind fun x37 =>
      (spec_RuleOk x37).bind fun t44 =>
      cond (!t44)
        (some (.done (.inr false)))
        ((loopW (ρ := (Int × Int × Int × Int × Int × Int × Int) ⊕ (Bool)) (fun (s52 : Int) =>
          cond (decide (s52 < s21))
            ((idx x0.Rules s52).bind fun x68 =>
            Option.bind (α := Bool)
              (cond (x68.Name == x37.Name)
                (cond (x68.Rank == x37.Rank)
                  ((spec_MonthsIn x68.From x68.To x37.From x37.To).bind fun t84 =>
                  some (decide (t84 > 0)))
                  (some false))
                (some false))
              fun p75 =>
            cond p75
              (some (.done (.inr false)))
              (some (.cont (w64 (s52 + 1)))))
            (some (.done (.inl (s21, x37.Name, x37.From, x37.To, x37.Joined, x37.Rank, x37.Mode)))))
          0).bind fun r55 => brkE r55 (fun (j62 : Int × Int × Int × Int × Int × Int × Int) =>
          some (.cont (w64 (j62.1 + 1))))
          (fun v => some (.done (.inr v)))))
      (some (.done (.inl ()))))
    0).bind fun r24 => brkE r24 (fun (j31 : Unit) =>
    some (decide ((x0.Rules.length : Int) ≤ 20)))
    (some)

noncomputable def spec_AddRule (x0 : Book) (x1 : Rule) : Option (Book × Bool) :=
  (spec_l10Copy x0).bind fun t21 =>
  (spec_l10Rule x1).bind fun t25 =>
  (appC t21.Rules ([t25] : List Rule)).bind fun l31 =>
  Option.bind (α := Bool)
    ((spec_BookOk x0).bind fun t38 =>
    cond (!t38)
      (some true)
      ((spec_BookOk (Book.mk l31)).bind fun t45 =>
      some (!t45)))
    fun p35 =>
  cond p35
    ((spec_l10Copy x0).bind fun t56 =>
    some (t56, false))
    (some (Book.mk l31, true))

noncomputable def spec_l22Case (xb0 : List U8) (xi0 : Int) (xh0 : Int) : Option (Case × Int × Int) :=
  (spec_l05Store xb0 xi0 xh0).bind fun t21 =>
  (spec_l07Series xb0 t21.2.1 t21.2.2).bind fun t25 =>
  (spec_l22Member xb0 t25.2.1 t25.2.2).bind fun t29 =>
  (spec_l01Below xb0 t29.2.1 t29.2.2 300).bind fun t33 =>
  (appC ([Fact.mk 1 0 80 0 (w64 (200000 + (w64 (t33.1 * 100))))] : List Fact) t21.1.Facts).bind fun l39 =>
  (loopW (ρ := (Int × Int × Int × Int × (List Rule) × Int × Int) ⊕ (Case × Int × Int)) (fun (s43 : Int × Int × Int × (List Rule)) =>
    (spec_l01Below xb0 s43.2.1 s43.2.2.1 3).bind fun t56 =>
    cond (decide (s43.1 < (w64 (1 + t56.1))))
      ((spec_l22Rule xb0 t56.2.1 t56.2.2).bind fun t63 =>
      (spec_AddRule (Book.mk s43.2.2.2) t63.1).bind fun t67 =>
      some (.cont (w64 (s43.1 + 1), t63.2.1, t63.2.2, t67.1.Rules)))
      (some (.done (.inl (t56.2.1, t56.2.2, 0, 0, s43.2.2.2, t29.1.Birth, t29.1.Joined)))))
    (0, t33.2.1, t33.2.2, ([] : List Rule))).bind fun r46 => brkE r46 (fun (j53 : Int × Int × Int × Int × (List Rule) × Int × Int) =>
    some (Case.mk (Book.mk j53.2.2.2.2.1) (Store.mk l39) t25.1 (Member.mk j53.2.2.2.2.2.1 j53.2.2.2.2.2.2 t29.1.Spells t29.1.Events), j53.1, j53.2.1))
    (some)

noncomputable def spec_l35Rule (xb0 : List U8) (xi0 : Int) (xh0 : Int) : Option (Rule × Int × Int) :=
  (spec_l22Rule xb0 xi0 xh0).bind fun t21 =>
  (spec_l01Below xb0 t21.2.1 t21.2.2 3).bind fun t25 =>
  (spec_l01Once xb0 t25.2.1 t25.2.2 8).bind fun t29 =>
  joinP (fun (j38 : Int × Int × Int) =>
    some (Rule.mk j38.2.2 t21.1.From t21.1.To t21.1.Joined (w64 (4 + t25.1)) t21.1.Mode t21.1.Nodes, j38.1, j38.2.1))
    (fun k40 =>
    cond t29.1
      ((spec_l01Below xb0 t29.2.1 t29.2.2 4).bind fun t47 =>
      k40 (t47.2.1, t47.2.2, t47.1))
      (k40 (t29.2.1, t29.2.2, t21.1.Name)))

noncomputable def spec_DrawProposal (x0 : List U8) : Option (Case × Rule) :=
  (spec_l01New x0).bind fun t21 =>
  (spec_l22Case x0 t21.1 t21.2).bind fun t25 =>
  (spec_l35Rule x0 t25.2.1 t25.2.2).bind fun t29 =>
  some (t25.1, t29.1)

noncomputable def spec_DrawPlaces (x0 : List U8) : Option ((List Int)) :=
  (spec_l01New x0).bind fun t21 =>
  (loopW (ρ := ((List Int)) ⊕ ((List Int))) (fun (s27 : Int × (List Int) × Int × Int) =>
    cond (decide (s27.1 < 12))
      ((spec_l01Below x0 s27.2.2.1 s27.2.2.2 10000).bind fun t43 =>
      (appC s27.2.1 ([t43.1] : List Int)).bind fun l50 =>
      some (.cont (w64 (s27.1 + 1), l50, t43.2.1, t43.2.2)))
      (some (.done (.inl s27.2.1))))
    (0, ([] : List Int), t21.1, t21.2)).bind fun r30 => brkE r30 (fun (j37 : (List Int)) =>
    some j37)
    (some)

noncomputable def slices_Clone_Node (x0 : List Node) : Option ((List Node)) :=
  (appC ([] : List Node) x0).bind fun l27 =>
  some l27

noncomputable def impl_copyNodes (x0 : List Node) : Option ((List Node)) :=
  (slices_Clone_Node x0).bind fun t21 =>
  some t21

noncomputable def impl_copyBook (x0 : Book) : Option (Book) :=
  (loopW (ρ := ((List Rule)) ⊕ (Book)) (fun (s21 : Int × (List Rule)) =>
    cond (decide (s21.1 < (x0.Rules.length : Int)))
      ((idx x0.Rules s21.1).bind fun x37 =>
      (impl_copyNodes x37.Nodes).bind fun t44 =>
      (appC s21.2 ([Rule.mk x37.Name x37.From x37.To x37.Joined x37.Rank x37.Mode t44] : List Rule)).bind fun l51 =>
      some (.cont (w64 (s21.1 + 1), l51)))
      (some (.done (.inl s21.2))))
    (0, ([] : List Rule))).bind fun r24 => brkE r24 (fun (j31 : (List Rule)) =>
    some (Book.mk j31))
    (some)

noncomputable def slices_Clone_Fact (x0 : List Fact) : Option ((List Fact)) :=
  (appC ([] : List Fact) x0).bind fun l27 =>
  some l27

noncomputable def impl_copyStore (x0 : Store) : Option (Store) :=
  (slices_Clone_Fact x0.Facts).bind fun t21 =>
  some (Store.mk t21)

noncomputable def slices_Clone_Point (x0 : List Point) : Option ((List Point)) :=
  (appC ([] : List Point) x0).bind fun l27 =>
  some l27

noncomputable def impl_copySeries (x0 : Series) : Option (Series) :=
  (slices_Clone_Point x0.Points).bind fun t21 =>
  some (Series.mk t21)

noncomputable def slices_Clone_Spell (x0 : List Spell) : Option ((List Spell)) :=
  (appC ([] : List Spell) x0).bind fun l27 =>
  some l27

noncomputable def slices_Clone_Event (x0 : List Event) : Option ((List Event)) :=
  (appC ([] : List Event) x0).bind fun l27 =>
  some l27

noncomputable def impl_copyMember (x0 : Member) : Option (Member) :=
  (slices_Clone_Spell x0.Spells).bind fun t21 =>
  (slices_Clone_Event x0.Events).bind fun t25 =>
  some (Member.mk x0.Birth x0.Joined t21 t25)

noncomputable def impl_copyCase (x0 : Case) : Option (Case) :=
  (impl_copyBook x0.Book).bind fun t21 =>
  (impl_copyStore x0.Store).bind fun t25 =>
  (impl_copySeries x0.Series).bind fun t29 =>
  (impl_copyMember x0.Member).bind fun t33 =>
  some (Case.mk t21 t25 t29 t33)

noncomputable def impl_within (x0 : Int) (x1 : Int) (x2 : Int) : Option (Bool) :=
  Option.bind (α := Bool)
    (cond (decide (x1 ≤ x0))
      (some (decide (x0 ≤ x2)))
      (some false))
    fun p21 =>
  some p21

noncomputable def impl_isSpan (x0 : Int) (x1 : Int) : Option (Bool) :=
  Option.bind (α := Bool)
    (cond (decide (0 ≤ x0))
      (cond (decide (x0 < x1))
        (some (decide (x1 ≤ 3600)))
        (some false))
      (some false))
    fun p21 =>
  some p21

noncomputable def impl_gcd (x0 : Int) (x1 : Int) : Option (Int) :=
  (loopW (ρ := (Int) ⊕ (Int)) (fun (s21 : Int × Int) =>
    cond (s21.2 != 0)
      ((nz s21.2).bind fun _ =>
      some (.cont (s21.2, Int.tmod s21.1 s21.2)))
      (some (.done (.inl s21.1))))
    (x0, x1)).bind fun r24 => brkE r24 (fun (j31 : Int) =>
    some (imax j31 (w64 (0 - j31))))
    (some)

noncomputable def impl_FracOk (x0 : Frac) : Option (Bool) :=
  Option.bind (α := Bool)
    ((impl_within x0.Den 1 1000000).bind fun t24 =>
    cond t24
      ((impl_within x0.Num (-1000000000000) 1000000000000).bind fun t31 =>
      cond t31
        ((impl_gcd x0.Num x0.Den).bind fun t38 =>
        some (t38 == 1))
        (some false))
      (some false))
    fun p21 =>
  some p21

noncomputable def impl_NodeOk (x0 : Node) (x1 : Int) : Option (Bool) :=
  cond (x0.Kind == 1)
    (Option.bind (α := Bool)
      (cond ((x0.Kind == x0.Kind) && ((x0.A == 0) && ((x0.B == 0) && ((x0.C == 0) && (((x0.Value.Num == x0.Value.Num) && ((x0.Value.Den == x0.Value.Den) && true)) && true)))))
        ((impl_FracOk x0.Value).bind fun t60 =>
        some t60)
        (some false))
      fun p54 =>
    some p54)
    (cond (x0.Kind == 2)
      (Option.bind (α := Bool)
        (cond ((x0.Kind == x0.Kind) && ((x0.A == x0.A) && ((x0.B == 0) && ((x0.C == 0) && (((x0.Value.Num == 0) && ((x0.Value.Den == 0) && true)) && true)))))
          ((impl_within x0.A 0 7).bind fun t90 =>
          some t90)
          (some false))
        fun p84 =>
      some p84)
      ((impl_within x0.Kind 3 9).bind fun t94 =>
      cond (!t94)
        (some false)
        (joinP (fun (j103 : Int) =>
          Option.bind (α := Bool)
            (cond ((x0.Kind == x0.Kind) && ((x0.A == x0.A) && ((x0.B == x0.B) && ((x0.C == j103) && (((x0.Value.Num == 0) && ((x0.Value.Den == 0) && true)) && true)))))
              (cond (decide (x1 > 0))
                ((impl_within x0.A 0 (w64 (x1 - 1))).bind fun t117 =>
                cond t117
                  ((impl_within x0.B 0 (w64 (x1 - 1))).bind fun t124 =>
                  cond t124
                    ((impl_within x0.C 0 (w64 (x1 - 1))).bind fun t131 =>
                    some t131)
                    (some false))
                  (some false))
                (some false))
              (some false))
            fun p108 =>
          some p108)
          (fun k105 =>
          cond (x0.Kind == 9)
            (k105 x0.C)
            (k105 0)))))

noncomputable def impl_FormulaOk (x0 : List Node) : Option (Bool) :=
  (loopW (ρ := (Unit) ⊕ (Bool)) (fun (s21 : Int) =>
    cond (decide (s21 < (x0.length : Int)))
      ((idx x0 s21).bind fun x41 =>
      (impl_NodeOk x41 s21).bind fun t44 =>
      cond (!t44)
        (some (.done (.inr false)))
        (some (.cont (w64 (s21 + 1)))))
      (some (.done (.inl ()))))
    0).bind fun r24 => brkE r24 (fun (j31 : Unit) =>
    (impl_within (x0.length : Int) 1 30).bind fun t33 =>
    some t33)
    (some)

noncomputable def impl_RuleOk (x0 : Rule) : Option (Bool) :=
  Option.bind (α := Bool)
    ((impl_within x0.Name 1 20).bind fun t24 =>
    cond t24
      ((impl_isSpan x0.From x0.To).bind fun t31 =>
      cond t31
        ((impl_within x0.Joined 1 3600).bind fun t38 =>
        cond t38
          ((impl_within x0.Rank 0 9).bind fun t45 =>
          cond t45
            ((impl_within x0.Mode 1 4).bind fun t52 =>
            cond t52
              ((impl_FormulaOk x0.Nodes).bind fun t59 =>
              some t59)
              (some false))
            (some false))
          (some false))
        (some false))
      (some false))
    fun p21 =>
  some p21

noncomputable def impl_BookOk (x0 : Book) : Option (Bool) :=
  (loopW (ρ := (Unit) ⊕ (Bool)) (fun (s21 : Int × Int) =>
    cond (decide (s21.1 < s21.2))
      ((idx x0.Rules s21.1).bind fun x37 =>
      (impl_RuleOk x37).bind fun t44 =>
      cond (!t44)
        (some (.done (.inr false)))
        ((headL x0.Rules s21.1).bind fun l52 =>
        (loopW (ρ := (Int × Int × Int × Int × Int × Int × Int × Int) ⊕ (Bool)) (fun (s56 : Int) =>
          cond (decide (s56 < (l52.length : Int)))
            ((idx l52 s56).bind fun x72 =>
            Option.bind (α := Bool)
              (cond (x72.Name == x37.Name)
                (cond (x72.Rank == x37.Rank)
                  (cond (decide (x72.From < x37.To))
                    (some (decide (x37.From < x72.To)))
                    (some false))
                  (some false))
                (some false))
              fun p79 =>
            cond p79
              (some (.done (.inr false)))
              (some (.cont (w64 (s56 + 1)))))
            (some (.done (.inl (s21.1, s21.2, x37.Name, x37.From, x37.To, x37.Joined, x37.Rank, x37.Mode)))))
          0).bind fun r59 => brkE r59 (fun (j66 : Int × Int × Int × Int × Int × Int × Int × Int) =>
          some (.cont (w64 (j66.1 + 1), j66.2.1)))
          (fun v => some (.done (.inr v)))))
      (some (.done (.inl ()))))
    (0, (x0.Rules.length : Int))).bind fun r24 => brkE r24 (fun (j31 : Unit) =>
    some (decide ((x0.Rules.length : Int) ≤ 20)))
    (some)

noncomputable def impl_AddRule (x0 : Book) (x1 : Rule) : Option (Book × Bool) :=
  (impl_copyBook x0).bind fun t21 =>
  (impl_copyNodes x1.Nodes).bind fun t25 =>
  (appC t21.Rules ([Rule.mk x1.Name x1.From x1.To x1.Joined x1.Rank x1.Mode t25] : List Rule)).bind fun l32 =>
  Option.bind (α := Bool)
    ((impl_BookOk x0).bind fun t38 =>
    cond (!t38)
      (some true)
      ((impl_BookOk (Book.mk l32)).bind fun t45 =>
      some (!t45)))
    fun p35 =>
  cond p35
    ((impl_copyBook x0).bind fun t56 =>
    some (t56, false))
    (some (Book.mk l32, true))

noncomputable def impl_WithRule (x0 : Case) (x1 : Rule) : Option (Case × Bool) :=
  (impl_copyCase x0).bind fun t21 =>
  (impl_AddRule x0.Book x1).bind fun t25 =>
  some (Case.mk t25.1 t21.Store t21.Series t21.Member, t25.2)

noncomputable def impl_MonthOk (x0 : Int) : Option (Bool) :=
  (impl_within x0 0 3599).bind fun t21 =>
  some t21

noncomputable def impl_FactOk (x0 : Fact) : Option (Bool) :=
  Option.bind (α := Bool)
    ((impl_within x0.Key 1 50).bind fun t24 =>
    cond t24
      ((impl_isSpan x0.From x0.To).bind fun t31 =>
      cond t31
        ((impl_MonthOk x0.Known).bind fun t38 =>
        cond t38
          ((impl_within x0.Value (-1000000000) 1000000000).bind fun t45 =>
          some t45)
          (some false))
        (some false))
      (some false))
    fun p21 =>
  some p21

noncomputable def impl_StoreOk (x0 : Store) : Option (Bool) :=
  (loopW (ρ := (Unit) ⊕ (Bool)) (fun (s21 : Int) =>
    cond (decide (s21 < (x0.Facts.length : Int)))
      ((idx x0.Facts s21).bind fun x37 =>
      Option.bind (α := Bool)
        ((impl_FactOk x37).bind fun t43 =>
        cond (!t43)
          (some true)
          (cond (decide (s21 > 0))
            ((idx x0.Facts (w64 (s21 - 1))).bind fun x53 =>
            some (decide (x53.Known > x37.Known)))
            (some false)))
        fun p40 =>
      cond p40
        (some (.done (.inr false)))
        (some (.cont (w64 (s21 + 1)))))
      (some (.done (.inl ()))))
    0).bind fun r24 => brkE r24 (fun (j31 : Unit) =>
    some (decide ((x0.Facts.length : Int) ≤ 200)))
    (some)

noncomputable def impl_SeriesOk (x0 : Series) : Option (Bool) :=
  (loopW (ρ := (Unit) ⊕ (Bool)) (fun (s21 : Int) =>
    cond (decide (s21 < (x0.Points.length : Int)))
      ((idx x0.Points s21).bind fun x37 =>
      Option.bind (α := Bool)
        ((impl_MonthOk x37.Month).bind fun t43 =>
        cond (!t43)
          (some true)
          ((impl_MonthOk x37.Known).bind fun t50 =>
          cond (!t50)
            (some true)
            (cond (decide (x37.Known < x37.Month))
              (some true)
              ((impl_within x37.Value 1 1000000).bind fun t60 =>
              cond (!t60)
                (some true)
                (cond (decide (s21 > 0))
                  ((idx x0.Points (w64 (s21 - 1))).bind fun x70 =>
                  some (decide (x70.Known > x37.Known)))
                  (some false))))))
        fun p40 =>
      cond p40
        (some (.done (.inr false)))
        (some (.cont (w64 (s21 + 1)))))
      (some (.done (.inl ()))))
    0).bind fun r24 => brkE r24 (fun (j31 : Unit) =>
    some (decide ((x0.Points.length : Int) ≤ 200)))
    (some)

noncomputable def impl_SpellsOk (x0 : List Spell) : Option (Bool) :=
  (loopW (ρ := (Unit) ⊕ (Bool)) (fun (s21 : Int) =>
    cond (decide (s21 < (x0.length : Int)))
      ((idx x0 s21).bind fun x37 =>
      Option.bind (α := Bool)
        ((impl_isSpan x37.From x37.To).bind fun t43 =>
        cond (!t43)
          (some true)
          ((impl_within x37.Percent 1 100).bind fun t50 =>
          cond (!t50)
            (some true)
            (cond (decide (s21 > 0))
              ((idx x0 (w64 (s21 - 1))).bind fun x60 =>
              some (decide (x37.From < x60.To)))
              (some false))))
        fun p40 =>
      cond p40
        (some (.done (.inr false)))
        (some (.cont (w64 (s21 + 1)))))
      (some (.done (.inl ()))))
    0).bind fun r24 => brkE r24 (fun (j31 : Unit) =>
    some (decide ((x0.length : Int) ≤ 30)))
    (some)

noncomputable def impl_StatusAfter (x0 : Int) (x1 : Int) : Option (Int × Bool) :=
  Option.bind (α := Bool)
    (cond (x1 == 1)
      (cond (x0 == 0)
        (some true)
        (some (x0 == 2)))
      (some false))
    fun p21 =>
  cond p21
    (some (1, true))
    (Option.bind (α := Bool)
      (cond (x1 == 2)
        (some (x0 == 1))
        (some false))
      fun p67 =>
    cond p67
      (some (2, true))
      (Option.bind (α := Bool)
        (cond (x1 == 3)
          (cond (x0 == 1)
            (some true)
            (some (x0 == 2)))
          (some false))
        fun p101 =>
      cond p101
        (some (3, true))
        (Option.bind (α := Bool)
          (cond (x1 == 4)
            ((impl_within x0 1 3).bind fun t132 =>
            some t132)
            (some false))
          fun p126 =>
        cond p126
          (some (4, true))
          (some (x0, false)))))

noncomputable def impl_EventsOk (x0 : List Event) : Option (Bool) :=
  (loopW (ρ := (Unit) ⊕ (Bool)) (fun (s21 : Int × Int) =>
    cond (decide (s21.1 < (x0.length : Int)))
      ((idx x0 s21.1).bind fun x37 =>
      (impl_StatusAfter s21.2 x37.Kind).bind fun t40 =>
      Option.bind (α := Bool)
        (cond (!t40.2)
          (some true)
          ((impl_MonthOk x37.Month).bind fun t50 =>
          cond (!t50)
            (some true)
            (cond (decide (s21.1 > 0))
              ((idx x0 (w64 (s21.1 - 1))).bind fun x60 =>
              some (decide (x60.Month ≥ x37.Month)))
              (some false))))
        fun p44 =>
      cond p44
        (some (.done (.inr false)))
        (some (.cont (w64 (s21.1 + 1), t40.1))))
      (some (.done (.inl ()))))
    (0, 0)).bind fun r24 => brkE r24 (fun (j31 : Unit) =>
    some (decide ((x0.length : Int) ≤ 30)))
    (some)

noncomputable def impl_MemberOk (x0 : Member) : Option (Bool) :=
  Option.bind (α := Bool)
    ((impl_MonthOk x0.Birth).bind fun t24 =>
    cond t24
      ((impl_MonthOk x0.Joined).bind fun t31 =>
      cond t31
        (cond (decide (x0.Birth ≤ x0.Joined))
          ((impl_SpellsOk x0.Spells).bind fun t41 =>
          cond t41
            ((impl_EventsOk x0.Events).bind fun t48 =>
            some t48)
            (some false))
          (some false))
        (some false))
      (some false))
    fun p21 =>
  some p21

noncomputable def impl_CaseOk (x0 : Case) : Option (Bool) :=
  Option.bind (α := Bool)
    ((impl_BookOk x0.Book).bind fun t24 =>
    cond t24
      ((impl_StoreOk x0.Store).bind fun t31 =>
      cond t31
        ((impl_SeriesOk x0.Series).bind fun t38 =>
        cond t38
          ((impl_MemberOk x0.Member).bind fun t45 =>
          some t45)
          (some false))
        (some false))
      (some false))
    fun p21 =>
  some p21

noncomputable def impl_isEnd (x0 : Int) : Option (Bool) :=
  (impl_within x0 0 3600).bind fun t21 =>
  some t21

noncomputable def impl_StatusAt (x0 : List Event) (x1 : Int) : Option (Int) :=
  (impl_EventsOk x0).bind fun t21 =>
  cond (!t21)
    (some 0)
    ((loopW (ρ := (Int) ⊕ (Int)) (fun (s28 : Int × Int) =>
      cond (decide (s28.1 < (x0.length : Int)))
        ((idx x0 s28.1).bind fun x44 =>
        joinP (fun (j52 : Int) =>
          some (.cont (w64 (s28.1 + 1), j52)))
          (fun k54 =>
          cond (decide (x44.Month ≤ x1))
            ((impl_StatusAfter s28.2 x44.Kind).bind fun t61 =>
            k54 t61.1)
            (k54 s28.2)))
        (some (.done (.inl s28.2))))
      (0, 0)).bind fun r31 => brkE r31 (fun (j38 : Int) =>
      some j38)
      (some))

/-- The value of a fact that is asked for. -/
noncomputable def hitFact (k m known : Int) (f : Fact) : Option Int := cond (f.Key == k) (cond (decide (f.From ≤ m)) (cond (decide (m < f.To)) (cond (decide (f.Known ≤ known)) (some f.Value) none) none) none) none

noncomputable def impl_ValueAt (x0 : Store) (x1 x2 x3 : Int) : Option (Int × Bool) :=
  cond (decide ((x0.Facts.length : Int) ≤ 1099511627776)) (some (match x0.Facts.reverse.findSome? (hitFact x1 x2 x3) with
    | some v => (v, true)
    | none => (0, false))) none

noncomputable def impl_FinalPay (x0 : Store) (x1 : Int) (x2 : Int) : Option (Int × Bool) :=
  Option.bind (α := Bool)
    ((impl_StoreOk x0).bind fun t24 =>
    cond (!t24)
      (some true)
      ((impl_isEnd x1).bind fun t31 =>
      some (!t31)))
    fun p21 =>
  cond p21
    (some (0, false))
    ((loopW (ρ := (Unit) ⊕ (Int × Bool)) (fun (s38 : Int) =>
      cond (decide (s38 ≥ 0))
        ((impl_ValueAt x0 1 s38 x2).bind fun t54 =>
        cond t54.2
          (some (.done (.inr (t54.1, true))))
          (some (.cont (w64 (s38 - 1)))))
        (some (.done (.inl ()))))
      (w64 (x1 - 1))).bind fun r41 => brkE r41 (fun (j48 : Unit) =>
      some (0, false))
      (some))

noncomputable def impl_IndexAt (x0 : Series) (x1 : Int) (x2 : Int) : Option (Int × Bool) :=
  (loopW (ρ := (Bool × Int × Int × Int) ⊕ (Int × Bool)) (fun (s21 : Int × Bool × Int × Int × Int) =>
    cond (decide (s21.1 < (x0.Points.length : Int)))
      ((idx x0.Points s21.1).bind fun x37 =>
      Option.bind (α := Bool)
        (cond (decide (x37.Month ≤ x1))
          (cond (decide (x37.Known ≤ x2))
            (cond (!s21.2.1)
              (some true)
              (some (decide (x37.Month ≥ s21.2.2.1))))
            (some false))
          (some false))
        fun p40 =>
      joinP (fun (j53 : Bool × Int × Int × Int) =>
        some (.cont (w64 (s21.1 + 1), j53.1, j53.2.1, j53.2.2.1, j53.2.2.2)))
        (fun k55 =>
        cond p40
          (k55 (true, x37.Month, x37.Known, x37.Value))
          (k55 (s21.2.1, s21.2.2.1, s21.2.2.2.1, s21.2.2.2.2))))
      (some (.done (.inl (s21.2.1, s21.2.2.1, s21.2.2.2.1, s21.2.2.2.2)))))
    (0, false, 0, 0, 0)).bind fun r24 => brkE r24 (fun (j31 : Bool × Int × Int × Int) =>
    some (j31.2.2.2, j31.1))
    (some)

noncomputable def impl_reduced (x0 : Int) (x1 : Int) : Option (Frac × Bool) :=
  joinP (fun (j22 : Int × Int) =>
    (impl_gcd j22.1 j22.2).bind fun t27 =>
    (nz t27).bind fun _ =>
    (nz t27).bind fun _ =>
    (impl_FracOk (Frac.mk (w64 (Int.tdiv j22.1 t27)) (w64 (Int.tdiv j22.2 t27)))).bind fun t38 =>
    cond (!t38)
      (some (Frac.mk 0 0, false))
      (some (Frac.mk (w64 (Int.tdiv j22.1 t27)) (w64 (Int.tdiv j22.2 t27)), true)))
    (fun k24 =>
    cond (decide (x1 < 0))
      (k24 (w64 (0 - x0), w64 (0 - x1)))
      (k24 (x0, x1)))

noncomputable def impl_FracNew (x0 : Int) (x1 : Int) : Option (Frac × Bool) :=
  Option.bind (α := Bool)
    (cond (x1 == 0)
      (some true)
      ((impl_within x0 (-1000000000000) 1000000000000).bind fun t27 =>
      cond (!t27)
        (some true)
        ((impl_within x1 (-1000000000000) 1000000000000).bind fun t34 =>
        some (!t34))))
    fun p21 =>
  cond p21
    (some (Frac.mk 0 0, false))
    ((impl_reduced x0 x1).bind fun t41 =>
    some (t41.1, t41.2))

noncomputable def impl_IndexRatio (x0 : Series) (x1 : Int) (x2 : Int) (x3 : Int) : Option (Frac × Bool) :=
  (impl_IndexAt x0 x1 x3).bind fun t21 =>
  (impl_IndexAt x0 x2 x3).bind fun t25 =>
  Option.bind (α := Bool)
    (cond (!t21.2)
      (some true)
      (some (!t25.2)))
    fun p29 =>
  cond p29
    (some (Frac.mk 0 0, false))
    ((impl_FracNew t25.1 t21.1).bind fun t38 =>
    some (t38.1, t38.2))

/-- The month of an event that is asked for. -/
noncomputable def hitEvent (k : Int) (f : Event) : Option Int := cond (f.Kind == k) (some f.Month) none

noncomputable def impl_MonthOfKind (x0 : List Event) (x1 : Int) : Option Int :=
  (impl_EventsOk x0).bind fun t => cond (!t) (some (-1)) (cond (decide ((x0.length : Int) ≤ 1099511627776)) (some ((x0.reverse.findSome? (hitEvent x1)).getD (-1))) none)

noncomputable def impl_allWithin_1 (x0 : Int) (zf_0 : Int) (zf_1 : Int) : Option (Bool) :=
  (impl_within x0 zf_0 zf_1).bind fun t21 =>
  some (!t21)

noncomputable def slices_IndexFunc_int__impl_allWithin_1 (x0 : List Int) (z1_0 : Int) (z1_1 : Int) : Option (Int) :=
  (loopW (ρ := (Unit) ⊕ (Int)) (fun (s21 : Int) =>
    cond (decide (s21 < (x0.length : Int)))
      ((idx x0 s21).bind fun x37 =>
      (impl_allWithin_1 x37 z1_0 z1_1).bind fun t40 =>
      cond t40
        (some (.done (.inr s21)))
        (some (.cont (w64 (s21 + 1)))))
      (some (.done (.inl ()))))
    0).bind fun r24 => brkE r24 (fun (j31 : Unit) =>
    some (-1))
    (some)

noncomputable def slices_ContainsFunc_int__impl_allWithin_1 (x0 : List Int) (z1_0 : Int) (z1_1 : Int) : Option (Bool) :=
  (slices_IndexFunc_int__impl_allWithin_1 x0 z1_0 z1_1).bind fun t21 =>
  some (decide (t21 ≥ 0))

noncomputable def impl_allWithin (x0 : List Int) (x1 : Int) (x2 : Int) : Option (Bool) :=
  (slices_ContainsFunc_int__impl_allWithin_1 x0 x1 x2).bind fun t21 =>
  some (!t21)

noncomputable def impl_MonthsIn (x0 : Int) (x1 : Int) (x2 : Int) (x3 : Int) : Option (Int) :=
  (impl_allWithin ([x0, x1, x2, x3] : List Int) 0 3600).bind fun t23 =>
  cond (!t23)
    (some 0)
    (some (imax 0 (w64 ((imin x1 x3) - (imax x0 x2)))))

noncomputable def impl_ServiceIn (x0 : List Spell) (x1 : Int) (x2 : Int) : Option (Int) :=
  Option.bind (α := Bool)
    ((impl_SpellsOk x0).bind fun t24 =>
    cond (!t24)
      (some true)
      ((impl_isEnd x1).bind fun t31 =>
      cond (!t31)
        (some true)
        ((impl_isEnd x2).bind fun t38 =>
        some (!t38))))
    fun p21 =>
  cond p21
    (some 0)
    ((loopW (ρ := (Int) ⊕ (Int)) (fun (s45 : Int × Int) =>
      cond (decide (s45.1 < (x0.length : Int)))
        ((idx x0 s45.1).bind fun x61 =>
        joinP (fun (j69 : Int) =>
          some (.cont (w64 (s45.1 + 1), j69)))
          (fun k71 =>
          cond (!x61.Leave)
            ((impl_MonthsIn x1 x2 x61.From x61.To).bind fun t78 =>
            k71 (w64 (s45.2 + (w64 (x61.Percent * t78)))))
            (k71 s45.2)))
        (some (.done (.inl s45.2))))
      (0, 0)).bind fun r48 => brkE r48 (fun (j55 : Int) =>
      some j55)
      (some))

noncomputable def impl_whole (x0 : Int) : Option (Frac) :=
  some (Frac.mk x0 1)

noncomputable def impl_AgeAt (x0 : Int) (x1 : Int) (x2 : Int) : Option (Int) :=
  Option.bind (α := Bool)
    ((impl_MonthOk x0).bind fun t24 =>
    cond (!t24)
      (some true)
      ((impl_MonthOk x1).bind fun t31 =>
      cond (!t31)
        (some true)
        (some (decide (x1 < x0)))))
    fun p21 =>
  cond p21
    (some (-1))
    (cond (x2 == 1)
      (some (w64 (Int.tdiv (w64 (x1 - x0)) 12)))
      (cond (x2 == 2)
        (some (w64 (Int.tdiv (w64 ((w64 (x1 - x0)) + 6)) 12)))
        (cond (x2 == 3)
          (some (w64 ((w64 (Int.tdiv (w64 (x1 - x0)) 12)) + 1)))
          (some (-1)))))

noncomputable def impl_VarsFor_1 (x0 : Frac) : Option (Bool) :=
  (impl_FracOk x0).bind fun t21 =>
  some (!t21)

noncomputable def slices_IndexFunc_Frac__impl_VarsFor_1 (x0 : List Frac) : Option (Int) :=
  (loopW (ρ := (Unit) ⊕ (Int)) (fun (s21 : Int) =>
    cond (decide (s21 < (x0.length : Int)))
      ((idx x0 s21).bind fun x37 =>
      (impl_VarsFor_1 x37).bind fun t40 =>
      cond t40
        (some (.done (.inr s21)))
        (some (.cont (w64 (s21 + 1)))))
      (some (.done (.inl ()))))
    0).bind fun r24 => brkE r24 (fun (j31 : Unit) =>
    some (-1))
    (some)

noncomputable def slices_ContainsFunc_Frac__impl_VarsFor_1 (x0 : List Frac) : Option (Bool) :=
  (slices_IndexFunc_Frac__impl_VarsFor_1 x0).bind fun t21 =>
  some (decide (t21 ≥ 0))

noncomputable def impl_VarsFor (x0 : Case) (x1 : Int) (x2 : Int) : Option ((List Frac) × Bool) :=
  Option.bind (α := Bool)
    ((impl_CaseOk x0).bind fun t24 =>
    cond (!t24)
      (some true)
      ((impl_MonthOk x1).bind fun t31 =>
      cond (!t31)
        (some true)
        ((impl_MonthOk x2).bind fun t38 =>
        cond (!t38)
          (some true)
          (some (decide (x1 < x0.Member.Joined))))))
    fun p21 =>
  cond p21
    (some (([] : List Frac), false))
    ((impl_FinalPay x0.Store x1 x2).bind fun t48 =>
    (impl_IndexRatio x0.Series x0.Member.Joined x1 x2).bind fun t52 =>
    joinP (fun (j57 : Int × Int) =>
      (impl_MonthOfKind x0.Member.Events 3).bind fun t62 =>
      Option.bind (α := Bool)
        (cond (decide (t62 < 0))
          (some true)
          (some (decide (t62 > x1))))
        fun p66 =>
      joinP (fun (j73 : Int) =>
        (impl_ServiceIn x0.Member.Spells 0 x1).bind fun t78 =>
        (impl_reduced t78 100).bind fun t82 =>
        (impl_whole t48.1).bind fun t86 =>
        (impl_AgeAt x0.Member.Birth x1 1).bind fun t90 =>
        (impl_whole t90).bind fun t94 =>
        (impl_whole (w64 (x1 - j73))).bind fun t98 =>
        (impl_whole x1).bind fun t102 =>
        (impl_whole 0).bind fun t106 =>
        (impl_whole 0).bind fun t110 =>
        Option.bind (α := Bool)
          (cond (!t82.2)
            (some true)
            ((slices_ContainsFunc_Frac__impl_VarsFor_1 ([t82.1, t86, t94, Frac.mk j57.1 j57.2, t98, t102, t106, t110] : List Frac)).bind fun t122 =>
            some t122))
          fun p116 =>
        cond p116
          (some (([] : List Frac), false))
          (some (([t82.1, t86, t94, Frac.mk j57.1 j57.2, t98, t102, t106, t110] : List Frac), true)))
        (fun k75 =>
        cond p66
          (k75 x1)
          (k75 t62)))
      (fun k59 =>
      cond (!t52.2)
        (k59 (1, 1))
        (k59 (t52.1.Num, t52.1.Den))))

noncomputable def impl_RuleFor (x0 : Book) (x1 : Int) (x2 : Int) (x3 : Int) : Option (Int) :=
  (loopW (ρ := (Int) ⊕ (Int)) (fun (s21 : Int × Int) =>
    cond (decide (s21.1 < (x0.Rules.length : Int)))
      ((idx x0.Rules s21.1).bind fun x44 =>
      Option.bind (α := Bool)
        (cond (x44.Name == x1)
          (cond (decide (x44.From ≤ x2))
            (cond (decide (x2 < x44.To))
              (cond (decide (x44.Joined > x3))
                (cond (decide (s21.2 < 0))
                  (some true)
                  ((idx x0.Rules s21.2).bind fun x69 =>
                  some (decide (x44.Rank > x69.Rank))))
                (some false))
              (some false))
            (some false))
          (some false))
        fun p51 =>
      joinP (fun (j77 : Int) =>
        some (.cont (w64 (s21.1 + 1), j77)))
        (fun k79 =>
        cond p51
          (k79 s21.1)
          (k79 s21.2)))
      (some (.done (.inl s21.2))))
    (0, (-1))).bind fun r24 => brkE r24 (fun (j31 : Int) =>
    (impl_BookOk x0).bind fun t33 =>
    cond (!t33)
      (some (-1))
      (some j31))
    (some)

noncomputable def impl_EvalAll_1 (x0 : Frac) : Option (Bool) :=
  (impl_FracOk x0).bind fun t21 =>
  some (!t21)

noncomputable def slices_IndexFunc_Frac__impl_EvalAll_1 (x0 : List Frac) : Option (Int) :=
  (loopW (ρ := (Unit) ⊕ (Int)) (fun (s21 : Int) =>
    cond (decide (s21 < (x0.length : Int)))
      ((idx x0 s21).bind fun x37 =>
      (impl_EvalAll_1 x37).bind fun t40 =>
      cond t40
        (some (.done (.inr s21)))
        (some (.cont (w64 (s21 + 1)))))
      (some (.done (.inl ()))))
    0).bind fun r24 => brkE r24 (fun (j31 : Unit) =>
    some (-1))
    (some)

noncomputable def slices_ContainsFunc_Frac__impl_EvalAll_1 (x0 : List Frac) : Option (Bool) :=
  (slices_IndexFunc_Frac__impl_EvalAll_1 x0).bind fun t21 =>
  some (decide (t21 ≥ 0))

noncomputable def cmp_isNaN_int (x0 : Int) : Option (Bool) :=
  some (x0 != x0)

noncomputable def cmp_Compare_int (x0 : Int) (x1 : Int) : Option (Int) :=
  (cmp_isNaN_int x0).bind fun t21 =>
  (cmp_isNaN_int x1).bind fun t25 =>
  cond t21
    (cond t25
      (some 0)
      (some (-1)))
    (cond t25
      (some 1)
      (cond (decide (x0 < x1))
        (some (-1))
        (cond (decide (x0 > x1))
          (some 1)
          (some 0))))

noncomputable def impl_FracCmp (x0 : Frac) (x1 : Frac) : Option (Int) :=
  Option.bind (α := Bool)
    ((impl_FracOk x0).bind fun t24 =>
    cond (!t24)
      (some true)
      ((impl_FracOk x1).bind fun t31 =>
      some (!t31)))
    fun p21 =>
  cond p21
    (some 2)
    ((cmp_Compare_int (w64 (x0.Num * x1.Den)) (w64 (x1.Num * x0.Den))).bind fun t38 =>
    some t38)

noncomputable def impl_FracAdd (x0 : Frac) (x1 : Frac) : Option (Frac × Bool) :=
  Option.bind (α := Bool)
    ((impl_FracOk x0).bind fun t24 =>
    cond (!t24)
      (some true)
      ((impl_FracOk x1).bind fun t31 =>
      some (!t31)))
    fun p21 =>
  cond p21
    (some (Frac.mk 0 0, false))
    ((impl_reduced (w64 ((w64 (x0.Num * x1.Den)) + (w64 (x1.Num * x0.Den)))) (w64 (x0.Den * x1.Den))).bind fun t38 =>
    some (t38.1, t38.2))

noncomputable def impl_FracSub (x0 : Frac) (x1 : Frac) : Option (Frac × Bool) :=
  Option.bind (α := Bool)
    ((impl_FracOk x0).bind fun t24 =>
    cond (!t24)
      (some true)
      ((impl_FracOk x1).bind fun t31 =>
      some (!t31)))
    fun p21 =>
  cond p21
    (some (Frac.mk 0 0, false))
    ((impl_reduced (w64 ((w64 (x0.Num * x1.Den)) - (w64 (x1.Num * x0.Den)))) (w64 (x0.Den * x1.Den))).bind fun t38 =>
    some (t38.1, t38.2))

noncomputable def impl_areFactors (x0 : Frac) (x1 : Frac) : Option (Bool) :=
  Option.bind (α := Bool)
    ((impl_FracOk x0).bind fun t24 =>
    cond t24
      ((impl_FracOk x1).bind fun t31 =>
      cond t31
        ((impl_within x0.Num (-1000000) 1000000).bind fun t38 =>
        cond t38
          ((impl_within x1.Num (-1000000) 1000000).bind fun t45 =>
          some t45)
          (some false))
        (some false))
      (some false))
    fun p21 =>
  some p21

noncomputable def impl_FracMul (x0 : Frac) (x1 : Frac) : Option (Frac × Bool) :=
  (impl_areFactors x0 x1).bind fun t21 =>
  cond (!t21)
    (some (Frac.mk 0 0, false))
    ((impl_reduced (w64 (x0.Num * x1.Num)) (w64 (x0.Den * x1.Den))).bind fun t28 =>
    some (t28.1, t28.2))

noncomputable def impl_FracDiv (x0 : Frac) (x1 : Frac) : Option (Frac × Bool) :=
  Option.bind (α := Bool)
    ((impl_areFactors x0 x1).bind fun t24 =>
    cond (!t24)
      (some true)
      (some (x1.Num == 0)))
    fun p21 =>
  cond p21
    (some (Frac.mk 0 0, false))
    ((impl_reduced (w64 (x0.Num * x1.Den)) (w64 (x0.Den * x1.Num))).bind fun t34 =>
    some (t34.1, t34.2))

noncomputable def impl_evalNode (x0 : Node) (x1 : List Frac) (x2 : List Frac) : Option (Frac × Bool) :=
  cond (x0.Kind == 1)
    (some (x0.Value, true))
    (cond (x0.Kind == 2)
      ((idx x2 x0.A).bind fun x36 =>
      some (x36, true))
      ((idx x1 x0.A).bind fun x39 =>
      (idx x1 x0.B).bind fun x42 =>
      (impl_FracCmp x39 x42).bind fun t46 =>
      joinP (fun (j92 : Unit) =>
        cond (decide (x39.Num > 0))
          (some (x42, true))
          ((idx x1 x0.C).bind fun x100 =>
          some (x100, true)))
        (fun k94 =>
        cond (x0.Kind == 3)
          ((impl_FracAdd x39 x42).bind fun t107 =>
          some (t107.1, t107.2))
          (cond (x0.Kind == 4)
            ((impl_FracSub x39 x42).bind fun t114 =>
            some (t114.1, t114.2))
            (cond (x0.Kind == 5)
              ((impl_FracMul x39 x42).bind fun t121 =>
              some (t121.1, t121.2))
              (cond (x0.Kind == 6)
                ((impl_FracDiv x39 x42).bind fun t128 =>
                some (t128.1, t128.2))
                (joinP (fun (j133 : Bool) =>
                  cond j133
                    (cond ((decide (t46 ≤ 0)) == (x0.Kind == 7))
                      (some (x39, true))
                      (some (x42, true)))
                    (k94 ()))
                  (fun k135 =>
                  cond (x0.Kind == 7)
                    (k135 (x0.Kind == 7))
                    (k135 (x0.Kind == 8))))))))))

noncomputable def impl_EvalAll (x0 : List Node) (x1 : List Frac) : Option ((List Frac) × Bool) :=
  Option.bind (α := Bool)
    ((impl_FormulaOk x0).bind fun t24 =>
    cond (!t24)
      (some true)
      (cond ((x1.length : Int) != 8)
        (some true)
        ((slices_ContainsFunc_Frac__impl_EvalAll_1 x1).bind fun t34 =>
        some t34)))
    fun p21 =>
  cond p21
    (some (([] : List Frac), false))
    ((loopW (ρ := ((List Frac)) ⊕ ((List Frac) × Bool)) (fun (s43 : Int × (List Frac)) =>
      cond (decide (s43.1 < (x0.length : Int)))
        ((idx x0 s43.1).bind fun x59 =>
        (impl_evalNode x59 s43.2 x1).bind fun t62 =>
        cond (!t62.2)
          (some (.done (.inr (([] : List Frac), false))))
          ((appC s43.2 ([t62.1] : List Frac)).bind fun l73 =>
          some (.cont (w64 (s43.1 + 1), l73))))
        (some (.done (.inl s43.2))))
      (0, ([] : List Frac))).bind fun r46 => brkE r46 (fun (j53 : (List Frac)) =>
      some (j53, true))
      (some))

noncomputable def impl_Eval (x0 : List Node) (x1 : List Frac) : Option (Frac × Bool) :=
  (impl_EvalAll x0 x1).bind fun t21 =>
  cond (!t21.2)
    (some (Frac.mk 0 0, false))
    ((idx t21.1 (w64 ((t21.1.length : Int) - 1))).bind fun x28 =>
    some (x28, true))

noncomputable def impl_floorDiv (x0 : Int) (x1 : Int) : Option (Int) :=
  (nz x1).bind fun _ =>
  (nz x1).bind fun _ =>
  joinP (fun (j28 : Int) =>
    some j28)
    (fun k30 =>
    cond (decide ((Int.tmod x0 x1) < 0))
      (k30 (w64 ((w64 (Int.tdiv x0 x1)) - 1)))
      (k30 (w64 (Int.tdiv x0 x1))))

noncomputable def impl_RoundFrac (x0 : Frac) (x1 : Int) : Option (Int × Bool) :=
  Option.bind (α := Bool)
    ((impl_FracOk x0).bind fun t24 =>
    cond (!t24)
      (some true)
      ((impl_within x1 1 4).bind fun t31 =>
      some (!t31)))
    fun p21 =>
  cond p21
    (some (0, false))
    ((impl_floorDiv x0.Num x0.Den).bind fun t38 =>
    joinP (fun (j58 : Bool) =>
      joinP (fun (j64 : Int) =>
        some (j64, true))
        (fun k66 =>
        cond j58
          (k66 (w64 (t38 + 1)))
          (k66 t38)))
      (fun k60 =>
      cond (x1 == 2)
        (k60 (decide ((w64 (x0.Num - (w64 (t38 * x0.Den)))) > 0)))
        (cond (x1 == 3)
          (k60 (decide ((w64 (2 * (w64 (x0.Num - (w64 (t38 * x0.Den)))))) ≥ x0.Den)))
          (cond (x1 == 4)
            (Option.bind (α := Bool)
              (cond (decide ((w64 (2 * (w64 (x0.Num - (w64 (t38 * x0.Den)))))) > x0.Den))
                (some true)
                (cond ((w64 (2 * (w64 (x0.Num - (w64 (t38 * x0.Den)))))) == x0.Den)
                  (some ((Int.tmod t38 2) != 0))
                  (some false)))
              fun p83 =>
            k60 p83)
            (k60 false)))))

noncomputable def impl_Figure (x0 : Book) (x1 : Int) (x2 : Int) (x3 : Int) (x4 : List Frac) : Option (Int × Int × Bool) :=
  (impl_RuleFor x0 x1 x2 x3).bind fun t21 =>
  cond (decide (t21 < 0))
    (some (0, 0, false))
    ((idx x0.Rules t21).bind fun x28 =>
    (impl_Eval x28.Nodes x4).bind fun t35 =>
    (idx x0.Rules t21).bind fun x39 =>
    (impl_RoundFrac t35.1 x39.Mode).bind fun t46 =>
    Option.bind (α := Bool)
      (cond (!t35.2)
        (some true)
        (some (!t46.2)))
      fun p50 =>
    cond p50
      (some (0, 0, false))
      (some (t46.1, t21, true)))

noncomputable def impl_EntitlementAt (x0 : Case) (x1 : Int) (x2 : Int) : Option (Int) :=
  Option.bind (α := Bool)
    ((impl_CaseOk x0).bind fun t24 =>
    cond (!t24)
      (some true)
      ((impl_StatusAt x0.Member.Events x1).bind fun t31 =>
      some (t31 != 3)))
    fun p21 =>
  cond p21
    (some 0)
    ((impl_VarsFor x0 x1 x2).bind fun t38 =>
    (impl_Figure x0.Book 1 x1 x0.Member.Joined t38.1).bind fun t42 =>
    Option.bind (α := Bool)
      (cond (!t38.2)
        (some true)
        (some (!t42.2.2)))
      fun p46 =>
    cond p46
      (some 0)
      (some (imax 0 (imin t42.1 10000000))))

noncomputable def impl_Entitlements (x0 : Case) (x1 : Int) (x2 : Int) (x3 : Int) : Option ((List Int)) :=
  Option.bind (α := Bool)
    ((impl_CaseOk x0).bind fun t24 =>
    cond (!t24)
      (some true)
      ((impl_isEnd x1).bind fun t31 =>
      cond (!t31)
        (some true)
        ((impl_isEnd x2).bind fun t38 =>
        cond (!t38)
          (some true)
          (some (decide (x2 > (w64 (x1 + 240))))))))
    fun p21 =>
  cond p21
    (some ([] : List Int))
    ((loopW (ρ := ((List Int) × Int × Int) ⊕ ((List Int))) (fun (s50 : Int × (List Int)) =>
      cond (decide (s50.1 < x2))
        ((impl_EntitlementAt x0 s50.1 x3).bind fun t66 =>
        (appC s50.2 ([t66] : List Int)).bind fun l73 =>
        some (.cont (w64 (s50.1 + 1), l73)))
        (some (.done (.inl (s50.2, x0.Member.Birth, x0.Member.Joined)))))
      (x1, ([] : List Int))).bind fun r53 => brkE r53 (fun (j60 : (List Int) × Int × Int) =>
      some j60.1)
      (some))

noncomputable def impl_ImpactOf (x0 : Case) (x1 : Rule) (x2 : Int) (x3 : Int) (x4 : Int) : Option ((List Correction)) :=
  (impl_WithRule x0 x1).bind fun t21 =>
  cond (!t21.2)
    (some ([] : List Correction))
    ((impl_Entitlements t21.1 x2 x3 x4).bind fun t30 =>
    (impl_Entitlements x0 x2 x3 x4).bind fun t34 =>
    (loopW (ρ := ((List Correction) × Int × Int × Int × Int × Int × Int × Int × Int × Int × Int) ⊕ ((List Correction))) (fun (s38 : Int × (List Correction)) =>
      cond (decide (s38.1 < (t34.length : Int)))
        ((idx t34 s38.1).bind fun x54 =>
        (idx t30 s38.1).bind fun x57 =>
        joinP (fun (j70 : (List Correction)) =>
          some (.cont (w64 (s38.1 + 1), j70)))
          (fun k72 =>
          cond (x54 != x57)
            ((idx t30 s38.1).bind fun x79 =>
            (appC s38.2 ([Correction.mk (w64 (x2 + s38.1)) x54 x79] : List Correction)).bind fun l85 =>
            k72 l85)
            (k72 s38.2)))
        (some (.done (.inl (s38.2, x0.Member.Birth, x0.Member.Joined, x1.Name, x1.From, x1.To, x1.Joined, x1.Rank, x1.Mode, t21.1.Member.Birth, t21.1.Member.Joined)))))
      (0, ([] : List Correction))).bind fun r41 => brkE r41 (fun (j48 : (List Correction) × Int × Int × Int × Int × Int × Int × Int × Int × Int × Int) =>
      some j48.1)
      (some))

noncomputable def spec_FactOk (x0 : Fact) : Option (Bool) :=
  Option.bind (α := Bool)
    ((spec_l01In x0.Key 1 50).bind fun t24 =>
    cond t24
      (cond (decide (x0.From ≥ 0))
        (cond (decide (x0.From < x0.To))
          (cond (decide (x0.To ≤ 3600))
            ((spec_MonthOk x0.Known).bind fun t40 =>
            cond t40
              ((spec_l01In x0.Value (-1000000000) 1000000000).bind fun t47 =>
              some t47)
              (some false))
            (some false))
          (some false))
        (some false))
      (some false))
    fun p21 =>
  some p21

noncomputable def spec_StoreOk (x0 : Store) : Option (Bool) :=
  (loopW (ρ := (Unit) ⊕ (Bool)) (fun (s21 : Int) =>
    cond (decide (s21 < (x0.Facts.length : Int)))
      (Option.bind (α := Bool)
        ((idx x0.Facts s21).bind fun x40 =>
        (spec_FactOk x40).bind fun t43 =>
        cond (!t43)
          (some true)
          (cond (decide (s21 > 0))
            ((idx x0.Facts (w64 (s21 - 1))).bind fun x53 =>
            (idx x0.Facts s21).bind fun x56 =>
            some (decide (x53.Known > x56.Known)))
            (some false)))
        fun p37 =>
      cond p37
        (some (.done (.inr false)))
        (some (.cont (w64 (s21 + 1)))))
      (some (.done (.inl ()))))
    0).bind fun r24 => brkE r24 (fun (j31 : Unit) =>
    some (decide ((x0.Facts.length : Int) ≤ 200)))
    (some)

noncomputable def spec_SeriesOk (x0 : Series) : Option (Bool) :=
  (loopW (ρ := (Unit) ⊕ (Bool)) (fun (s21 : Int) =>
    cond (decide (s21 < (x0.Points.length : Int)))
      ((idx x0.Points s21).bind fun x37 =>
      Option.bind (α := Bool)
        ((spec_MonthOk x37.Month).bind fun t43 =>
        cond (!t43)
          (some true)
          ((spec_MonthOk x37.Known).bind fun t50 =>
          cond (!t50)
            (some true)
            (cond (decide (x37.Known < x37.Month))
              (some true)
              ((spec_l01In x37.Value 1 1000000).bind fun t60 =>
              cond (!t60)
                (some true)
                (cond (decide (s21 > 0))
                  ((idx x0.Points (w64 (s21 - 1))).bind fun x70 =>
                  some (decide (x70.Known > x37.Known)))
                  (some false))))))
        fun p40 =>
      cond p40
        (some (.done (.inr false)))
        (some (.cont (w64 (s21 + 1)))))
      (some (.done (.inl ()))))
    0).bind fun r24 => brkE r24 (fun (j31 : Unit) =>
    some (decide ((x0.Points.length : Int) ≤ 200)))
    (some)

noncomputable def spec_SpellsOk (x0 : List Spell) : Option (Bool) :=
  (loopW (ρ := (Unit) ⊕ (Bool)) (fun (s21 : Int) =>
    cond (decide (s21 < (x0.length : Int)))
      ((idx x0 s21).bind fun x37 =>
      Option.bind (α := Bool)
        (cond (decide (x37.From < 0))
          (some true)
          (cond (decide (x37.From ≥ x37.To))
            (some true)
            (cond (decide (x37.To > 3600))
              (some true)
              ((spec_l01In x37.Percent 1 100).bind fun t52 =>
              cond (!t52)
                (some true)
                (cond (decide (s21 > 0))
                  ((idx x0 (w64 (s21 - 1))).bind fun x62 =>
                  some (decide (x62.To > x37.From)))
                  (some false))))))
        fun p40 =>
      cond p40
        (some (.done (.inr false)))
        (some (.cont (w64 (s21 + 1)))))
      (some (.done (.inl ()))))
    0).bind fun r24 => brkE r24 (fun (j31 : Unit) =>
    some (decide ((x0.length : Int) ≤ 30)))
    (some)

noncomputable def spec_MemberOk (x0 : Member) : Option (Bool) :=
  Option.bind (α := Bool)
    ((spec_MonthOk x0.Birth).bind fun t24 =>
    cond t24
      ((spec_MonthOk x0.Joined).bind fun t31 =>
      cond t31
        (cond (decide (x0.Birth ≤ x0.Joined))
          ((spec_SpellsOk x0.Spells).bind fun t41 =>
          cond t41
            ((spec_EventsOk x0.Events).bind fun t48 =>
            some t48)
            (some false))
          (some false))
        (some false))
      (some false))
    fun p21 =>
  some p21

noncomputable def spec_CaseOk (x0 : Case) : Option (Bool) :=
  Option.bind (α := Bool)
    ((spec_BookOk x0.Book).bind fun t24 =>
    cond t24
      ((spec_StoreOk x0.Store).bind fun t31 =>
      cond t31
        ((spec_SeriesOk x0.Series).bind fun t38 =>
        cond t38
          ((spec_MemberOk x0.Member).bind fun t45 =>
          some t45)
          (some false))
        (some false))
      (some false))
    fun p21 =>
  some p21

noncomputable def spec_StatusAt (x0 : List Event) (x1 : Int) : Option (Int) :=
  (loopW (ρ := (Int) ⊕ (Int)) (fun (s21 : Int × Int) =>
    Option.bind (α := Bool)
      (cond (decide (s21.1 < (x0.length : Int)))
        ((spec_EventsOk x0).bind fun t40 =>
        cond t40
          ((idx x0 s21.1).bind fun x47 =>
          some (decide (x47.Month ≤ x1)))
          (some false))
        (some false))
      fun p34 =>
    cond p34
      ((idx x0 s21.1).bind fun x53 =>
      (spec_StatusAfter s21.2 x53.Kind).bind fun t56 =>
      some (.cont (w64 (s21.1 + 1), t56.1)))
      (some (.done (.inl s21.2))))
    (0, 0)).bind fun r24 => brkE r24 (fun (j31 : Int) =>
    some j31)
    (some)

noncomputable def spec_ServiceIn (x0 : List Spell) (x1 : Int) (x2 : Int) : Option (Int) :=
  (loopW (ρ := (Int) ⊕ (Int)) (fun (s21 : Int × Int) =>
    Option.bind (α := Bool)
      (cond (decide (s21.1 < (x0.length : Int)))
        ((spec_SpellsOk x0).bind fun t40 =>
        some t40)
        (some false))
      fun p34 =>
    cond p34
      ((idx x0 s21.1).bind fun x47 =>
      joinP (fun (j64 : Int) =>
        some (.cont (w64 (s21.1 + 1), j64)))
        (fun k66 =>
        cond (!x47.Leave)
          ((idx x0 s21.1).bind fun x73 =>
          (idx x0 s21.1).bind fun x76 =>
          (idx x0 s21.1).bind fun x79 =>
          (spec_MonthsIn x76.From x79.To x1 x2).bind fun t82 =>
          k66 (w64 (s21.2 + (w64 (x73.Percent * t82)))))
          (k66 s21.2)))
      (some (.done (.inl s21.2))))
    (0, 0)).bind fun r24 => brkE r24 (fun (j31 : Int) =>
    some j31)
    (some)

noncomputable def spec_ValueAt (x0 : Store) (x1 : Int) (x2 : Int) (x3 : Int) : Option (Int × Bool) :=
  (loopW (ρ := (Unit) ⊕ (Int × Bool)) (fun (s21 : Int) =>
    cond (decide (s21 ≥ 0))
      ((idx x0.Facts s21).bind fun x37 =>
      Option.bind (α := Bool)
        (cond (x37.Key == x1)
          (cond (decide (x37.From ≤ x2))
            (cond (decide (x2 < x37.To))
              (some (decide (x37.Known ≤ x3)))
              (some false))
            (some false))
          (some false))
        fun p40 =>
      cond p40
        (some (.done (.inr (x37.Value, true))))
        (some (.cont (w64 (s21 - 1)))))
      (some (.done (.inl ()))))
    (w64 ((x0.Facts.length : Int) - 1))).bind fun r24 => brkE r24 (fun (j31 : Unit) =>
    some (0, false))
    (some)

noncomputable def spec_FinalPay (x0 : Store) (x1 : Int) (x2 : Int) : Option (Int × Bool) :=
  Option.bind (α := Bool)
    ((spec_StoreOk x0).bind fun t24 =>
    cond (!t24)
      (some true)
      ((spec_l04End x1).bind fun t31 =>
      some (!t31)))
    fun p21 =>
  cond p21
    (some (0, false))
    ((loopW (ρ := (Unit) ⊕ (Int × Bool)) (fun (s38 : Int) =>
      cond (decide (s38 ≥ 0))
        ((spec_ValueAt x0 1 s38 x2).bind fun t54 =>
        cond t54.2
          (some (.done (.inr (t54.1, true))))
          (some (.cont (w64 (s38 - 1)))))
        (some (.done (.inl ()))))
      (w64 (x1 - 1))).bind fun r41 => brkE r41 (fun (j48 : Unit) =>
      some (0, false))
      (some))

noncomputable def spec_IndexAt (x0 : Series) (x1 : Int) (x2 : Int) : Option (Int × Bool) :=
  (loopW (ρ := (Int) ⊕ (Int × Bool)) (fun (s21 : Int × Int) =>
    cond (decide (s21.1 < (x0.Points.length : Int)))
      ((idx x0.Points s21.1).bind fun x43 =>
      Option.bind (α := Bool)
        (cond (decide (x43.Month ≤ x1))
          (cond (decide (x43.Known ≤ x2))
            (cond (decide (s21.2 < 0))
              (some true)
              ((idx x0.Points s21.2).bind fun x58 =>
              some (decide (x43.Month ≥ x58.Month))))
            (some false))
          (some false))
        fun p46 =>
      joinP (fun (j62 : Int) =>
        some (.cont (w64 (s21.1 + 1), j62)))
        (fun k64 =>
        cond p46
          (k64 s21.1)
          (k64 s21.2)))
      (some (.done (.inl s21.2))))
    (0, (-1))).bind fun r24 => brkE r24 (fun (j31 : Int) =>
    cond (decide (j31 < 0))
      (some (0, false))
      ((idx x0.Points j31).bind fun x36 =>
      some (x36.Value, true)))
    (some)

noncomputable def spec_IndexRatio (x0 : Series) (x1 : Int) (x2 : Int) (x3 : Int) : Option (Frac × Bool) :=
  (spec_IndexAt x0 x1 x3).bind fun t21 =>
  (spec_IndexAt x0 x2 x3).bind fun t25 =>
  Option.bind (α := Bool)
    (cond (!t21.2)
      (some true)
      (some (!t25.2)))
    fun p29 =>
  cond p29
    (some (Frac.mk 0 0, false))
    ((spec_FracNew t25.1 t21.1).bind fun t38 =>
    some (t38.1, t38.2))

noncomputable def spec_MonthOfKind (x0 : List Event) (x1 : Int) : Option (Int) :=
  (loopW (ρ := (Int) ⊕ (Int)) (fun (s21 : Int × Int) =>
    Option.bind (α := Bool)
      (cond (decide (s21.1 < (x0.length : Int)))
        ((spec_EventsOk x0).bind fun t40 =>
        some t40)
        (some false))
      fun p34 =>
    cond p34
      ((idx x0 s21.1).bind fun x47 =>
      joinP (fun (j54 : Int) =>
        some (.cont (w64 (s21.1 + 1), j54)))
        (fun k56 =>
        cond (x47.Kind == x1)
          ((idx x0 s21.1).bind fun x63 =>
          k56 x63.Month)
          (k56 s21.2)))
      (some (.done (.inl s21.2))))
    (0, (-1))).bind fun r24 => brkE r24 (fun (j31 : Int) =>
    some j31)
    (some)

noncomputable def spec_AgeAt (x0 : Int) (x1 : Int) (x2 : Int) : Option (Int) :=
  Option.bind (α := Bool)
    ((spec_MonthOk x0).bind fun t24 =>
    cond (!t24)
      (some true)
      ((spec_MonthOk x1).bind fun t31 =>
      cond (!t31)
        (some true)
        (some (decide (x1 < x0)))))
    fun p21 =>
  cond p21
    (some (-1))
    (cond (x2 == 1)
      (some (w64 (Int.tdiv (w64 (x1 - x0)) 12)))
      (cond (x2 == 2)
        (some (w64 (Int.tdiv (w64 ((w64 (x1 - x0)) + 6)) 12)))
        (cond (x2 == 3)
          (some (w64 ((w64 (Int.tdiv (w64 (x1 - x0)) 12)) + 1)))
          (some (-1)))))

noncomputable def spec_l08Vars (x0 : List Frac) : Option (Bool) :=
  (loopW (ρ := (Unit) ⊕ (Bool)) (fun (s21 : Int) =>
    cond (decide (s21 < (x0.length : Int)))
      ((idx x0 s21).bind fun x37 =>
      (spec_FracOk x37).bind fun t40 =>
      cond (!t40)
        (some (.done (.inr false)))
        (some (.cont (w64 (s21 + 1)))))
      (some (.done (.inl ()))))
    0).bind fun r24 => brkE r24 (fun (j31 : Unit) =>
    some ((x0.length : Int) == 8))
    (some)

noncomputable def spec_l22Vars (x0 : Case) (x1 : Int) (x2 : Int) : Option ((List Frac) × Bool) :=
  Option.bind (α := Bool)
    ((spec_MonthOk x1).bind fun t24 =>
    cond (!t24)
      (some true)
      ((spec_MonthOk x2).bind fun t31 =>
      cond (!t31)
        (some true)
        (some (decide (x1 < x0.Member.Joined)))))
    fun p21 =>
  cond p21
    (some (([] : List Frac), false))
    ((spec_ServiceIn x0.Member.Spells 0 x1).bind fun t45 =>
    (spec_FracNew t45 100).bind fun t49 =>
    (spec_FinalPay x0.Store x1 x2).bind fun t53 =>
    (spec_IndexRatio x0.Series x0.Member.Joined x1 x2).bind fun t57 =>
    joinP (fun (j62 : Int × Int) =>
      (spec_MonthOfKind x0.Member.Events 3).bind fun t67 =>
      Option.bind (α := Bool)
        (cond (decide (t67 ≥ 0))
          (some (decide (t67 ≤ x1)))
          (some false))
        fun p71 =>
      joinP (fun (j78 : Int) =>
        (spec_AgeAt x0.Member.Birth x1 1).bind fun t83 =>
        (spec_l08Vars ([t49.1, Frac.mk t53.1 1, Frac.mk t83 1, Frac.mk j62.1 j62.2, Frac.mk j78 1, Frac.mk x1 1, Frac.mk 0 1, Frac.mk 0 1] : List Frac)).bind fun t89 =>
        cond (!t89)
          (some (([] : List Frac), false))
          (some (([t49.1, Frac.mk t53.1 1, Frac.mk t83 1, Frac.mk j62.1 j62.2, Frac.mk j78 1, Frac.mk x1 1, Frac.mk 0 1, Frac.mk 0 1] : List Frac), true)))
        (fun k80 =>
        cond p71
          (k80 (w64 (x1 - t67)))
          (k80 0)))
      (fun k64 =>
      cond (!t57.2)
        (k64 (1, 1))
        (k64 (t57.1.Num, t57.1.Den))))

noncomputable def spec_l10For (x0 : Book) (x1 : Int) (x2 : Int) (x3 : Int) : Option (Int) :=
  (loopW (ρ := (Int) ⊕ (Int)) (fun (s21 : Int × Int) =>
    cond (decide (s21.1 < (x0.Rules.length : Int)))
      ((idx x0.Rules s21.1).bind fun x37 =>
      Option.bind (α := Bool)
        (cond (x37.Name == x1)
          (cond (decide (x37.From ≤ x2))
            (cond (decide (x2 < x37.To))
              (cond (decide (x3 < x37.Joined))
                (cond (decide (s21.2 < 0))
                  (some true)
                  ((idx x0.Rules s21.2).bind fun x62 =>
                  some (decide (x37.Rank > x62.Rank))))
                (some false))
              (some false))
            (some false))
          (some false))
        fun p44 =>
      joinP (fun (j70 : Int) =>
        some (.cont (w64 (s21.1 + 1), j70)))
        (fun k72 =>
        cond p44
          (k72 s21.1)
          (k72 s21.2)))
      (some (.done (.inl s21.2))))
    (0, (-1))).bind fun r24 => brkE r24 (fun (j31 : Int) =>
    some j31)
    (some)

noncomputable def spec_RuleFor (x0 : Book) (x1 : Int) (x2 : Int) (x3 : Int) : Option (Int) :=
  (spec_BookOk x0).bind fun t21 =>
  cond (!t21)
    (some (-1))
    ((spec_l10For x0 x1 x2 x3).bind fun t28 =>
    some t28)

noncomputable def spec_l02Sum (x0 : Frac) (x1 : Frac) (x2 : Int) : Option (Frac × Bool) :=
  Option.bind (α := Bool)
    ((spec_FracOk x0).bind fun t24 =>
    cond (!t24)
      (some true)
      ((spec_FracOk x1).bind fun t31 =>
      some (!t31)))
    fun p21 =>
  cond p21
    (some (Frac.mk 0 0, false))
    ((spec_l02Gcd x0.Den x1.Den).bind fun t38 =>
    (nz t38).bind fun _ =>
    (nz t38).bind fun _ =>
    (nz t38).bind fun _ =>
    (spec_l02Make (w64 ((w64 (x0.Num * (w64 (Int.tdiv x1.Den t38)))) + (w64 ((w64 (x2 * x1.Num)) * (w64 (Int.tdiv x0.Den t38)))))) (w64 ((w64 (Int.tdiv x0.Den t38)) * x1.Den))).bind fun t51 =>
    some (t51.1, t51.2))

noncomputable def spec_FracAdd (x0 : Frac) (x1 : Frac) : Option (Frac × Bool) :=
  (spec_l02Sum x0 x1 1).bind fun t21 =>
  some (t21.1, t21.2)

noncomputable def spec_FracSub (x0 : Frac) (x1 : Frac) : Option (Frac × Bool) :=
  (spec_l02Sum x0 x1 (-1)).bind fun t21 =>
  some (t21.1, t21.2)

noncomputable def spec_l02Small (x0 : Frac) : Option (Bool) :=
  Option.bind (α := Bool)
    ((spec_FracOk x0).bind fun t24 =>
    cond t24
      ((spec_l01In x0.Num (-1000000) 1000000).bind fun t31 =>
      some t31)
      (some false))
    fun p21 =>
  some p21

noncomputable def spec_FracMul (x0 : Frac) (x1 : Frac) : Option (Frac × Bool) :=
  Option.bind (α := Bool)
    ((spec_l02Small x0).bind fun t24 =>
    cond (!t24)
      (some true)
      ((spec_l02Small x1).bind fun t31 =>
      some (!t31)))
    fun p21 =>
  cond p21
    (some (Frac.mk 0 0, false))
    ((spec_l02Make (w64 (x0.Num * x1.Num)) (w64 (x0.Den * x1.Den))).bind fun t38 =>
    some (t38.1, t38.2))

noncomputable def spec_FracDiv (x0 : Frac) (x1 : Frac) : Option (Frac × Bool) :=
  Option.bind (α := Bool)
    ((spec_l02Small x0).bind fun t24 =>
    cond (!t24)
      (some true)
      ((spec_l02Small x1).bind fun t31 =>
      cond (!t31)
        (some true)
        (some (x1.Num == 0))))
    fun p21 =>
  cond p21
    (some (Frac.mk 0 0, false))
    ((spec_l02Make (w64 (x0.Num * x1.Den)) (w64 (x0.Den * x1.Num))).bind fun t41 =>
    some (t41.1, t41.2))

noncomputable def spec_FracCmp (x0 : Frac) (x1 : Frac) : Option (Int) :=
  Option.bind (α := Bool)
    ((spec_FracOk x0).bind fun t24 =>
    cond (!t24)
      (some true)
      ((spec_FracOk x1).bind fun t31 =>
      some (!t31)))
    fun p21 =>
  cond p21
    (some 2)
    (cond (decide ((w64 (x0.Num * x1.Den)) < (w64 (x1.Num * x0.Den))))
      (some (-1))
      (cond (decide ((w64 (x0.Num * x1.Den)) > (w64 (x1.Num * x0.Den))))
        (some 1)
        (some 0)))

noncomputable def spec_l08Value (x0 : Node) (x1 : List Frac) (x2 : List Frac) : Option (Frac × Bool) :=
  cond (x0.Kind == 1)
    (some (x0.Value, true))
    (cond (x0.Kind == 2)
      ((idx x2 x0.A).bind fun x36 =>
      some (x36, true))
      ((idx x1 x0.A).bind fun x39 =>
      (idx x1 x0.B).bind fun x42 =>
      cond (x0.Kind == 3)
        ((spec_FracAdd x39 x42).bind fun t93 =>
        some (t93.1, t93.2))
        (cond (x0.Kind == 4)
          ((spec_FracSub x39 x42).bind fun t138 =>
          some (t138.1, t138.2))
          (cond (x0.Kind == 5)
            ((spec_FracMul x39 x42).bind fun t176 =>
            some (t176.1, t176.2))
            (cond (x0.Kind == 6)
              ((spec_FracDiv x39 x42).bind fun t207 =>
              some (t207.1, t207.2))
              (cond (x0.Kind == 7)
                ((spec_FracCmp x42 x39).bind fun t231 =>
                cond (decide (t231 < 0))
                  (some (x42, true))
                  (some (x39, true)))
                (cond (x0.Kind == 8)
                  ((spec_FracCmp x42 x39).bind fun t248 =>
                  cond (decide (t248 > 0))
                    (some (x42, true))
                    (some (x39, true)))
                  (cond (decide (x39.Num > 0))
                    (some (x42, true))
                    ((idx x1 x0.C).bind fun x258 =>
                    some (x258, true))))))))))

noncomputable def spec_EvalAll (x0 : List Node) (x1 : List Frac) : Option ((List Frac) × Bool) :=
  Option.bind (α := Bool)
    ((spec_FormulaOk x0).bind fun t26 =>
    cond (!t26)
      (some true)
      ((spec_l08Vars x1).bind fun t33 =>
      some (!t33)))
    fun p23 =>
  cond p23
    (some (([] : List Frac), false))
    ((loopW (ρ := ((List Frac)) ⊕ ((List Frac) × Bool)) (fun (s40 : Int × (List Frac)) =>
      cond (decide (s40.1 < (x0.length : Int)))
        ((idx x0 s40.1).bind fun x56 =>
        (spec_l08Value x56 s40.2 x1).bind fun t59 =>
        cond (!t59.2)
          (some (.done (.inr (([] : List Frac), false))))
          ((appC s40.2 ([t59.1] : List Frac)).bind fun l74 =>
          some (.cont (w64 (s40.1 + 1), l74))))
        (some (.done (.inl s40.2))))
      (0, ([] : List Frac))).bind fun r43 => brkE r43 (fun (j50 : (List Frac)) =>
      some (j50, true))
      (some))

noncomputable def spec_Eval (x0 : List Node) (x1 : List Frac) : Option (Frac × Bool) :=
  (spec_EvalAll x0 x1).bind fun t21 =>
  cond (!t21.2)
    (some (Frac.mk 0 0, false))
    ((idx t21.1 (w64 ((t21.1.length : Int) - 1))).bind fun x28 =>
    some (x28, true))

noncomputable def spec_FloorFrac (x0 : Frac) : Option (Int) :=
  (spec_FracOk x0).bind fun t21 =>
  cond (!t21)
    (some 0)
    ((nz x0.Den).bind fun _ =>
    Option.bind (α := Bool)
      (cond (decide (x0.Num < 0))
        ((nz x0.Den).bind fun _ =>
        some ((Int.tmod x0.Num x0.Den) != 0))
        (some false))
      fun p31 =>
    joinP (fun (j41 : Int) =>
      some j41)
      (fun k43 =>
      cond p31
        (k43 (w64 ((w64 (Int.tdiv x0.Num x0.Den)) - 1)))
        (k43 (w64 (Int.tdiv x0.Num x0.Den)))))

noncomputable def spec_RoundFrac (x0 : Frac) (x1 : Int) : Option (Int × Bool) :=
  Option.bind (α := Bool)
    ((spec_FracOk x0).bind fun t24 =>
    cond (!t24)
      (some true)
      ((spec_l01In x1 1 4).bind fun t31 =>
      some (!t31)))
    fun p21 =>
  cond p21
    (some (0, false))
    ((spec_FloorFrac x0).bind fun t38 =>
    joinP (fun (j67 : Int) =>
      some (j67, true))
      (fun k69 =>
      cond (x1 == 2)
        (cond (decide ((w64 (x0.Num - (w64 (t38 * x0.Den)))) > 0))
          (k69 (w64 (t38 + 1)))
          (k69 t38))
        (cond (x1 == 3)
          (cond (decide ((w64 (2 * (w64 (x0.Num - (w64 (t38 * x0.Den)))))) ≥ x0.Den))
            (k69 (w64 (t38 + 1)))
            (k69 t38))
          (cond (x1 == 4)
            (Option.bind (α := Bool)
              (cond (decide ((w64 (2 * (w64 (x0.Num - (w64 (t38 * x0.Den)))))) > x0.Den))
                (some true)
                (cond ((w64 (2 * (w64 (x0.Num - (w64 (t38 * x0.Den)))))) == x0.Den)
                  (some ((and64 t38 1) == 1))
                  (some false)))
              fun p88 =>
            cond p88
              (k69 (w64 (t38 + 1)))
              (k69 t38))
            (k69 t38)))))

noncomputable def spec_Figure (x0 : Book) (x1 : Int) (x2 : Int) (x3 : Int) (x4 : List Frac) : Option (Int × Int × Bool) :=
  (spec_RuleFor x0 x1 x2 x3).bind fun t21 =>
  cond (decide (t21 < 0))
    (some (0, 0, false))
    ((idx x0.Rules t21).bind fun x28 =>
    (spec_Eval x28.Nodes x4).bind fun t35 =>
    cond (!t35.2)
      (some (0, 0, false))
      ((idx x0.Rules t21).bind fun x42 =>
      (spec_RoundFrac t35.1 x42.Mode).bind fun t49 =>
      some (t49.1, t21, true)))

noncomputable def spec_l22At (x0 : Case) (x1 : Int) (x2 : Int) : Option (Int) :=
  (spec_StatusAt x0.Member.Events x1).bind fun t21 =>
  cond (t21 != 3)
    (some 0)
    ((spec_l22Vars x0 x1 x2).bind fun t28 =>
    cond (!t28.2)
      (some 0)
      ((spec_Figure x0.Book 1 x1 x0.Member.Joined t28.1).bind fun t35 =>
      cond (!t35.2.2)
        (some 0)
        (some (imin (imax t35.1 0) 10000000))))

noncomputable def spec_Entitlements (x0 : Case) (x1 : Int) (x2 : Int) (x3 : Int) : Option ((List Int)) :=
  Option.bind (α := Bool)
    ((spec_CaseOk x0).bind fun t26 =>
    cond (!t26)
      (some true)
      ((spec_l04End x1).bind fun t33 =>
      cond (!t33)
        (some true)
        ((spec_l04End x2).bind fun t40 =>
        cond (!t40)
          (some true)
          (some (decide (x2 > (w64 (x1 + 240))))))))
    fun p23 =>
  cond p23
    (some ([] : List Int))
    ((loopW (ρ := ((List Int) × Int × Int) ⊕ ((List Int))) (fun (s50 : Int × (List Int)) =>
      cond (decide (s50.1 < x2))
        ((spec_l22At x0 s50.1 x3).bind fun t66 =>
        (appC s50.2 ([t66] : List Int)).bind fun l73 =>
        some (.cont (w64 (s50.1 + 1), l73)))
        (some (.done (.inl (s50.2, x0.Member.Birth, x0.Member.Joined)))))
      (x1, ([] : List Int))).bind fun r53 => brkE r53 (fun (j60 : (List Int) × Int × Int) =>
      some j60.1)
      (some))

noncomputable def impl_areAmounts (x0 : List Correction) : Option (Bool) :=
  (loopW (ρ := (Unit) ⊕ (Bool)) (fun (s21 : Int) =>
    cond (decide (s21 < (x0.length : Int)))
      ((idx x0 s21).bind fun x37 =>
      Option.bind (α := Bool)
        ((impl_within x37.Old 0 10000000).bind fun t43 =>
        cond (!t43)
          (some true)
          ((impl_within x37.New 0 10000000).bind fun t50 =>
          some (!t50)))
        fun p40 =>
      cond p40
        (some (.done (.inr false)))
        (some (.cont (w64 (s21 + 1)))))
      (some (.done (.inl ()))))
    0).bind fun r24 => brkE r24 (fun (j31 : Unit) =>
    some (decide ((x0.length : Int) ≤ 240)))
    (some)

noncomputable def impl_NetOf (x0 : List Correction) : Option (Int) :=
  (impl_areAmounts x0).bind fun t21 =>
  cond (!t21)
    (some 0)
    ((loopW (ρ := (Int) ⊕ (Int)) (fun (s28 : Int × Int) =>
      cond (decide (s28.1 < (x0.length : Int)))
        ((idx x0 s28.1).bind fun x44 =>
        some (.cont (w64 (s28.1 + 1), w64 (s28.2 + (w64 (x44.New - x44.Old))))))
        (some (.done (.inl s28.2))))
      (0, 0)).bind fun r31 => brkE r31 (fun (j38 : Int) =>
      some j38)
      (some))

noncomputable def impl_CountWinners (x0 : List Case) (x1 : Rule) (x2 : Int) (x3 : Int) (x4 : Int) : Option (Int × Int) :=
  cond (decide ((x0.length : Int) > 20))
    (some (0, 0))
    ((loopW (ρ := (Int × Int × Int × Int × Int × Int × Int × Int) ⊕ (Int × Int)) (fun (s24 : Int × Int × Int) =>
      cond (decide (s24.1 < (x0.length : Int)))
        ((idx x0 s24.1).bind fun x40 =>
        (impl_ImpactOf x40 x1 x2 x3 x4).bind fun t59 =>
        (impl_NetOf t59).bind fun t63 =>
        joinP (fun (j71 : Int × Int) =>
          some (.cont (w64 (s24.1 + 1), j71.1, j71.2)))
          (fun k73 =>
          cond (decide (t63 > 0))
            (k73 (s24.2.1, w64 (s24.2.2 + 1)))
            (cond (decide (t63 < 0))
              (k73 (w64 (s24.2.1 + 1), s24.2.2))
              (k73 (s24.2.1, s24.2.2)))))
        (some (.done (.inl (s24.2.1, s24.2.2, x1.Name, x1.From, x1.To, x1.Joined, x1.Rank, x1.Mode)))))
      (0, 0, 0)).bind fun r27 => brkE r27 (fun (j34 : Int × Int × Int × Int × Int × Int × Int × Int) =>
      some (j34.2.1, j34.1))
      (some))

noncomputable def impl_CostOf (x0 : List Case) (x1 : Rule) (x2 : Int) (x3 : Int) (x4 : Int) : Option (Int) :=
  cond (decide ((x0.length : Int) > 20))
    (some 0)
    ((loopW (ρ := (Int × Int × Int × Int × Int × Int × Int) ⊕ (Int)) (fun (s24 : Int × Int) =>
      cond (decide (s24.1 < (x0.length : Int)))
        ((idx x0 s24.1).bind fun x40 =>
        (impl_ImpactOf x40 x1 x2 x3 x4).bind fun t59 =>
        (impl_NetOf t59).bind fun t63 =>
        some (.cont (w64 (s24.1 + 1), w64 (s24.2 + t63))))
        (some (.done (.inl (s24.2, x1.Name, x1.From, x1.To, x1.Joined, x1.Rank, x1.Mode)))))
      (0, 0)).bind fun r27 => brkE r27 (fun (j34 : Int × Int × Int × Int × Int × Int × Int) =>
      some j34.1)
      (some))

noncomputable def laws_FnSimulated (x0 : List U8) : Option (Bool) :=
  (laws_big x0).bind fun t21 =>
  cond t21
    (some true)
    ((spec_DrawProposal x0).bind fun t28 =>
    (spec_DrawPlaces x0).bind fun t32 =>
    (idx t32 0).bind fun x36 =>
    (impl_WithRule t28.1 t28.2).bind fun t39 =>
    (impl_ImpactOf t28.1 t28.2 20 70 (Int.tmod x36 100)).bind fun t43 =>
    cond (!t39.2)
      (Option.bind (α := Bool)
        (cond ((t43.length : Int) == 0)
          (some ((t39.1.Book.Rules.length : Int) == (t28.1.Book.Rules.length : Int)))
          (some false))
        fun p56 =>
      some p56)
      ((spec_Entitlements t28.1 20 70 (Int.tmod x36 100)).bind fun t62 =>
      (spec_Entitlements t39.1 20 70 (Int.tmod x36 100)).bind fun t66 =>
      (loopW (ρ := (Int × Int) ⊕ (Bool)) (fun (s70 : Int × Int × Int) =>
        Option.bind (α := Bool)
          (cond (decide (s70.1 < (t62.length : Int)))
            (some (decide (s70.1 < (t66.length : Int))))
            (some false))
          fun p111 =>
        cond p111
          ((idx t66 s70.1).bind fun x120 =>
          (idx t62 s70.1).bind fun x123 =>
          (idx t62 s70.1).bind fun x126 =>
          (idx t66 s70.1).bind fun x129 =>
          cond (x126 == x129)
            (some (.cont (w64 (s70.1 + 1), w64 ((w64 (s70.2.1 + x120)) - x123), s70.2.2)))
            (Option.bind (α := Bool)
              (cond (decide (s70.2.2 ≥ (t43.length : Int)))
                (some true)
                ((idx t43 s70.2.2).bind fun x141 =>
                cond (x141.Month != (w64 (20 + s70.1)))
                  (some true)
                  ((idx t43 s70.2.2).bind fun x147 =>
                  (idx t62 s70.1).bind fun x150 =>
                  cond (x147.Old != x150)
                    (some true)
                    ((idx t43 s70.2.2).bind fun x156 =>
                    (idx t66 s70.1).bind fun x159 =>
                    some (x156.New != x159)))))
              fun p135 =>
            cond p135
              (some (.done (.inr false)))
              (some (.cont (w64 (s70.1 + 1), w64 ((w64 (s70.2.1 + x120)) - x123), w64 (s70.2.2 + 1))))))
          (some (.done (.inl (s70.2.1, s70.2.2)))))
        (0, 0, 0)).bind fun r73 => brkE r73 (fun (j80 : Int × Int) =>
        (impl_CountWinners ([t28.1, t28.1] : List Case) t28.2 20 70 (Int.tmod x36 100)).bind fun t83 =>
        (impl_CostOf ([t28.1, t28.1] : List Case) t28.2 20 70 (Int.tmod x36 100)).bind fun t88 =>
        Option.bind (α := Bool)
          (cond ((t66.length : Int) == 50)
            (cond (j80.2 == (t43.length : Int))
              (cond (t88 == (w64 (2 * j80.1)))
                (cond ((t83.1 == 2) == (decide (j80.1 > 0)))
                  (cond ((t83.2 == 2) == (decide (j80.1 < 0)))
                    (some ((t39.1.Book.Rules.length : Int) == (w64 ((t28.1.Book.Rules.length : Int) + 1))))
                    (some false))
                  (some false))
                (some false))
              (some false))
            (some false))
          fun p92 =>
        some p92)
        (some)))
end Go.Pen
