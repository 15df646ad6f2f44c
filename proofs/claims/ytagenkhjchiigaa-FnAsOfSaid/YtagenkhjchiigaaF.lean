/-
  What each Go function computes, as a plain function: written by a program of ours off the loaded program.
-/
import Derived.Test.YtagenkhjchiigaaPenS
import Derived.Test.YtagenkhjchiigaaPenJ
namespace Go.Pen
set_option linter.unusedVariables false
set_option linter.unusedSimpArgs false
set_option maxRecDepth 100000
set_option maxHeartbeats 4000000

noncomputable def laws_big (x0 : List U8) : Option (Bool) :=
  some (decide ((x0.length : Int) > 1048576))

noncomputable def spec_l01New (x0 : List U8) : Option (Int × Int) :=
  (loopW (ρ := (Int) ⊕ (Int × Int)) (fun (s21 : Int × Int) =>
    Option.bind (α := Bool)
      (cond (decide (s21.1 < (x0.length : Int)))
        (some (decide (s21.1 < 4000)))
        (some false))
      fun p35 =>
    cond p35
      ((idx x0 s21.1).bind fun x44 =>
      some (.cont (w64 (s21.1 + 1), and64 (w64 ((w64 ((w64 (s21.2 * 131)) + (w64 x44.n))) + 7)) 1073741823)))
      (some (.done (.inl s21.2))))
    (0, w64 (98011 + (x0.length : Int)))).bind fun r24 => brkE r24 (fun (j31 : Int) =>
    some (0, j31))
    (some)

noncomputable def spec_l01Byte (xb0 : List U8) (xi0 : Int) (xh0 : Int) : Option (Int × Int × Int) :=
  joinP (fun (j25 : Int × Int) =>
    some (j25.1, j25.2, w64 ((w64 (xh0 * 6364136223846793005)) + 1442695040888963407)))
    (fun k27 =>
    cond (decide (xi0 < (xb0.length : Int)))
      ((idx xb0 xi0).bind fun x34 =>
      k27 (and64 (w64 ((and64 (xor64 (Int.fdiv (w64 ((w64 (xh0 * 6364136223846793005)) + 1442695040888963407)) 8589934592) (Int.fdiv (w64 ((w64 (xh0 * 6364136223846793005)) + 1442695040888963407)) 35184372088832)) 255) + (w64 x34.n))) 255, w64 (xi0 + 1)))
      (k27 (and64 (xor64 (Int.fdiv (w64 ((w64 (xh0 * 6364136223846793005)) + 1442695040888963407)) 8589934592) (Int.fdiv (w64 ((w64 (xh0 * 6364136223846793005)) + 1442695040888963407)) 35184372088832)) 255, xi0)))

noncomputable def spec_l01Below (xb0 : List U8) (xi0 : Int) (xh0 : Int) (x1 : Int) : Option (Int × Int × Int) :=
  cond (decide (x1 ≤ 0))
    (some (0, xi0, xh0))
    (cond (decide (x1 ≤ 256))
      ((spec_l01Byte xb0 xi0 xh0).bind fun t34 =>
      (nz x1).bind fun _ =>
      some (Int.tmod t34.1 x1, t34.2.1, t34.2.2))
      ((spec_l01Byte xb0 xi0 xh0).bind fun t41 =>
      (spec_l01Byte xb0 t41.2.1 t41.2.2).bind fun t45 =>
      (spec_l01Byte xb0 t45.2.1 t45.2.2).bind fun t49 =>
      (spec_l01Byte xb0 t49.2.1 t49.2.2).bind fun t53 =>
      (nz x1).bind fun _ =>
      some (Int.tmod (w64 ((w64 ((w64 ((w64 (t41.1 * 16777216)) + (w64 (t45.1 * 65536)))) + (w64 (t49.1 * 256)))) + t53.1)) x1, t53.2.1, t53.2.2)))

noncomputable def spec_l05Fact (xb0 : List U8) (xi0 : Int) (xh0 : Int) (x1 : Int) : Option (Fact × Int × Int) :=
  (spec_l01Below xb0 xi0 xh0 60).bind fun t21 =>
  (spec_l01Below xb0 t21.2.1 t21.2.2 4).bind fun t25 =>
  (spec_l01Below xb0 t25.2.1 t25.2.2 40).bind fun t29 =>
  (spec_l01Below xb0 t29.2.1 t29.2.2 500).bind fun t33 =>
  some (Fact.mk (w64 (1 + t25.1)) t21.1 (w64 ((w64 (t21.1 + 1)) + t29.1)) x1 (w64 (t33.1 * 100)), t33.2.1, t33.2.2)

noncomputable def spec_l05Store (xb0 : List U8) (xi0 : Int) (xh0 : Int) : Option (Store × Int × Int) :=
  (spec_l01Below xb0 xi0 xh0 10).bind fun t21 =>
  (loopW (ρ := (Int × Int × (List Fact)) ⊕ (Store × Int × Int)) (fun (s25 : Int × Int × Int × Int × (List Fact)) =>
    (spec_l01Below xb0 s25.2.2.1 s25.2.2.2.1 10).bind fun t38 =>
    cond (decide (s25.1 < t38.1))
      ((spec_l01Below xb0 t38.2.1 t38.2.2 12).bind fun t45 =>
      (spec_l05Fact xb0 t45.2.1 t45.2.2 (w64 (s25.2.1 + t45.1))).bind fun t49 =>
      (appC s25.2.2.2.2 ([t49.1] : List Fact)).bind fun l55 =>
      some (.cont (w64 (s25.1 + 1), w64 (s25.2.1 + t45.1), t49.2.1, t49.2.2, l55)))
      (some (.done (.inl (t38.2.1, t38.2.2, s25.2.2.2.2)))))
    (0, t21.1, t21.2.1, t21.2.2, ([] : List Fact))).bind fun r28 => brkE r28 (fun (j35 : Int × Int × (List Fact)) =>
    some (Store.mk j35.2.2, j35.1, j35.2.1))
    (some)

noncomputable def spec_l07Series (xb0 : List U8) (xi0 : Int) (xh0 : Int) : Option (Series × Int × Int) :=
  (loopW (ρ := (Int × Int × (List Point)) ⊕ (Series × Int × Int)) (fun (s21 : Int × Int × Int × Int × (List Point)) =>
    (spec_l01Below xb0 s21.2.2.1 s21.2.2.2.1 10).bind fun t34 =>
    cond (decide (s21.1 < t34.1))
      ((spec_l01Below xb0 t34.2.1 t34.2.2 12).bind fun t41 =>
      (spec_l01Below xb0 t41.2.1 t41.2.2 (w64 ((w64 (s21.2.1 + t41.1)) + 1))).bind fun t45 =>
      (spec_l01Below xb0 t45.2.1 t45.2.2 4000).bind fun t49 =>
      (appC s21.2.2.2.2 ([Point.mk t45.1 (w64 (s21.2.1 + t41.1)) (w64 (9000 + t49.1))] : List Point)).bind fun l55 =>
      some (.cont (w64 (s21.1 + 1), w64 (s21.2.1 + t41.1), t49.2.1, t49.2.2, l55)))
      (some (.done (.inl (t34.2.1, t34.2.2, s21.2.2.2.2)))))
    (0, 0, xi0, xh0, ([] : List Point))).bind fun r24 => brkE r24 (fun (j31 : Int × Int × (List Point)) =>
    some (Series.mk j31.2.2, j31.1, j31.2.1))
    (some)

noncomputable def spec_l01PickInt (xb0 : List U8) (xi0 : Int) (xh0 : Int) (x1 : List Int) : Option (Int × Int × Int) :=
  (spec_l01Below xb0 xi0 xh0 (x1.length : Int)).bind fun t21 =>
  (idx x1 t21.1).bind fun x25 =>
  some (x25, t21.2.1, t21.2.2)

noncomputable def spec_l01Once (xb0 : List U8) (xi0 : Int) (xh0 : Int) (x1 : Int) : Option (Bool × Int × Int) :=
  (spec_l01Below xb0 xi0 xh0 x1).bind fun t21 =>
  some (t21.1 == 0, t21.2.1, t21.2.2)

noncomputable def spec_l11Spells (xb0 : List U8) (xi0 : Int) (xh0 : Int) : Option ((List Spell) × Int × Int) :=
  (spec_l01Below xb0 xi0 xh0 20).bind fun t23 =>
  (loopW (ρ := ((List Spell) × Int × Int) ⊕ ((List Spell) × Int × Int)) (fun (s27 : Int × Int × (List Spell) × Int × Int) =>
    (spec_l01Below xb0 s27.2.2.2.1 s27.2.2.2.2 7).bind fun t40 =>
    cond (decide (s27.1 < t40.1))
      ((spec_l01Below xb0 t40.2.1 t40.2.2 8).bind fun t47 =>
      (spec_l01Below xb0 t47.2.1 t47.2.2 2).bind fun t51 =>
      (spec_l01Below xb0 t51.2.1 t51.2.2 30).bind fun t55 =>
      (spec_l01PickInt xb0 t55.2.1 t55.2.2 ([100, 100, 50, 80, 1] : List Int)).bind fun t61 =>
      (spec_l01Once xb0 t61.2.1 t61.2.2 5).bind fun t65 =>
      (appC s27.2.2.1 ([Spell.mk (w64 (s27.2.1 + (w64 (t47.1 * t51.1)))) (w64 ((w64 ((w64 (s27.2.1 + (w64 (t47.1 * t51.1)))) + 1)) + t55.1)) t61.1 t65.1] : List Spell)).bind fun l72 =>
      some (.cont (w64 (s27.1 + 1), w64 ((w64 ((w64 (s27.2.1 + (w64 (t47.1 * t51.1)))) + 1)) + t55.1), l72, t65.2.1, t65.2.2)))
      (some (.done (.inl (s27.2.2.1, t40.2.1, t40.2.2)))))
    (0, t23.1, ([] : List Spell), t23.2.1, t23.2.2)).bind fun r30 => brkE r30 (fun (j37 : (List Spell) × Int × Int) =>
    some (j37.1, j37.2.1, j37.2.2))
    (some)

noncomputable def spec_l01In (x0 : Int) (x1 : Int) (x2 : Int) : Option (Bool) :=
  Option.bind (α := Bool)
    (cond (decide (x0 ≥ x1))
      (some (decide (x0 ≤ x2)))
      (some false))
    fun p21 =>
  some p21

noncomputable def spec_StatusAfter (x0 : Int) (x1 : Int) : Option (Int × Bool) :=
  Option.bind (α := Bool)
    (cond (x1 == 1)
      (cond (x0 == 0)
        (some true)
        (some (x0 == 2)))
      (some false))
    fun p21 =>
  cond p21
    (some (1, true))
    (Option.bind (α := Bool)
      (cond (x1 == 2)
        (some (x0 == 1))
        (some false))
      fun p67 =>
    cond p67
      (some (2, true))
      (Option.bind (α := Bool)
        (cond (x1 == 3)
          (cond (x0 == 1)
            (some true)
            (some (x0 == 2)))
          (some false))
        fun p101 =>
      cond p101
        (some (3, true))
        (Option.bind (α := Bool)
          (cond (x1 == 4)
            ((spec_l01In x0 1 3).bind fun t132 =>
            some t132)
            (some false))
          fun p126 =>
        cond p126
          (some (4, true))
          (some (x0, false)))))

noncomputable def spec_MonthOk (x0 : Int) : Option (Bool) :=
  (spec_l01In x0 0 3599).bind fun t21 =>
  some t21

noncomputable def spec_EventsOk (x0 : List Event) : Option (Bool) :=
  (loopW (ρ := (Unit) ⊕ (Bool)) (fun (s21 : Int × Int) =>
    cond (decide (s21.1 < (x0.length : Int)))
      ((idx x0 s21.1).bind fun x37 =>
      (spec_StatusAfter s21.2 x37.Kind).bind fun t40 =>
      Option.bind (α := Bool)
        (cond (!t40.2)
          (some true)
          ((idx x0 s21.1).bind fun x50 =>
          (spec_MonthOk x50.Month).bind fun t53 =>
          cond (!t53)
            (some true)
            (cond (decide (s21.1 > 0))
              ((idx x0 (w64 (s21.1 - 1))).bind fun x63 =>
              (idx x0 s21.1).bind fun x66 =>
              some (decide (x63.Month ≥ x66.Month)))
              (some false))))
        fun p44 =>
      cond p44
        (some (.done (.inr false)))
        (some (.cont (w64 (s21.1 + 1), t40.1))))
      (some (.done (.inl ()))))
    (0, 0)).bind fun r24 => brkE r24 (fun (j31 : Unit) =>
    some (decide ((x0.length : Int) ≤ 30)))
    (some)

noncomputable def spec_AddEvent (x0 : List Event) (x1 : Event) : Option ((List Event) × Bool) :=
  (loopW (ρ := (Bool × (List Event) × Int × Int) ⊕ ((List Event) × Bool)) (fun (s23 : Int × Bool × (List Event)) =>
    cond (decide (s23.1 < (x0.length : Int)))
      (Option.bind (α := Bool)
        (cond (!s23.2.1)
          ((idx x0 s23.1).bind fun x96 =>
          some (decide (x96.Month > x1.Month)))
          (some false))
        fun p90 =>
      joinP (fun (j106 : (List Event) × Bool) =>
        (idx x0 s23.1).bind fun x111 =>
        (appC j106.1 ([x111] : List Event)).bind fun l117 =>
        some (.cont (w64 (s23.1 + 1), j106.2, l117)))
        (fun k108 =>
        cond p90
          ((appC s23.2.2 ([x1] : List Event)).bind fun l127 =>
          k108 (l127, true))
          (k108 (s23.2.2, s23.2.1))))
      (some (.done (.inl (s23.2.1, s23.2.2, x1.Kind, x1.Month)))))
    (0, false, ([] : List Event))).bind fun r26 => brkE r26 (fun (j33 : Bool × (List Event) × Int × Int) =>
    joinP (fun (j42 : (List Event)) =>
      Option.bind (α := Bool)
        ((spec_EventsOk x0).bind fun t50 =>
        cond (!t50)
          (some true)
          ((spec_EventsOk j42).bind fun t57 =>
          some (!t57)))
        fun p47 =>
      cond p47
        ((appC ([] : List Event) x0).bind fun l73 =>
        some (l73, false))
        (some (j42, true)))
      (fun k44 =>
      cond (!j33.1)
        ((appC j33.2.1 ([Event.mk j33.2.2.1 j33.2.2.2] : List Event)).bind fun l83 =>
        k44 l83)
        (k44 j33.2.1)))
    (some)

noncomputable def spec_l18Events (xb0 : List U8) (xi0 : Int) (xh0 : Int) : Option ((List Event) × Int × Int) :=
  (spec_l01Below xb0 xi0 xh0 20).bind fun t23 =>
  (loopW (ρ := ((List Event) × Int × Int) ⊕ ((List Event) × Int × Int)) (fun (s27 : Int × Int × (List Event) × Int × Int) =>
    (spec_l01Below xb0 s27.2.2.2.1 s27.2.2.2.2 9).bind fun t40 =>
    cond (decide (s27.1 < t40.1))
      ((spec_l01Below xb0 t40.2.1 t40.2.2 4).bind fun t47 =>
      Option.bind (α := (Int × Int × Bool))
        (cond ((w64 (1 + t47.1)) == 4)
          ((spec_l01Once xb0 t47.2.1 t47.2.2 3).bind fun t57 =>
          some (t57.2.1, t57.2.2, !t57.1))
          (some (t47.2.1, t47.2.2, false)))
        fun p51 =>
      joinP (fun (j62 : Int) =>
        (spec_AddEvent s27.2.2.1 (Event.mk j62 s27.2.1)).bind fun t67 =>
        joinP (fun (j76 : Int × Int × (List Event) × Int) =>
          some (.cont (w64 (s27.1 + 1), j76.2.2.2, j76.2.2.1, j76.1, j76.2.1)))
          (fun k78 =>
          cond t67.2
            ((spec_l01Below xb0 p51.1 p51.2.1 20).bind fun t85 =>
            k78 (t85.2.1, t85.2.2, t67.1, w64 ((w64 (s27.2.1 + 1)) + t85.1)))
            (k78 (p51.1, p51.2.1, s27.2.2.1, s27.2.1))))
        (fun k64 =>
        cond p51.2.2
          (k64 1)
          (k64 (w64 (1 + t47.1)))))
      (some (.done (.inl (s27.2.2.1, t40.2.1, t40.2.2)))))
    (0, t23.1, ([] : List Event), t23.2.1, t23.2.2)).bind fun r30 => brkE r30 (fun (j37 : (List Event) × Int × Int) =>
    some (j37.1, j37.2.1, j37.2.2))
    (some)

noncomputable def spec_l22Member (xb0 : List U8) (xi0 : Int) (xh0 : Int) : Option (Member × Int × Int) :=
  (spec_l01Below xb0 xi0 xh0 4).bind fun t21 =>
  (spec_l11Spells xb0 t21.2.1 t21.2.2).bind fun t25 =>
  (spec_l01Below xb0 t25.2.1 t25.2.2 20).bind fun t29 =>
  (spec_l01Below xb0 t29.2.1 t29.2.2 6).bind fun t35 =>
  joinP (fun (j57 : Int × Int × (List Event)) =>
    some (Member.mk t21.1 5 t25.1 j57.2.2, j57.1, j57.2.1))
    (fun k59 =>
    cond (t35.1 == 0)
      ((spec_l01Below xb0 t35.2.1 t35.2.2 30).bind fun t66 =>
      (appC ([Event.mk 1 5, Event.mk 3 (w64 (30 + t29.1))] : List Event) ([Event.mk 4 (w64 (60 + t66.1))] : List Event)).bind fun l72 =>
      k59 (t66.2.1, t66.2.2, l72))
      (cond (t35.1 == 1)
        ((spec_l18Events xb0 t35.2.1 t35.2.2).bind fun t79 =>
        k59 (t79.2.1, t79.2.2, t79.1))
        (k59 (t35.2.1, t35.2.2, ([Event.mk 1 5, Event.mk 3 (w64 (30 + t29.1))] : List Event)))))

noncomputable def spec_l02Abs (x0 : Int) : Option (Int) :=
  cond (decide (x0 < 0))
    (some (w64 (0 - x0)))
    (some x0)

noncomputable def spec_l02Gcd (x0 : Int) (x1 : Int) : Option (Int) :=
  (loopW (ρ := (Int) ⊕ (Int)) (fun (s21 : Int × Int) =>
    cond (s21.2 != 0)
      ((nz s21.2).bind fun _ =>
      some (.cont (s21.2, Int.tmod s21.1 s21.2)))
      (some (.done (.inl s21.1))))
    (x0, x1)).bind fun r24 => brkE r24 (fun (j31 : Int) =>
    some j31)
    (some)

noncomputable def spec_FracOk (x0 : Frac) : Option (Bool) :=
  Option.bind (α := Bool)
    ((spec_l01In x0.Den 1 1000000).bind fun t24 =>
    cond t24
      ((spec_l01In x0.Num (-1000000000000) 1000000000000).bind fun t31 =>
      cond t31
        ((spec_l02Abs x0.Num).bind fun t38 =>
        (spec_l02Gcd t38 x0.Den).bind fun t42 =>
        some (t42 == 1))
        (some false))
      (some false))
    fun p21 =>
  some p21

noncomputable def spec_l02Make (x0 : Int) (x1 : Int) : Option (Frac × Bool) :=
  joinP (fun (j22 : Int × Int) =>
    (spec_l02Abs j22.1).bind fun t27 =>
    (spec_l02Gcd t27 j22.2).bind fun t31 =>
    (nz t31).bind fun _ =>
    (nz t31).bind fun _ =>
    (spec_FracOk (Frac.mk (w64 (Int.tdiv j22.1 t31)) (w64 (Int.tdiv j22.2 t31)))).bind fun t42 =>
    cond (!t42)
      (some (Frac.mk 0 0, false))
      (some (Frac.mk (w64 (Int.tdiv j22.1 t31)) (w64 (Int.tdiv j22.2 t31)), true)))
    (fun k24 =>
    cond (decide (x1 < 0))
      (k24 (w64 (0 - x0), w64 (0 - x1)))
      (k24 (x0, x1)))

noncomputable def spec_FracNew (x0 : Int) (x1 : Int) : Option (Frac × Bool) :=
  Option.bind (α := Bool)
    (cond (x1 == 0)
      (some true)
      ((spec_l01In x0 (-1000000000000) 1000000000000).bind fun t27 =>
      cond (!t27)
        (some true)
        ((spec_l01In x1 (-1000000000000) 1000000000000).bind fun t34 =>
        some (!t34))))
    fun p21 =>
  cond p21
    (some (Frac.mk 0 0, false))
    ((spec_l02Make x0 x1).bind fun t41 =>
    some (t41.1, t41.2))

noncomputable def spec_l22Rule (xb0 : List U8) (xi0 : Int) (xh0 : Int) : Option (Rule × Int × Int) :=
  (spec_l01Below xb0 xi0 xh0 9).bind fun t21 =>
  (spec_FracNew (w64 (1 + t21.1)) 4000).bind fun t25 =>
  (spec_l01Once xb0 t21.2.1 t21.2.2 2).bind fun t31 =>
  joinP (fun (j54 : (List Node) × Int × Int) =>
    (spec_l01Below xb0 j54.2.1 j54.2.2 4).bind fun t59 =>
    (spec_l01Once xb0 t59.2.1 t59.2.2 2).bind fun t63 =>
    joinP (fun (j81 : Int × Int × Int × Int × Int) =>
      some (Rule.mk 1 j81.2.2.1 j81.2.2.2.1 3600 j81.2.2.2.2 (w64 (1 + t59.1)) j54.1, j81.1, j81.2.1))
      (fun k83 =>
      cond t63.1
        ((spec_l01Below xb0 t63.2.1 t63.2.2 60).bind fun t90 =>
        (spec_l01Below xb0 t90.2.1 t90.2.2 60).bind fun t94 =>
        (spec_l01Below xb0 t94.2.1 t94.2.2 3).bind fun t99 =>
        k83 (t99.2.1, t99.2.2, t90.1, w64 ((w64 (t90.1 + 10)) + t94.1), w64 (1 + t99.1)))
        (k83 (t63.2.1, t63.2.2, 0, 3600, 0))))
    (fun k56 =>
    cond t31.1
      ((spec_l01PickInt xb0 t31.2.1 t31.2.2 ([2, 3, 4] : List Int)).bind fun t109 =>
      (spec_l01PickInt xb0 t109.2.1 t109.2.2 ([3, 8, 5] : List Int)).bind fun t115 =>
      (appC ([Node.mk 2 0 0 0 (Frac.mk 0 0), Node.mk 1 0 0 0 t25.1, Node.mk 5 0 1 0 (Frac.mk 0 0), Node.mk 2 1 0 0 (Frac.mk 0 0), Node.mk 5 2 3 0 (Frac.mk 0 0)] : List Node) ([Node.mk 2 t109.1 0 0 (Frac.mk 0 0), Node.mk t115.1 4 5 0 (Frac.mk 0 0)] : List Node)).bind fun l122 =>
      k56 (l122, t115.2.1, t115.2.2))
      (k56 (([Node.mk 2 0 0 0 (Frac.mk 0 0), Node.mk 1 0 0 0 t25.1, Node.mk 5 0 1 0 (Frac.mk 0 0), Node.mk 2 1 0 0 (Frac.mk 0 0), Node.mk 5 2 3 0 (Frac.mk 0 0)] : List Node), t31.2.1, t31.2.2)))

noncomputable def spec_l10Rule (x0 : Rule) : Option (Rule) :=
  (appC ([] : List Node) x0.Nodes).bind fun l24 =>
  some (Rule.mk x0.Name x0.From x0.To x0.Joined x0.Rank x0.Mode l24)

noncomputable def spec_l10Copy (x0 : Book) : Option (Book) :=
  (loopW (ρ := ((List Rule)) ⊕ (Book)) (fun (s21 : Int × (List Rule)) =>
    cond (decide (s21.1 < (x0.Rules.length : Int)))
      ((idx x0.Rules s21.1).bind fun x37 =>
      (spec_l10Rule x37).bind fun t44 =>
      (appC s21.2 ([t44] : List Rule)).bind fun l50 =>
      some (.cont (w64 (s21.1 + 1), l50)))
      (some (.done (.inl s21.2))))
    (0, ([] : List Rule))).bind fun r24 => brkE r24 (fun (j31 : (List Rule)) =>
    some (Book.mk j31))
    (some)

noncomputable def spec_l08Two (x0 : Int) : Option (Bool) :=
  (spec_l01In x0 3 8).bind fun t21 =>
  some t21

noncomputable def spec_l08At (x0 : Int) (x1 : Int) : Option (Bool) :=
  Option.bind (α := Bool)
    (cond (decide (x0 ≥ 0))
      (some (decide (x0 < x1)))
      (some false))
    fun p21 =>
  some p21

noncomputable def spec_NodeOk (x0 : Node) (x1 : Int) : Option (Bool) :=
  cond (x0.Kind == 1)
    (Option.bind (α := Bool)
      (cond (x0.A == 0)
        (cond (x0.B == 0)
          (cond (x0.C == 0)
            ((spec_FracOk x0.Value).bind fun t95 =>
            some t95)
            (some false))
          (some false))
        (some false))
      fun p83 =>
    some p83)
    (cond (!((x0.Value.Num == 0) && ((x0.Value.Den == 0) && true)))
      (some false)
      (cond (x0.Kind == 2)
        (Option.bind (α := Bool)
          ((spec_l01In x0.A 0 7).bind fun t185 =>
          cond t185
            (cond (x0.B == 0)
              (some (x0.C == 0))
              (some false))
            (some false))
          fun p182 =>
        some p182)
        ((spec_l08Two x0.Kind).bind fun t195 =>
        cond t195
          (Option.bind (α := Bool)
            ((spec_l08At x0.A x1).bind fun t222 =>
            cond t222
              ((spec_l08At x0.B x1).bind fun t229 =>
              cond t229
                (some (x0.C == 0))
                (some false))
              (some false))
            fun p219 =>
          some p219)
          (Option.bind (α := Bool)
            (cond (x0.Kind == 9)
              ((spec_l08At x0.A x1).bind fun t242 =>
              cond t242
                ((spec_l08At x0.B x1).bind fun t249 =>
                cond t249
                  ((spec_l08At x0.C x1).bind fun t256 =>
                  some t256)
                  (some false))
                (some false))
              (some false))
            fun p236 =>
          some p236))))

noncomputable def spec_FormulaOk (x0 : List Node) : Option (Bool) :=
  (loopW (ρ := (Unit) ⊕ (Bool)) (fun (s21 : Int) =>
    cond (decide (s21 < (x0.length : Int)))
      ((idx x0 s21).bind fun x41 =>
      (spec_NodeOk x41 s21).bind fun t44 =>
      cond (!t44)
        (some (.done (.inr false)))
        (some (.cont (w64 (s21 + 1)))))
      (some (.done (.inl ()))))
    0).bind fun r24 => brkE r24 (fun (j31 : Unit) =>
    (spec_l01In (x0.length : Int) 1 30).bind fun t33 =>
    some t33)
    (some)

noncomputable def spec_RuleOk (x0 : Rule) : Option (Bool) :=
  Option.bind (α := Bool)
    ((spec_l01In x0.Name 1 20).bind fun t24 =>
    cond t24
      (cond (decide (x0.From ≥ 0))
        (cond (decide (x0.From < x0.To))
          (cond (decide (x0.To ≤ 3600))
            ((spec_l01In x0.Joined 1 3600).bind fun t40 =>
            cond t40
              ((spec_l01In x0.Rank 0 9).bind fun t47 =>
              cond t47
                ((spec_l01In x0.Mode 1 4).bind fun t54 =>
                cond t54
                  ((spec_FormulaOk x0.Nodes).bind fun t61 =>
                  some t61)
                  (some false))
                (some false))
              (some false))
            (some false))
          (some false))
        (some false))
      (some false))
    fun p21 =>
  some p21

noncomputable def spec_l04End (x0 : Int) : Option (Bool) :=
  (spec_l01In x0 0 3600).bind fun t21 =>
  some t21

noncomputable def spec_MonthsIn (x0 : Int) (x1 : Int) (x2 : Int) (x3 : Int) : Option (Int) :=
  Option.bind (α := Bool)
    ((spec_l04End x0).bind fun t24 =>
    cond (!t24)
      (some true)
      ((spec_l04End x1).bind fun t31 =>
      cond (!t31)
        (some true)
        ((spec_l04End x2).bind fun t38 =>
        cond (!t38)
          (some true)
          ((spec_l04End x3).bind fun t45 =>
          some (!t45)))))
    fun p21 =>
  cond p21
    (some 0)
    (some (imax 0 (w64 ((imin x1 x3) - (imax x0 x2)))))

noncomputable def spec_BookOk (x0 : Book) : Option (Bool) :=
  (loopW (ρ := (Unit) ⊕ (Bool)) (fun (s21 : Int) =>
    cond (decide (s21 < (x0.Rules.length : Int)))
      ((idx x0.Rules s21).bind fun x37 =>
      (spec_RuleOk x37).bind fun t44 =>
      cond (!t44)
        (some (.done (.inr false)))
        ((loopW (ρ := (Int × Int × Int × Int × Int × Int × Int) ⊕ (Bool)) (fun (s52 : Int) =>
          cond (decide (s52 < s21))
            ((idx x0.Rules s52).bind fun x68 =>
            Option.bind (α := Bool)
              (cond (x68.Name == x37.Name)
                (cond (x68.Rank == x37.Rank)
                  ((spec_MonthsIn x68.From x68.To x37.From x37.To).bind fun t84 =>
                  some (decide (t84 > 0)))
                  (some false))
                (some false))
              fun p75 =>
            cond p75
              (some (.done (.inr false)))
              (some (.cont (w64 (s52 + 1)))))
            (some (.done (.inl (s21, x37.Name, x37.From, x37.To, x37.Joined, x37.Rank, x37.Mode)))))
          0).bind fun r55 => brkE r55 (fun (j62 : Int × Int × Int × Int × Int × Int × Int) =>
          some (.cont (w64 (j62.1 + 1))))
          (fun v => some (.done (.inr v)))))
      (some (.done (.inl ()))))
    0).bind fun r24 => brkE r24 (fun (j31 : Unit) =>
    some (decide ((x0.Rules.length : Int) ≤ 20)))
    (some)

noncomputable def spec_AddRule (x0 : Book) (x1 : Rule) : Option (Book × Bool) :=
  (spec_l10Copy x0).bind fun t21 =>
  (spec_l10Rule x1).bind fun t25 =>
  (appC t21.Rules ([t25] : List Rule)).bind fun l31 =>
  Option.bind (α := Bool)
    ((spec_BookOk x0).bind fun t38 =>
    cond (!t38)
      (some true)
      ((spec_BookOk (Book.mk l31)).bind fun t45 =>
      some (!t45)))
    fun p35 =>
  cond p35
    ((spec_l10Copy x0).bind fun t56 =>
    some (t56, false))
    (some (Book.mk l31, true))

noncomputable def spec_l22Case (xb0 : List U8) (xi0 : Int) (xh0 : Int) : Option (Case × Int × Int) :=
  (spec_l05Store xb0 xi0 xh0).bind fun t21 =>
  (spec_l07Series xb0 t21.2.1 t21.2.2).bind fun t25 =>
  (spec_l22Member xb0 t25.2.1 t25.2.2).bind fun t29 =>
  (spec_l01Below xb0 t29.2.1 t29.2.2 300).bind fun t33 =>
  (appC ([Fact.mk 1 0 80 0 (w64 (200000 + (w64 (t33.1 * 100))))] : List Fact) t21.1.Facts).bind fun l39 =>
  (loopW (ρ := (Int × Int × Int × Int × (List Rule) × Int × Int) ⊕ (Case × Int × Int)) (fun (s43 : Int × Int × Int × (List Rule)) =>
    (spec_l01Below xb0 s43.2.1 s43.2.2.1 3).bind fun t56 =>
    cond (decide (s43.1 < (w64 (1 + t56.1))))
      ((spec_l22Rule xb0 t56.2.1 t56.2.2).bind fun t63 =>
      (spec_AddRule (Book.mk s43.2.2.2) t63.1).bind fun t67 =>
      some (.cont (w64 (s43.1 + 1), t63.2.1, t63.2.2, t67.1.Rules)))
      (some (.done (.inl (t56.2.1, t56.2.2, 0, 0, s43.2.2.2, t29.1.Birth, t29.1.Joined)))))
    (0, t33.2.1, t33.2.2, ([] : List Rule))).bind fun r46 => brkE r46 (fun (j53 : Int × Int × Int × Int × (List Rule) × Int × Int) =>
    some (Case.mk (Book.mk j53.2.2.2.2.1) (Store.mk l39) t25.1 (Member.mk j53.2.2.2.2.2.1 j53.2.2.2.2.2.2 t29.1.Spells t29.1.Events), j53.1, j53.2.1))
    (some)

noncomputable def spec_DrawCase (x0 : List U8) : Option (Case) :=
  (spec_l01New x0).bind fun t21 =>
  (spec_l22Case x0 t21.1 t21.2).bind fun t25 =>
  some t25.1

noncomputable def spec_DrawPlaces (x0 : List U8) : Option ((List Int)) :=
  (spec_l01New x0).bind fun t21 =>
  (loopW (ρ := ((List Int)) ⊕ ((List Int))) (fun (s27 : Int × (List Int) × Int × Int) =>
    cond (decide (s27.1 < 12))
      ((spec_l01Below x0 s27.2.2.1 s27.2.2.2 10000).bind fun t43 =>
      (appC s27.2.1 ([t43.1] : List Int)).bind fun l50 =>
      some (.cont (w64 (s27.1 + 1), l50, t43.2.1, t43.2.2)))
      (some (.done (.inl s27.2.1))))
    (0, ([] : List Int), t21.1, t21.2)).bind fun r30 => brkE r30 (fun (j37 : (List Int)) =>
    some j37)
    (some)

noncomputable def slices_Clone_Node (x0 : List Node) : Option ((List Node)) :=
  (appC ([] : List Node) x0).bind fun l27 =>
  some l27

noncomputable def impl_copyNodes (x0 : List Node) : Option ((List Node)) :=
  (slices_Clone_Node x0).bind fun t21 =>
  some t21

noncomputable def impl_copyBook (x0 : Book) : Option (Book) :=
  (loopW (ρ := ((List Rule)) ⊕ (Book)) (fun (s21 : Int × (List Rule)) =>
    cond (decide (s21.1 < (x0.Rules.length : Int)))
      ((idx x0.Rules s21.1).bind fun x37 =>
      (impl_copyNodes x37.Nodes).bind fun t44 =>
      (appC s21.2 ([Rule.mk x37.Name x37.From x37.To x37.Joined x37.Rank x37.Mode t44] : List Rule)).bind fun l51 =>
      some (.cont (w64 (s21.1 + 1), l51)))
      (some (.done (.inl s21.2))))
    (0, ([] : List Rule))).bind fun r24 => brkE r24 (fun (j31 : (List Rule)) =>
    some (Book.mk j31))
    (some)

noncomputable def slices_Clone_Fact (x0 : List Fact) : Option ((List Fact)) :=
  (appC ([] : List Fact) x0).bind fun l27 =>
  some l27

noncomputable def impl_copyStore (x0 : Store) : Option (Store) :=
  (slices_Clone_Fact x0.Facts).bind fun t21 =>
  some (Store.mk t21)

noncomputable def slices_Clone_Point (x0 : List Point) : Option ((List Point)) :=
  (appC ([] : List Point) x0).bind fun l27 =>
  some l27

noncomputable def impl_copySeries (x0 : Series) : Option (Series) :=
  (slices_Clone_Point x0.Points).bind fun t21 =>
  some (Series.mk t21)

noncomputable def slices_Clone_Spell (x0 : List Spell) : Option ((List Spell)) :=
  (appC ([] : List Spell) x0).bind fun l27 =>
  some l27

noncomputable def slices_Clone_Event (x0 : List Event) : Option ((List Event)) :=
  (appC ([] : List Event) x0).bind fun l27 =>
  some l27

noncomputable def impl_copyMember (x0 : Member) : Option (Member) :=
  (slices_Clone_Spell x0.Spells).bind fun t21 =>
  (slices_Clone_Event x0.Events).bind fun t25 =>
  some (Member.mk x0.Birth x0.Joined t21 t25)

noncomputable def impl_copyCase (x0 : Case) : Option (Case) :=
  (impl_copyBook x0.Book).bind fun t21 =>
  (impl_copyStore x0.Store).bind fun t25 =>
  (impl_copySeries x0.Series).bind fun t29 =>
  (impl_copyMember x0.Member).bind fun t33 =>
  some (Case.mk t21 t25 t29 t33)

noncomputable def impl_StoreAsOf_1 (x0 : Fact) (zf_0 : Int) : Option (Bool) :=
  some (decide (x0.Known > zf_0))

noncomputable def slices_IndexFunc_Fact__impl_StoreAsOf_1 (x0 : List Fact) (z1_0 : Int) : Option (Int) :=
  (loopW (ρ := (Unit) ⊕ (Int)) (fun (s21 : Int) =>
    cond (decide (s21 < (x0.length : Int)))
      ((idx x0 s21).bind fun x37 =>
      (impl_StoreAsOf_1 x37 z1_0).bind fun t40 =>
      cond t40
        (some (.done (.inr s21)))
        (some (.cont (w64 (s21 + 1)))))
      (some (.done (.inl ()))))
    0).bind fun r24 => brkE r24 (fun (j31 : Unit) =>
    some (-1))
    (some)

noncomputable def slices_DeleteFunc_Fact__impl_StoreAsOf_1 (x0 : List Fact) (z1_0 : Int) : Option ((List Fact)) :=
  (slices_IndexFunc_Fact__impl_StoreAsOf_1 x0 z1_0).bind fun t21 =>
  cond (t21 == (-1))
    (some x0)
    ((loopW (ρ := (Int × (List Fact)) ⊕ ((List Fact))) (fun (s28 : Int × Int × (List Fact)) =>
      cond (decide (s28.1 < (s28.2.2.length : Int)))
        ((idx s28.2.2 s28.1).bind fun x51 =>
        (impl_StoreAsOf_1 x51 z1_0).bind fun t54 =>
        joinP (fun (j66 : Int × (List Fact)) =>
          some (.cont (w64 (s28.1 + 1), j66.1, j66.2)))
          (fun k68 =>
          cond (!t54)
            ((idx s28.2.2 s28.2.1).bind fun x75 =>
            (some (List.set s28.2.2 (Int.toNat s28.2.1) x51)).bind fun l78 =>
            k68 (w64 (s28.2.1 + 1), l78))
            (k68 (s28.2.1, s28.2.2))))
        (some (.done (.inl (s28.2.1, s28.2.2)))))
      (w64 (t21 + 1), t21, x0)).bind fun r31 => brkE r31 (fun (j38 : Int × (List Fact)) =>
      (zeroTail j38.2 j38.1 (Fact.mk 0 0 0 0 0 : Fact)).bind fun l40 =>
      (headL l40 j38.1).bind fun l44 =>
      some l44)
      (some))

noncomputable def impl_StoreAsOf (x0 : Store) (x1 : Int) : Option (Store) :=
  (slices_Clone_Fact x0.Facts).bind fun t21 =>
  (slices_DeleteFunc_Fact__impl_StoreAsOf_1 t21 x1).bind fun t25 =>
  some (Store.mk t25)

noncomputable def impl_SeriesAsOf_1 (x0 : Point) (zf_0 : Int) : Option (Bool) :=
  some (decide (x0.Known > zf_0))

noncomputable def slices_IndexFunc_Point__impl_SeriesAsOf_1 (x0 : List Point) (z1_0 : Int) : Option (Int) :=
  (loopW (ρ := (Unit) ⊕ (Int)) (fun (s21 : Int) =>
    cond (decide (s21 < (x0.length : Int)))
      ((idx x0 s21).bind fun x37 =>
      (impl_SeriesAsOf_1 x37 z1_0).bind fun t40 =>
      cond t40
        (some (.done (.inr s21)))
        (some (.cont (w64 (s21 + 1)))))
      (some (.done (.inl ()))))
    0).bind fun r24 => brkE r24 (fun (j31 : Unit) =>
    some (-1))
    (some)

noncomputable def slices_DeleteFunc_Point__impl_SeriesAsOf_1 (x0 : List Point) (z1_0 : Int) : Option ((List Point)) :=
  (slices_IndexFunc_Point__impl_SeriesAsOf_1 x0 z1_0).bind fun t21 =>
  cond (t21 == (-1))
    (some x0)
    ((loopW (ρ := (Int × (List Point)) ⊕ ((List Point))) (fun (s28 : Int × Int × (List Point)) =>
      cond (decide (s28.1 < (s28.2.2.length : Int)))
        ((idx s28.2.2 s28.1).bind fun x51 =>
        (impl_SeriesAsOf_1 x51 z1_0).bind fun t54 =>
        joinP (fun (j66 : Int × (List Point)) =>
          some (.cont (w64 (s28.1 + 1), j66.1, j66.2)))
          (fun k68 =>
          cond (!t54)
            ((idx s28.2.2 s28.2.1).bind fun x75 =>
            (some (List.set s28.2.2 (Int.toNat s28.2.1) x51)).bind fun l78 =>
            k68 (w64 (s28.2.1 + 1), l78))
            (k68 (s28.2.1, s28.2.2))))
        (some (.done (.inl (s28.2.1, s28.2.2)))))
      (w64 (t21 + 1), t21, x0)).bind fun r31 => brkE r31 (fun (j38 : Int × (List Point)) =>
      (zeroTail j38.2 j38.1 (Point.mk 0 0 0 : Point)).bind fun l40 =>
      (headL l40 j38.1).bind fun l44 =>
      some l44)
      (some))

noncomputable def impl_SeriesAsOf (x0 : Series) (x1 : Int) : Option (Series) :=
  (slices_Clone_Point x0.Points).bind fun t21 =>
  (slices_DeleteFunc_Point__impl_SeriesAsOf_1 t21 x1).bind fun t25 =>
  some (Series.mk t25)

noncomputable def impl_CaseAsOf (x0 : Case) (x1 : Int) : Option (Case) :=
  (impl_copyCase x0).bind fun t21 =>
  (impl_StoreAsOf x0.Store x1).bind fun t25 =>
  (impl_SeriesAsOf x0.Series x1).bind fun t29 =>
  some (Case.mk t21.Book t25 t29 t21.Member)

noncomputable def laws_sameFacts (x0 : List Fact) (x1 : List Fact) : Option (Bool) :=
  cond ((x0.length : Int) != (x1.length : Int))
    (some false)
    ((loopW (ρ := (Unit) ⊕ (Bool)) (fun (s24 : Int) =>
      cond (decide (s24 < (x0.length : Int)))
        ((idx x0 s24).bind fun x40 =>
        (idx x1 s24).bind fun x43 =>
        cond (!((x40.Key == x43.Key) && ((x40.From == x43.From) && ((x40.To == x43.To) && ((x40.Known == x43.Known) && ((x40.Value == x43.Value) && true))))))
          (some (.done (.inr false)))
          (some (.cont (w64 (s24 + 1)))))
        (some (.done (.inl ()))))
      0).bind fun r27 => brkE r27 (fun (j34 : Unit) =>
      some true)
      (some))

noncomputable def laws_samePoints (x0 : List Point) (x1 : List Point) : Option (Bool) :=
  cond ((x0.length : Int) != (x1.length : Int))
    (some false)
    ((loopW (ρ := (Unit) ⊕ (Bool)) (fun (s24 : Int) =>
      cond (decide (s24 < (x0.length : Int)))
        ((idx x0 s24).bind fun x40 =>
        (idx x1 s24).bind fun x43 =>
        cond (!((x40.Month == x43.Month) && ((x40.Known == x43.Known) && ((x40.Value == x43.Value) && true))))
          (some (.done (.inr false)))
          (some (.cont (w64 (s24 + 1)))))
        (some (.done (.inl ()))))
      0).bind fun r27 => brkE r27 (fun (j34 : Unit) =>
      some true)
      (some))

noncomputable def impl_within (x0 : Int) (x1 : Int) (x2 : Int) : Option (Bool) :=
  Option.bind (α := Bool)
    (cond (decide (x1 ≤ x0))
      (some (decide (x0 ≤ x2)))
      (some false))
    fun p21 =>
  some p21

noncomputable def impl_MonthOk (x0 : Int) : Option (Bool) :=
  (impl_within x0 0 3599).bind fun t21 =>
  some t21

noncomputable def impl_SeriesOk (x0 : Series) : Option (Bool) :=
  (loopW (ρ := (Unit) ⊕ (Bool)) (fun (s21 : Int) =>
    cond (decide (s21 < (x0.Points.length : Int)))
      ((idx x0.Points s21).bind fun x37 =>
      Option.bind (α := Bool)
        ((impl_MonthOk x37.Month).bind fun t43 =>
        cond (!t43)
          (some true)
          ((impl_MonthOk x37.Known).bind fun t50 =>
          cond (!t50)
            (some true)
            (cond (decide (x37.Known < x37.Month))
              (some true)
              ((impl_within x37.Value 1 1000000).bind fun t60 =>
              cond (!t60)
                (some true)
                (cond (decide (s21 > 0))
                  ((idx x0.Points (w64 (s21 - 1))).bind fun x70 =>
                  some (decide (x70.Known > x37.Known)))
                  (some false))))))
        fun p40 =>
      cond p40
        (some (.done (.inr false)))
        (some (.cont (w64 (s21 + 1)))))
      (some (.done (.inl ()))))
    0).bind fun r24 => brkE r24 (fun (j31 : Unit) =>
    some (decide ((x0.Points.length : Int) ≤ 200)))
    (some)

noncomputable def impl_isSpan (x0 : Int) (x1 : Int) : Option (Bool) :=
  Option.bind (α := Bool)
    (cond (decide (0 ≤ x0))
      (cond (decide (x0 < x1))
        (some (decide (x1 ≤ 3600)))
        (some false))
      (some false))
    fun p21 =>
  some p21

noncomputable def impl_gcd (x0 : Int) (x1 : Int) : Option (Int) :=
  (loopW (ρ := (Int) ⊕ (Int)) (fun (s21 : Int × Int) =>
    cond (s21.2 != 0)
      ((nz s21.2).bind fun _ =>
      some (.cont (s21.2, Int.tmod s21.1 s21.2)))
      (some (.done (.inl s21.1))))
    (x0, x1)).bind fun r24 => brkE r24 (fun (j31 : Int) =>
    some (imax j31 (w64 (0 - j31))))
    (some)

noncomputable def impl_FracOk (x0 : Frac) : Option (Bool) :=
  Option.bind (α := Bool)
    ((impl_within x0.Den 1 1000000).bind fun t24 =>
    cond t24
      ((impl_within x0.Num (-1000000000000) 1000000000000).bind fun t31 =>
      cond t31
        ((impl_gcd x0.Num x0.Den).bind fun t38 =>
        some (t38 == 1))
        (some false))
      (some false))
    fun p21 =>
  some p21

noncomputable def impl_NodeOk (x0 : Node) (x1 : Int) : Option (Bool) :=
  cond (x0.Kind == 1)
    (Option.bind (α := Bool)
      (cond ((x0.Kind == x0.Kind) && ((x0.A == 0) && ((x0.B == 0) && ((x0.C == 0) && (((x0.Value.Num == x0.Value.Num) && ((x0.Value.Den == x0.Value.Den) && true)) && true)))))
        ((impl_FracOk x0.Value).bind fun t60 =>
        some t60)
        (some false))
      fun p54 =>
    some p54)
    (cond (x0.Kind == 2)
      (Option.bind (α := Bool)
        (cond ((x0.Kind == x0.Kind) && ((x0.A == x0.A) && ((x0.B == 0) && ((x0.C == 0) && (((x0.Value.Num == 0) && ((x0.Value.Den == 0) && true)) && true)))))
          ((impl_within x0.A 0 7).bind fun t90 =>
          some t90)
          (some false))
        fun p84 =>
      some p84)
      ((impl_within x0.Kind 3 9).bind fun t94 =>
      cond (!t94)
        (some false)
        (joinP (fun (j103 : Int) =>
          Option.bind (α := Bool)
            (cond ((x0.Kind == x0.Kind) && ((x0.A == x0.A) && ((x0.B == x0.B) && ((x0.C == j103) && (((x0.Value.Num == 0) && ((x0.Value.Den == 0) && true)) && true)))))
              (cond (decide (x1 > 0))
                ((impl_within x0.A 0 (w64 (x1 - 1))).bind fun t117 =>
                cond t117
                  ((impl_within x0.B 0 (w64 (x1 - 1))).bind fun t124 =>
                  cond t124
                    ((impl_within x0.C 0 (w64 (x1 - 1))).bind fun t131 =>
                    some t131)
                    (some false))
                  (some false))
                (some false))
              (some false))
            fun p108 =>
          some p108)
          (fun k105 =>
          cond (x0.Kind == 9)
            (k105 x0.C)
            (k105 0)))))

noncomputable def impl_FormulaOk (x0 : List Node) : Option (Bool) :=
  (loopW (ρ := (Unit) ⊕ (Bool)) (fun (s21 : Int) =>
    cond (decide (s21 < (x0.length : Int)))
      ((idx x0 s21).bind fun x41 =>
      (impl_NodeOk x41 s21).bind fun t44 =>
      cond (!t44)
        (some (.done (.inr false)))
        (some (.cont (w64 (s21 + 1)))))
      (some (.done (.inl ()))))
    0).bind fun r24 => brkE r24 (fun (j31 : Unit) =>
    (impl_within (x0.length : Int) 1 30).bind fun t33 =>
    some t33)
    (some)

noncomputable def impl_RuleOk (x0 : Rule) : Option (Bool) :=
  Option.bind (α := Bool)
    ((impl_within x0.Name 1 20).bind fun t24 =>
    cond t24
      ((impl_isSpan x0.From x0.To).bind fun t31 =>
      cond t31
        ((impl_within x0.Joined 1 3600).bind fun t38 =>
        cond t38
          ((impl_within x0.Rank 0 9).bind fun t45 =>
          cond t45
            ((impl_within x0.Mode 1 4).bind fun t52 =>
            cond t52
              ((impl_FormulaOk x0.Nodes).bind fun t59 =>
              some t59)
              (some false))
            (some false))
          (some false))
        (some false))
      (some false))
    fun p21 =>
  some p21

noncomputable def impl_BookOk (x0 : Book) : Option (Bool) :=
  (loopW (ρ := (Unit) ⊕ (Bool)) (fun (s21 : Int × Int) =>
    cond (decide (s21.1 < s21.2))
      ((idx x0.Rules s21.1).bind fun x37 =>
      (impl_RuleOk x37).bind fun t44 =>
      cond (!t44)
        (some (.done (.inr false)))
        ((headL x0.Rules s21.1).bind fun l52 =>
        (loopW (ρ := (Int × Int × Int × Int × Int × Int × Int × Int) ⊕ (Bool)) (fun (s56 : Int) =>
          cond (decide (s56 < (l52.length : Int)))
            ((idx l52 s56).bind fun x72 =>
            Option.bind (α := Bool)
              (cond (x72.Name == x37.Name)
                (cond (x72.Rank == x37.Rank)
                  (cond (decide (x72.From < x37.To))
                    (some (decide (x37.From < x72.To)))
                    (some false))
                  (some false))
                (some false))
              fun p79 =>
            cond p79
              (some (.done (.inr false)))
              (some (.cont (w64 (s56 + 1)))))
            (some (.done (.inl (s21.1, s21.2, x37.Name, x37.From, x37.To, x37.Joined, x37.Rank, x37.Mode)))))
          0).bind fun r59 => brkE r59 (fun (j66 : Int × Int × Int × Int × Int × Int × Int × Int) =>
          some (.cont (w64 (j66.1 + 1), j66.2.1)))
          (fun v => some (.done (.inr v)))))
      (some (.done (.inl ()))))
    (0, (x0.Rules.length : Int))).bind fun r24 => brkE r24 (fun (j31 : Unit) =>
    some (decide ((x0.Rules.length : Int) ≤ 20)))
    (some)

noncomputable def impl_FactOk (x0 : Fact) : Option (Bool) :=
  Option.bind (α := Bool)
    ((impl_within x0.Key 1 50).bind fun t24 =>
    cond t24
      ((impl_isSpan x0.From x0.To).bind fun t31 =>
      cond t31
        ((impl_MonthOk x0.Known).bind fun t38 =>
        cond t38
          ((impl_within x0.Value (-1000000000) 1000000000).bind fun t45 =>
          some t45)
          (some false))
        (some false))
      (some false))
    fun p21 =>
  some p21

noncomputable def impl_StoreOk (x0 : Store) : Option (Bool) :=
  (loopW (ρ := (Unit) ⊕ (Bool)) (fun (s21 : Int) =>
    cond (decide (s21 < (x0.Facts.length : Int)))
      ((idx x0.Facts s21).bind fun x37 =>
      Option.bind (α := Bool)
        ((impl_FactOk x37).bind fun t43 =>
        cond (!t43)
          (some true)
          (cond (decide (s21 > 0))
            ((idx x0.Facts (w64 (s21 - 1))).bind fun x53 =>
            some (decide (x53.Known > x37.Known)))
            (some false)))
        fun p40 =>
      cond p40
        (some (.done (.inr false)))
        (some (.cont (w64 (s21 + 1)))))
      (some (.done (.inl ()))))
    0).bind fun r24 => brkE r24 (fun (j31 : Unit) =>
    some (decide ((x0.Facts.length : Int) ≤ 200)))
    (some)

noncomputable def impl_SpellsOk (x0 : List Spell) : Option (Bool) :=
  (loopW (ρ := (Unit) ⊕ (Bool)) (fun (s21 : Int) =>
    cond (decide (s21 < (x0.length : Int)))
      ((idx x0 s21).bind fun x37 =>
      Option.bind (α := Bool)
        ((impl_isSpan x37.From x37.To).bind fun t43 =>
        cond (!t43)
          (some true)
          ((impl_within x37.Percent 1 100).bind fun t50 =>
          cond (!t50)
            (some true)
            (cond (decide (s21 > 0))
              ((idx x0 (w64 (s21 - 1))).bind fun x60 =>
              some (decide (x37.From < x60.To)))
              (some false))))
        fun p40 =>
      cond p40
        (some (.done (.inr false)))
        (some (.cont (w64 (s21 + 1)))))
      (some (.done (.inl ()))))
    0).bind fun r24 => brkE r24 (fun (j31 : Unit) =>
    some (decide ((x0.length : Int) ≤ 30)))
    (some)

noncomputable def impl_StatusAfter (x0 : Int) (x1 : Int) : Option (Int × Bool) :=
  Option.bind (α := Bool)
    (cond (x1 == 1)
      (cond (x0 == 0)
        (some true)
        (some (x0 == 2)))
      (some false))
    fun p21 =>
  cond p21
    (some (1, true))
    (Option.bind (α := Bool)
      (cond (x1 == 2)
        (some (x0 == 1))
        (some false))
      fun p67 =>
    cond p67
      (some (2, true))
      (Option.bind (α := Bool)
        (cond (x1 == 3)
          (cond (x0 == 1)
            (some true)
            (some (x0 == 2)))
          (some false))
        fun p101 =>
      cond p101
        (some (3, true))
        (Option.bind (α := Bool)
          (cond (x1 == 4)
            ((impl_within x0 1 3).bind fun t132 =>
            some t132)
            (some false))
          fun p126 =>
        cond p126
          (some (4, true))
          (some (x0, false)))))

noncomputable def impl_EventsOk (x0 : List Event) : Option (Bool) :=
  (loopW (ρ := (Unit) ⊕ (Bool)) (fun (s21 : Int × Int) =>
    cond (decide (s21.1 < (x0.length : Int)))
      ((idx x0 s21.1).bind fun x37 =>
      (impl_StatusAfter s21.2 x37.Kind).bind fun t40 =>
      Option.bind (α := Bool)
        (cond (!t40.2)
          (some true)
          ((impl_MonthOk x37.Month).bind fun t50 =>
          cond (!t50)
            (some true)
            (cond (decide (s21.1 > 0))
              ((idx x0 (w64 (s21.1 - 1))).bind fun x60 =>
              some (decide (x60.Month ≥ x37.Month)))
              (some false))))
        fun p44 =>
      cond p44
        (some (.done (.inr false)))
        (some (.cont (w64 (s21.1 + 1), t40.1))))
      (some (.done (.inl ()))))
    (0, 0)).bind fun r24 => brkE r24 (fun (j31 : Unit) =>
    some (decide ((x0.length : Int) ≤ 30)))
    (some)

noncomputable def impl_MemberOk (x0 : Member) : Option (Bool) :=
  Option.bind (α := Bool)
    ((impl_MonthOk x0.Birth).bind fun t24 =>
    cond t24
      ((impl_MonthOk x0.Joined).bind fun t31 =>
      cond t31
        (cond (decide (x0.Birth ≤ x0.Joined))
          ((impl_SpellsOk x0.Spells).bind fun t41 =>
          cond t41
            ((impl_EventsOk x0.Events).bind fun t48 =>
            some t48)
            (some false))
          (some false))
        (some false))
      (some false))
    fun p21 =>
  some p21

noncomputable def impl_CaseOk (x0 : Case) : Option (Bool) :=
  Option.bind (α := Bool)
    ((impl_BookOk x0.Book).bind fun t24 =>
    cond t24
      ((impl_StoreOk x0.Store).bind fun t31 =>
      cond t31
        ((impl_SeriesOk x0.Series).bind fun t38 =>
        cond t38
          ((impl_MemberOk x0.Member).bind fun t45 =>
          some t45)
          (some false))
        (some false))
      (some false))
    fun p21 =>
  some p21

noncomputable def laws_FnAsOf (x0 : List U8) : Option (Bool) :=
  (laws_big x0).bind fun t21 =>
  cond t21
    (some true)
    ((spec_DrawCase x0).bind fun t28 =>
    (spec_DrawPlaces x0).bind fun t32 =>
    (idx t32 0).bind fun x36 =>
    (idx t32 1).bind fun x39 =>
    (impl_CaseAsOf t28 (Int.tmod x36 100)).bind fun t42 =>
    (impl_CaseAsOf t42 (Int.tmod x39 100)).bind fun t46 =>
    (impl_CaseAsOf t28 (imin (Int.tmod x36 100) (Int.tmod x39 100))).bind fun t50 =>
    (impl_SeriesAsOf t28.Series (Int.tmod x36 100)).bind fun t54 =>
    Option.bind (α := Bool)
      ((laws_sameFacts t46.Store.Facts t50.Store.Facts).bind fun t61 =>
      cond t61
        ((laws_samePoints t46.Series.Points t50.Series.Points).bind fun t68 =>
        cond t68
          ((impl_SeriesOk t54).bind fun t75 =>
          cond t75
            ((impl_CaseOk t46).bind fun t82 =>
            some t82)
            (some false))
          (some false))
        (some false))
      fun p58 =>
    some p58)
end Go.Pen
