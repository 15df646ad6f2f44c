/-
  What each Go function computes, as a plain function: written by a program of ours off the loaded program.
-/
import Derived.Test.YtgdhafgblfapiaaPenS
import Derived.Test.YtgdhafgblfapiaaPenI
import Derived.Test.YtgdhafgblfapiaaPenT
namespace Go.Pen
set_option linter.unusedVariables false
set_option linter.unusedSimpArgs false
set_option maxRecDepth 100000
set_option maxHeartbeats 4000000

noncomputable def laws_szStringS (x0 : List ByteArray) (x1 : Int) : Option (Int) :=
  cond (decide ((w64 (x1 - (x0.length : Int))) < 0))
    (some (-1))
    ((loopW (ρ := (Int) ⊕ (Int)) (fun (s24 : Int × Int) =>
      cond (decide (s24.1 < (x0.length : Int)))
        ((idx x0 s24.1).bind fun x40 =>
        cond (decide ((w64 (s24.2 - (x40.size : Int))) < 0))
          (some (.done (.inr (-1))))
          (some (.cont (w64 (s24.1 + 1), w64 (s24.2 - (x40.size : Int))))))
        (some (.done (.inl s24.2))))
      (0, w64 (x1 - (x0.length : Int)))).bind fun r27 => brkE r27 (fun (j34 : Int) =>
      some j34)
      (some))

noncomputable def laws_toStringS (x0 : List ByteArray) : Option ((List ByteArray)) :=
  (mkL (x0.length : Int) ((ByteArray.mk #[]) : ByteArray)).bind fun l22 =>
  (loopW (ρ := ((List ByteArray)) ⊕ ((List ByteArray))) (fun (s25 : Int × (List ByteArray)) =>
    cond (decide (s25.1 < (x0.length : Int)))
      ((idx x0 s25.1).bind fun x41 =>
      (idx s25.2 s25.1).bind fun x44 =>
      (some (List.set s25.2 (Int.toNat s25.1) x41)).bind fun l47 =>
      some (.cont (w64 (s25.1 + 1), l47)))
      (some (.done (.inl s25.2))))
    (0, l22)).bind fun r28 => brkE r28 (fun (j35 : (List ByteArray)) =>
    some j35)
    (some)

noncomputable def spec_DiffLines (x0 : List ByteArray) (x1 : List ByteArray) : Option ((List Int)) :=
  (loopW (ρ := ((List Int)) ⊕ ((List Int))) (fun (s23 : Int × (List Int)) =>
    Option.bind (α := Bool)
      (cond (decide (s23.1 < (x0.length : Int)))
        (some true)
        (some (decide (s23.1 < (x1.length : Int)))))
      fun p36 =>
    cond p36
      (Option.bind (α := Bool)
        (cond (decide (s23.1 ≥ (x0.length : Int)))
          (some true)
          (cond (decide (s23.1 ≥ (x1.length : Int)))
            (some true)
            ((idx x0 s23.1).bind fun x54 =>
            (idx x1 s23.1).bind fun x57 =>
            some (!(x54.toList == x57.toList)))))
        fun p45 =>
      joinP (fun (j67 : (List Int)) =>
        some (.cont (w64 (s23.1 + 1), j67)))
        (fun k69 =>
        cond p45
          ((appC s23.2 ([s23.1] : List Int)).bind fun l79 =>
          k69 l79)
          (k69 s23.2)))
      (some (.done (.inl s23.2))))
    (0, ([] : List Int))).bind fun r26 => brkE r26 (fun (j33 : (List Int)) =>
    some j33)
    (some)

noncomputable def impl_DiffLines (x0 : List ByteArray) (x1 : List ByteArray) : Option ((List Int)) :=
  (loopW (ρ := ((List Int)) ⊕ ((List Int))) (fun (s23 : Int × (List Int)) =>
    cond (decide (s23.1 < (imax (x0.length : Int) (x1.length : Int))))
      (Option.bind (α := Bool)
        (cond (decide (s23.1 ≥ (x0.length : Int)))
          (some true)
          (cond (decide (s23.1 ≥ (x1.length : Int)))
            (some true)
            ((idx x0 s23.1).bind fun x48 =>
            (idx x1 s23.1).bind fun x51 =>
            some (!(x48.toList == x51.toList)))))
        fun p39 =>
      joinP (fun (j61 : (List Int)) =>
        some (.cont (w64 (s23.1 + 1), j61)))
        (fun k63 =>
        cond p39
          ((appC s23.2 ([s23.1] : List Int)).bind fun l73 =>
          k63 l73)
          (k63 s23.2)))
      (some (.done (.inl s23.2))))
    (0, ([] : List Int))).bind fun r26 => brkE r26 (fun (j33 : (List Int)) =>
    some j33)
    (some)

noncomputable def laws_eqIntS (x0 : List Int) (x1 : List Int) : Option (Bool) :=
  cond ((x0.length : Int) != (x1.length : Int))
    (some false)
    ((loopW (ρ := (Unit) ⊕ (Bool)) (fun (s24 : Int) =>
      cond (decide (s24 < (x0.length : Int)))
        ((idx x0 s24).bind fun x40 =>
        (idx x1 s24).bind fun x43 =>
        cond (x40 != x43)
          (some (.done (.inr false)))
          (some (.cont (w64 (s24 + 1)))))
        (some (.done (.inl ()))))
      0).bind fun r27 => brkE r27 (fun (j34 : Unit) =>
      some true)
      (some))

noncomputable def laws_eqStringS (x0 : List ByteArray) (x1 : List ByteArray) : Option (Bool) :=
  cond ((x0.length : Int) != (x1.length : Int))
    (some false)
    ((loopW (ρ := (Unit) ⊕ (Bool)) (fun (s24 : Int) =>
      cond (decide (s24 < (x0.length : Int)))
        ((idx x0 s24).bind fun x40 =>
        (idx x1 s24).bind fun x43 =>
        cond (!(x40.toList == x43.toList))
          (some (.done (.inr false)))
          (some (.cont (w64 (s24 + 1)))))
        (some (.done (.inl ()))))
      0).bind fun r27 => brkE r27 (fun (j34 : Unit) =>
      some true)
      (some))

noncomputable def laws_markText (x0 : Int) : Option (ByteArray) :=
  cond (decide (x0 ≤ 0))
    (some (ByteArray.mk #[109, 48]))
    ((loopW (ρ := (ByteArray) ⊕ (ByteArray)) (fun (s24 : ByteArray × Int) =>
      cond (decide (s24.2 > 0))
        ((addS (bytesS ([U8.mk (w8 (w64 (48 + (Int.tmod s24.2 10))))] : List U8)) s24.1).bind fun s45 =>
        some (.cont (s45, w64 (Int.tdiv s24.2 10))))
        (some (.done (.inl s24.1))))
      ((ByteArray.mk #[]), x0)).bind fun r27 => brkE r27 (fun (j34 : ByteArray) =>
      (addS (ByteArray.mk #[109]) j34).bind fun s36 =>
      some s36)
      (some))

noncomputable def laws_markStringS (x0 : List ByteArray) (x1 : Int) : Option (Int × (List ByteArray)) :=
  (loopW (ρ := ((List ByteArray) × Int) ⊕ (Int × (List ByteArray))) (fun (s21 : Int × (List ByteArray) × Int) =>
    cond (decide (s21.1 < (s21.2.1.length : Int)))
      ((laws_markText s21.2.2).bind fun t37 =>
      (idx s21.2.1 s21.1).bind fun x41 =>
      (some (List.set s21.2.1 (Int.toNat s21.1) t37)).bind fun l44 =>
      some (.cont (w64 (s21.1 + 1), l44, w64 (s21.2.2 + 1))))
      (some (.done (.inl (s21.2.1, s21.2.2)))))
    (0, x0, x1)).bind fun r24 => brkE r24 (fun (j31 : (List ByteArray) × Int) =>
    some (j31.2, j31.1))
    (some)

noncomputable def laws_markIntS (x0 : List Int) (x1 : Int) : Option (Int × (List Int)) :=
  (loopW (ρ := ((List Int) × Int) ⊕ (Int × (List Int))) (fun (s21 : Int × (List Int) × Int) =>
    cond (decide (s21.1 < (s21.2.1.length : Int)))
      ((idx s21.2.1 s21.1).bind fun x37 =>
      (some (List.set s21.2.1 (Int.toNat s21.1) s21.2.2)).bind fun l40 =>
      some (.cont (w64 (s21.1 + 1), l40, w64 (s21.2.2 + 1))))
      (some (.done (.inl (s21.2.1, s21.2.2)))))
    (0, x0, x1)).bind fun r24 => brkE r24 (fun (j31 : (List Int) × Int) =>
    some (j31.2, j31.1))
    (some)

noncomputable def laws_heldIntS (x0 : List Int) (x1 : Int) : Option (Int) :=
  (loopW (ρ := (Int) ⊕ (Int)) (fun (s21 : Int × Int) =>
    cond (decide (s21.1 < (x0.length : Int)))
      ((idx x0 s21.1).bind fun x37 =>
      cond (x37 != s21.2)
        (some (.done (.inr (-1))))
        (some (.cont (w64 (s21.1 + 1), w64 (s21.2 + 1)))))
      (some (.done (.inl s21.2))))
    (0, x1)).bind fun r24 => brkE r24 (fun (j31 : Int) =>
    some j31)
    (some)

noncomputable def laws_FnExactDiffLines (x0 : List ByteArray) (x1 : List ByteArray) : Option (Bool) :=
  (laws_szStringS x0 1048576).bind fun t21 =>
  cond (decide (t21 < 0))
    (some true)
    ((laws_szStringS x1 t21).bind fun t28 =>
    cond (decide (t28 < 0))
      (some true)
      ((laws_toStringS x0).bind fun t35 =>
      (laws_toStringS x1).bind fun t39 =>
      (spec_DiffLines t35 t39).bind fun t43 =>
      (laws_toStringS x0).bind fun t47 =>
      (laws_toStringS x1).bind fun t51 =>
      (impl_DiffLines t47 t51).bind fun t55 =>
      (laws_eqIntS t55 t43).bind fun t59 =>
      cond (!t59)
        (some false)
        ((laws_toStringS x0).bind fun t66 =>
        (laws_eqStringS t47 t66).bind fun t70 =>
        cond (!t70)
          (some false)
          ((laws_toStringS x1).bind fun t77 =>
          (laws_eqStringS t51 t77).bind fun t81 =>
          cond (!t81)
            (some false)
            ((laws_markStringS t47 1).bind fun t88 =>
            (sameLen t88.2 t47).bind fun _ =>
            (laws_markStringS t51 t88.1).bind fun t96 =>
            (sameLen t96.2 t51).bind fun _ =>
            Option.bind (α := Bool)
              (cond (decide (t96.1 < 0))
                (some true)
                ((laws_eqIntS t55 t43).bind fun t110 =>
                some (!t110)))
              fun p104 =>
            cond p104
              (some false)
              ((laws_markIntS t55 1).bind fun t117 =>
              (sameLen t117.2 t55).bind fun _ =>
              (laws_heldIntS t117.2 1).bind fun t125 =>
              cond (decide (t125 < 0))
                (some false)
                (cond (t125 != t117.1)
                  (some false)
                  ((laws_toStringS x0).bind fun t135 =>
                  (laws_toStringS x1).bind fun t139 =>
                  (impl_DiffLines t135 t139).bind fun t143 =>
                  (laws_eqIntS t143 t43).bind fun t147 =>
                  cond (!t147)
                    (some false)
                    ((laws_heldIntS t117.2 1).bind fun t154 =>
                    cond (decide (t154 < 0))
                      (some false)
                      (cond (t154 != t117.1)
                        (some false)
                        (some true)))))))))))
end Go.Pen
