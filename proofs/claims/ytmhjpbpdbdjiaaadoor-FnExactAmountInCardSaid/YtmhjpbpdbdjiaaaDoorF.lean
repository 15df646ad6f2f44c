/-
  What each Go function computes, as a plain function: written by a program of ours off the loaded program.
-/
import Derived.Test.YtmhjpbpdbdjiaaaDoorPenS
import Derived.Test.YtmhjpbpdbdjiaaaDoorPenI
import Derived.Test.YtmhjpbpdbdjiaaaDoorPenT
import Derived.Lib.Atoi
import Derived.Lib.ItoaNum
import Derived.Lib.Strings
namespace Go.Pen
set_option linter.unusedVariables false
set_option linter.unusedSimpArgs false
set_option maxRecDepth 100000
set_option maxHeartbeats 4000000

noncomputable def laws_szStringS (x0 : List ByteArray) (x1 : Int) : Option (Int) :=
  cond (decide ((w64 (x1 - (x0.length : Int))) < 0))
    (some (-1))
    ((loopW (ρ := (Int) ⊕ (Int)) (fun (s24 : Int × Int) =>
      cond (decide (s24.1 < (x0.length : Int)))
        ((idx x0 s24.1).bind fun x40 =>
        cond (decide ((w64 (s24.2 - (x40.size : Int))) < 0))
          (some (.done (.inr (-1))))
          (some (.cont (w64 (s24.1 + 1), w64 (s24.2 - (x40.size : Int))))))
        (some (.done (.inl s24.2))))
      (0, w64 (x1 - (x0.length : Int)))).bind fun r27 => brkE r27 (fun (j34 : Int) =>
      some j34)
      (some))

noncomputable def laws_toStringS (x0 : List ByteArray) : Option ((List ByteArray)) :=
  (mkL (x0.length : Int) ((ByteArray.mk #[]) : ByteArray)).bind fun l22 =>
  (loopW (ρ := ((List ByteArray)) ⊕ ((List ByteArray))) (fun (s25 : Int × (List ByteArray)) =>
    cond (decide (s25.1 < (x0.length : Int)))
      ((idx x0 s25.1).bind fun x41 =>
      (idx s25.2 s25.1).bind fun x44 =>
      (some (List.set s25.2 (Int.toNat s25.1) x41)).bind fun l47 =>
      some (.cont (w64 (s25.1 + 1), l47)))
      (some (.done (.inl s25.2))))
    (0, l22)).bind fun r28 => brkE r28 (fun (j35 : (List ByteArray)) =>
    some j35)
    (some)

noncomputable def spec_l01Figure (x0 : Int) : Option (Int) :=
  cond (decide (x0 < 10))
    (some (w8 (w64 (48 + x0))))
    (some (w8 (w64 ((w64 (97 + x0)) - 10))))

noncomputable def spec_FormatInt (x0 : Int) : Option (ByteArray) :=
  cond (x0 == 0)
    (some (ByteArray.mk #[48]))
    ((loopW (ρ := (ByteArray) ⊕ (ByteArray)) (fun (s24 : ByteArray × Int) =>
      cond (s24.2 != 0)
        (joinP (fun (j50 : Int) =>
          (spec_l01Figure j50).bind fun t55 =>
          (addS (bytesS ([U8.mk t55] : List U8)) s24.1).bind fun s61 =>
          some (.cont (s61, w64 (Int.tdiv s24.2 10))))
          (fun k52 =>
          cond (decide ((Int.tmod s24.2 10) < 0))
            (k52 (w64 (0 - (Int.tmod s24.2 10))))
            (k52 (Int.tmod s24.2 10))))
        (some (.done (.inl s24.1))))
      ((ByteArray.mk #[]), x0)).bind fun r27 => brkE r27 (fun (j34 : ByteArray) =>
      cond (decide (x0 < 0))
        ((addS (ByteArray.mk #[45]) j34).bind fun s42 =>
        some s42)
        (some j34))
      (some))

noncomputable def spec_ParseUint (x0 : ByteArray) : Option (Int × Bool) :=
  cond (decide ((x0.size : Int) > 10))
    (some (0, false))
    ((loopW (ρ := (Int) ⊕ (Int × Bool)) (fun (s24 : Int × Int) =>
      cond (decide (s24.1 < (x0.size : Int)))
        (Option.bind (α := Bool)
          ((byteS x0 s24.1).bind fun s56 =>
          cond (decide (s56 < 48))
            (some true)
            ((byteS x0 s24.1).bind fun s62 =>
            some (decide (s62 > 57))))
          fun p53 =>
        cond p53
          (some (.done (.inr (0, false))))
          ((byteS x0 s24.1).bind fun s69 =>
          some (.cont (w64 (s24.1 + 1), w64 ((w64 ((w64 (10 * s24.2)) + (w64 s69))) - 48)))))
        (some (.done (.inl s24.2))))
      (0, 0)).bind fun r27 => brkE r27 (fun (j34 : Int) =>
      Option.bind (α := Bool)
        (cond (decide (j34 > 1000000000))
          (some true)
          ((spec_FormatInt j34).bind fun t42 =>
          some (!(t42.toList == x0.toList))))
        fun p36 =>
      cond p36
        (some (0, false))
        (some (j34, true)))
      (some))

noncomputable def spec_AmountIn (x0 : List ByteArray) : Option (Int) :=
  cond ((x0.length : Int) == 0)
    (some (-1))
    ((idx x0 (w64 ((x0.length : Int) - 1))).bind fun x24 =>
    Option.bind (α := Bool)
      (cond (decide ((x24.size : Int) < 7))
        (some true)
        ((headS x24 7).bind fun s33 =>
        some (!(s33.toList == (ByteArray.mk #[97, 109, 111, 117, 110, 116, 32]).toList))))
      fun p27 =>
    cond p27
      (some (-1))
      ((tailS x24 7).bind fun s39 =>
      (spec_ParseUint s39).bind fun t42 =>
      cond (!t42.2)
        (some (-1))
        (some t42.1)))

noncomputable def strings_CutPrefix (x0 : ByteArray) (x1 : ByteArray) : Option (ByteArray × Bool) :=
  some (⟨(Lib.trimPrefix x0.data.toList x1.data.toList).toArray⟩, Lib.hasPrefix x0.data.toList x1.data.toList)

noncomputable def impl_within (x0 : Int) (x1 : Int) (x2 : Int) : Option (Bool) :=
  Option.bind (α := Bool)
    (cond (decide (x1 ≤ x0))
      (some (decide (x0 ≤ x2)))
      (some false))
    fun p21 =>
  some p21

noncomputable def strconv_Itoa (x0 : Int) : Option ByteArray :=
  if -9223372036854775808 ≤ x0 ∧ x0 ≤ 9223372036854775807 then some ⟨(Lib.itoa x0).toArray⟩ else none

noncomputable def impl_FormatInt (x0 : Int) : Option (ByteArray) :=
  (strconv_Itoa x0).bind fun t21 =>
  some t21

noncomputable def impl_ParseUint (x0 : ByteArray) : Option (Int × Bool) :=
  cond (decide ((x0.size : Int) > 10))
    (some (0, false))
    (match Lib.atoi x0.data.toList with
    | none => some (0, false)
    | some n => Option.bind (α := Bool)
        ((impl_within n 0 1000000000).bind fun b =>
          cond (!b)
            (some true)
            ((impl_FormatInt n).bind fun t =>
            some (!(t.toList == x0.toList))))
        fun p =>
      cond p
        (some (0, false))
        (some (n, true)))

noncomputable def impl_AmountIn (x0 : List ByteArray) : Option (Int) :=
  cond ((x0.length : Int) == 0)
    (some (-1))
    ((idx x0 (w64 ((x0.length : Int) - 1))).bind fun x24 =>
    (strings_CutPrefix x24 (ByteArray.mk #[97, 109, 111, 117, 110, 116, 32])).bind fun t27 =>
    (impl_ParseUint t27.1).bind fun t31 =>
    Option.bind (α := Bool)
      (cond (!t27.2)
        (some true)
        (some (!t31.2)))
      fun p35 =>
    cond p35
      (some (-1))
      (some t31.1))

noncomputable def laws_eqStringS (x0 : List ByteArray) (x1 : List ByteArray) : Option (Bool) :=
  cond ((x0.length : Int) != (x1.length : Int))
    (some false)
    ((loopW (ρ := (Unit) ⊕ (Bool)) (fun (s24 : Int) =>
      cond (decide (s24 < (x0.length : Int)))
        ((idx x0 s24).bind fun x40 =>
        (idx x1 s24).bind fun x43 =>
        cond (!(x40.toList == x43.toList))
          (some (.done (.inr false)))
          (some (.cont (w64 (s24 + 1)))))
        (some (.done (.inl ()))))
      0).bind fun r27 => brkE r27 (fun (j34 : Unit) =>
      some true)
      (some))

noncomputable def laws_FnExactAmountIn (x0 : List ByteArray) : Option (Bool) :=
  (laws_szStringS x0 1048576).bind fun t21 =>
  cond (decide (t21 < 0))
    (some true)
    ((laws_toStringS x0).bind fun t28 =>
    (spec_AmountIn t28).bind fun t32 =>
    (laws_toStringS x0).bind fun t36 =>
    (impl_AmountIn t36).bind fun t40 =>
    cond (t40 != t32)
      (some false)
      ((laws_toStringS x0).bind fun t47 =>
      (laws_eqStringS t36 t47).bind fun t51 =>
      cond (!t51)
        (some false)
        (some true)))
end Go.Pen
