/-
  What each Go function computes, as a plain function: written by a program of ours off the loaded program.
-/
import Derived.Test.YthjaemfkjlnfaaaPenS
import Derived.Test.YthjaemfkjlnfaaaPenI
namespace Go.Pen
set_option linter.unusedVariables false
set_option linter.unusedSimpArgs false
set_option maxRecDepth 100000
set_option maxHeartbeats 4000000

noncomputable def laws_szNodeS (x0 : List Node) (x1 : Int) : Option (Int) :=
  cond (decide ((w64 (x1 - (x0.length : Int))) < 0))
    (some (-1))
    (some (w64 (x1 - (x0.length : Int))))

noncomputable def laws_szRule (x0 : Rule) (x1 : Int) : Option (Int) :=
  (laws_szNodeS x0.Nodes x1).bind fun t21 =>
  cond (decide (t21 < 0))
    (some (-1))
    (some t21)

noncomputable def laws_szRuleS (x0 : List Rule) (x1 : Int) : Option (Int) :=
  cond (decide ((w64 (x1 - (x0.length : Int))) < 0))
    (some (-1))
    ((loopW (ρ := (Int) ⊕ (Int)) (fun (s24 : Int × Int) =>
      cond (decide (s24.1 < (x0.length : Int)))
        ((idx x0 s24.1).bind fun x40 =>
        (laws_szRule x40 s24.2).bind fun t47 =>
        cond (decide (t47 < 0))
          (some (.done (.inr (-1))))
          (some (.cont (w64 (s24.1 + 1), t47))))
        (some (.done (.inl s24.2))))
      (0, w64 (x1 - (x0.length : Int)))).bind fun r27 => brkE r27 (fun (j34 : Int) =>
      some j34)
      (some))

noncomputable def laws_szBook (x0 : Book) (x1 : Int) : Option (Int) :=
  (laws_szRuleS x0.Rules x1).bind fun t21 =>
  cond (decide (t21 < 0))
    (some (-1))
    (some t21)

noncomputable def laws_szFactS (x0 : List Fact) (x1 : Int) : Option (Int) :=
  cond (decide ((w64 (x1 - (x0.length : Int))) < 0))
    (some (-1))
    (some (w64 (x1 - (x0.length : Int))))

noncomputable def laws_szStore (x0 : Store) (x1 : Int) : Option (Int) :=
  (laws_szFactS x0.Facts x1).bind fun t21 =>
  cond (decide (t21 < 0))
    (some (-1))
    (some t21)

noncomputable def laws_szPointS (x0 : List Point) (x1 : Int) : Option (Int) :=
  cond (decide ((w64 (x1 - (x0.length : Int))) < 0))
    (some (-1))
    (some (w64 (x1 - (x0.length : Int))))

noncomputable def laws_szSeries (x0 : Series) (x1 : Int) : Option (Int) :=
  (laws_szPointS x0.Points x1).bind fun t21 =>
  cond (decide (t21 < 0))
    (some (-1))
    (some t21)

noncomputable def laws_szSpellS (x0 : List Spell) (x1 : Int) : Option (Int) :=
  cond (decide ((w64 (x1 - (x0.length : Int))) < 0))
    (some (-1))
    (some (w64 (x1 - (x0.length : Int))))

noncomputable def laws_szEventS (x0 : List Event) (x1 : Int) : Option (Int) :=
  cond (decide ((w64 (x1 - (x0.length : Int))) < 0))
    (some (-1))
    (some (w64 (x1 - (x0.length : Int))))

noncomputable def laws_szMember (x0 : Member) (x1 : Int) : Option (Int) :=
  (laws_szSpellS x0.Spells x1).bind fun t21 =>
  cond (decide (t21 < 0))
    (some (-1))
    ((laws_szEventS x0.Events t21).bind fun t28 =>
    cond (decide (t28 < 0))
      (some (-1))
      (some t28))

noncomputable def laws_szCase (x0 : Case) (x1 : Int) : Option (Int) :=
  (laws_szBook x0.Book x1).bind fun t21 =>
  cond (decide (t21 < 0))
    (some (-1))
    ((laws_szStore x0.Store t21).bind fun t28 =>
    cond (decide (t28 < 0))
      (some (-1))
      ((laws_szSeries x0.Series t28).bind fun t35 =>
      cond (decide (t35 < 0))
        (some (-1))
        ((laws_szMember x0.Member t35).bind fun t42 =>
        cond (decide (t42 < 0))
          (some (-1))
          (some t42))))

noncomputable def laws_szIntS (x0 : List Int) (x1 : Int) : Option (Int) :=
  cond (decide ((w64 (x1 - (x0.length : Int))) < 0))
    (some (-1))
    (some (w64 (x1 - (x0.length : Int))))

noncomputable def laws_szOffice (x0 : Office) (x1 : Int) : Option (Int) :=
  (laws_szCase x0.Case x1).bind fun t21 =>
  cond (decide (t21 < 0))
    (some (-1))
    ((laws_szIntS x0.Paid t21).bind fun t28 =>
    cond (decide (t28 < 0))
      (some (-1))
      (some t28))

noncomputable def laws_toFrac (x0 : Frac) : Option (Frac) :=
  some x0

noncomputable def laws_toNode (x0 : Node) : Option (Node) :=
  (laws_toFrac x0.Value).bind fun t21 =>
  some (Node.mk x0.Kind x0.A x0.B x0.C t21)

noncomputable def laws_toNodeS (x0 : List Node) : Option ((List Node)) :=
  (mkL (x0.length : Int) (Node.mk 0 0 0 0 (Frac.mk 0 0) : Node)).bind fun l22 =>
  (loopW (ρ := ((List Node)) ⊕ ((List Node))) (fun (s25 : Int × (List Node)) =>
    cond (decide (s25.1 < (x0.length : Int)))
      ((idx x0 s25.1).bind fun x41 =>
      (laws_toNode x41).bind fun t44 =>
      (idx s25.2 s25.1).bind fun x48 =>
      (some (List.set s25.2 (Int.toNat s25.1) t44)).bind fun l51 =>
      some (.cont (w64 (s25.1 + 1), l51)))
      (some (.done (.inl s25.2))))
    (0, l22)).bind fun r28 => brkE r28 (fun (j35 : (List Node)) =>
    some j35)
    (some)

noncomputable def laws_toRule (x0 : Rule) : Option (Rule) :=
  (laws_toNodeS x0.Nodes).bind fun t21 =>
  some (Rule.mk x0.Name x0.From x0.To x0.Joined x0.Rank x0.Mode t21)

noncomputable def laws_toRuleS (x0 : List Rule) : Option ((List Rule)) :=
  (mkL (x0.length : Int) (Rule.mk 0 0 0 0 0 0 ([] : List Node) : Rule)).bind fun l22 =>
  (loopW (ρ := ((List Rule)) ⊕ ((List Rule))) (fun (s25 : Int × (List Rule)) =>
    cond (decide (s25.1 < (x0.length : Int)))
      ((idx x0 s25.1).bind fun x41 =>
      (laws_toRule x41).bind fun t48 =>
      (idx s25.2 s25.1).bind fun x52 =>
      (some (List.set s25.2 (Int.toNat s25.1) t48)).bind fun l55 =>
      some (.cont (w64 (s25.1 + 1), l55)))
      (some (.done (.inl s25.2))))
    (0, l22)).bind fun r28 => brkE r28 (fun (j35 : (List Rule)) =>
    some j35)
    (some)

noncomputable def laws_toBook (x0 : Book) : Option (Book) :=
  (laws_toRuleS x0.Rules).bind fun t21 =>
  some (Book.mk t21)

noncomputable def laws_toFact (x0 : Fact) : Option (Fact) :=
  some x0

noncomputable def laws_toFactS (x0 : List Fact) : Option ((List Fact)) :=
  (mkL (x0.length : Int) (Fact.mk 0 0 0 0 0 : Fact)).bind fun l22 =>
  (loopW (ρ := ((List Fact)) ⊕ ((List Fact))) (fun (s25 : Int × (List Fact)) =>
    cond (decide (s25.1 < (x0.length : Int)))
      ((idx x0 s25.1).bind fun x41 =>
      (laws_toFact x41).bind fun t44 =>
      (idx s25.2 s25.1).bind fun x48 =>
      (some (List.set s25.2 (Int.toNat s25.1) t44)).bind fun l51 =>
      some (.cont (w64 (s25.1 + 1), l51)))
      (some (.done (.inl s25.2))))
    (0, l22)).bind fun r28 => brkE r28 (fun (j35 : (List Fact)) =>
    some j35)
    (some)

noncomputable def laws_toStore (x0 : Store) : Option (Store) :=
  (laws_toFactS x0.Facts).bind fun t21 =>
  some (Store.mk t21)

noncomputable def laws_toPoint (x0 : Point) : Option (Point) :=
  some x0

noncomputable def laws_toPointS (x0 : List Point) : Option ((List Point)) :=
  (mkL (x0.length : Int) (Point.mk 0 0 0 : Point)).bind fun l22 =>
  (loopW (ρ := ((List Point)) ⊕ ((List Point))) (fun (s25 : Int × (List Point)) =>
    cond (decide (s25.1 < (x0.length : Int)))
      ((idx x0 s25.1).bind fun x41 =>
      (laws_toPoint x41).bind fun t44 =>
      (idx s25.2 s25.1).bind fun x48 =>
      (some (List.set s25.2 (Int.toNat s25.1) t44)).bind fun l51 =>
      some (.cont (w64 (s25.1 + 1), l51)))
      (some (.done (.inl s25.2))))
    (0, l22)).bind fun r28 => brkE r28 (fun (j35 : (List Point)) =>
    some j35)
    (some)

noncomputable def laws_toSeries (x0 : Series) : Option (Series) :=
  (laws_toPointS x0.Points).bind fun t21 =>
  some (Series.mk t21)

noncomputable def laws_toSpell (x0 : Spell) : Option (Spell) :=
  some x0

noncomputable def laws_toSpellS (x0 : List Spell) : Option ((List Spell)) :=
  (mkL (x0.length : Int) (Spell.mk 0 0 0 false : Spell)).bind fun l22 =>
  (loopW (ρ := ((List Spell)) ⊕ ((List Spell))) (fun (s25 : Int × (List Spell)) =>
    cond (decide (s25.1 < (x0.length : Int)))
      ((idx x0 s25.1).bind fun x41 =>
      (laws_toSpell x41).bind fun t44 =>
      (idx s25.2 s25.1).bind fun x48 =>
      (some (List.set s25.2 (Int.toNat s25.1) t44)).bind fun l51 =>
      some (.cont (w64 (s25.1 + 1), l51)))
      (some (.done (.inl s25.2))))
    (0, l22)).bind fun r28 => brkE r28 (fun (j35 : (List Spell)) =>
    some j35)
    (some)

noncomputable def laws_toEvent (x0 : Event) : Option (Event) :=
  some x0

noncomputable def laws_toEventS (x0 : List Event) : Option ((List Event)) :=
  (mkL (x0.length : Int) (Event.mk 0 0 : Event)).bind fun l22 =>
  (loopW (ρ := ((List Event)) ⊕ ((List Event))) (fun (s25 : Int × (List Event)) =>
    cond (decide (s25.1 < (x0.length : Int)))
      ((idx x0 s25.1).bind fun x41 =>
      (laws_toEvent x41).bind fun t44 =>
      (idx s25.2 s25.1).bind fun x48 =>
      (some (List.set s25.2 (Int.toNat s25.1) t44)).bind fun l51 =>
      some (.cont (w64 (s25.1 + 1), l51)))
      (some (.done (.inl s25.2))))
    (0, l22)).bind fun r28 => brkE r28 (fun (j35 : (List Event)) =>
    some j35)
    (some)

noncomputable def laws_toMember (x0 : Member) : Option (Member) :=
  (laws_toSpellS x0.Spells).bind fun t21 =>
  (laws_toEventS x0.Events).bind fun t25 =>
  some (Member.mk x0.Birth x0.Joined t21 t25)

noncomputable def laws_toCase (x0 : Case) : Option (Case) :=
  (laws_toBook x0.Book).bind fun t21 =>
  (laws_toStore x0.Store).bind fun t25 =>
  (laws_toSeries x0.Series).bind fun t29 =>
  (laws_toMember x0.Member).bind fun t33 =>
  some (Case.mk t21 t25 t29 t33)

noncomputable def laws_toIntS (x0 : List Int) : Option ((List Int)) :=
  (mkL (x0.length : Int) (0 : Int)).bind fun l22 =>
  (loopW (ρ := ((List Int)) ⊕ ((List Int))) (fun (s25 : Int × (List Int)) =>
    cond (decide (s25.1 < (x0.length : Int)))
      ((idx x0 s25.1).bind fun x41 =>
      (idx s25.2 s25.1).bind fun x44 =>
      (some (List.set s25.2 (Int.toNat s25.1) x41)).bind fun l47 =>
      some (.cont (w64 (s25.1 + 1), l47)))
      (some (.done (.inl s25.2))))
    (0, l22)).bind fun r28 => brkE r28 (fun (j35 : (List Int)) =>
    some j35)
    (some)

noncomputable def laws_toOffice (x0 : Office) : Option (Office) :=
  (laws_toCase x0.Case).bind fun t21 =>
  (laws_toIntS x0.Paid).bind fun t25 =>
  some (Office.mk t21 x0.Start t25)

noncomputable def spec_l39Rules (x0 : Book) (x1 : Book) : Option (Bool) :=
  cond ((x0.Rules.length : Int) != (x1.Rules.length : Int))
    (some false)
    ((loopW (ρ := (Unit) ⊕ (Bool)) (fun (s24 : Int) =>
      cond (decide (s24 < (x0.Rules.length : Int)))
        ((idx x0.Rules s24).bind fun x40 =>
        (idx x1.Rules s24).bind fun x47 =>
        Option.bind (α := Bool)
          (cond (x40.Name != x47.Name)
            (some true)
            (cond (x40.From != x47.From)
              (some true)
              (cond (x40.To != x47.To)
                (some true)
                (cond (x40.Joined != x47.Joined)
                  (some true)
                  (cond (x40.Rank != x47.Rank)
                    (some true)
                    (cond (x40.Mode != x47.Mode)
                      (some true)
                      (some ((x40.Nodes.length : Int) != (x47.Nodes.length : Int)))))))))
          fun p54 =>
        cond p54
          (some (.done (.inr false)))
          ((loopW (ρ := (Unit) ⊕ (Bool)) (fun (s79 : Int) =>
            cond (decide (s79 < (x40.Nodes.length : Int)))
              ((idx x40.Nodes s79).bind fun x95 =>
              (idx x47.Nodes s79).bind fun x98 =>
              cond (!((x95.Kind == x98.Kind) && ((x95.A == x98.A) && ((x95.B == x98.B) && ((x95.C == x98.C) && (((x95.Value.Num == x98.Value.Num) && ((x95.Value.Den == x98.Value.Den) && true)) && true))))))
                (some (.done (.inr false)))
                (some (.cont (w64 (s79 + 1)))))
              (some (.done (.inl ()))))
            0).bind fun r82 => brkE r82 (fun (j89 : Unit) =>
            some (.cont (w64 (s24 + 1))))
            (fun v => some (.done (.inr v)))))
        (some (.done (.inl ()))))
      0).bind fun r27 => brkE r27 (fun (j34 : Unit) =>
      some true)
      (some))

noncomputable def spec_l39Member (x0 : Member) (x1 : Member) : Option (Bool) :=
  Option.bind (α := Bool)
    (cond (x0.Birth != x1.Birth)
      (some true)
      (cond (x0.Joined != x1.Joined)
        (some true)
        (cond ((x0.Spells.length : Int) != (x1.Spells.length : Int))
          (some true)
          (some ((x0.Events.length : Int) != (x1.Events.length : Int))))))
    fun p21 =>
  cond p21
    (some false)
    ((loopW (ρ := (Int × Int × Int × Int) ⊕ (Bool)) (fun (s36 : Int) =>
      cond (decide (s36 < (x0.Spells.length : Int)))
        ((idx x0.Spells s36).bind fun x79 =>
        (idx x1.Spells s36).bind fun x82 =>
        cond (!((x79.From == x82.From) && ((x79.To == x82.To) && ((x79.Percent == x82.Percent) && ((x79.Leave == x82.Leave) && true)))))
          (some (.done (.inr false)))
          (some (.cont (w64 (s36 + 1)))))
        (some (.done (.inl (x0.Birth, x0.Joined, x1.Birth, x1.Joined)))))
      0).bind fun r39 => brkE r39 (fun (j46 : Int × Int × Int × Int) =>
      (loopW (ρ := (Int × Int × Int × Int) ⊕ (Bool)) (fun (s48 : Int) =>
        cond (decide (s48 < (x0.Events.length : Int)))
          ((idx x0.Events s48).bind fun x64 =>
          (idx x1.Events s48).bind fun x67 =>
          cond (!((x64.Kind == x67.Kind) && ((x64.Month == x67.Month) && true)))
            (some (.done (.inr false)))
            (some (.cont (w64 (s48 + 1)))))
          (some (.done (.inl (j46.1, j46.2.1, j46.2.2.1, j46.2.2.2)))))
        0).bind fun r51 => brkE r51 (fun (j58 : Int × Int × Int × Int) =>
        some true)
        (some))
      (some))

noncomputable def spec_l39Times (x0 : Case) (x1 : Case) : Option (Bool) :=
  Option.bind (α := Bool)
    (cond ((x0.Store.Facts.length : Int) != (x1.Store.Facts.length : Int))
      (some true)
      (some ((x0.Series.Points.length : Int) != (x1.Series.Points.length : Int))))
    fun p21 =>
  cond p21
    (some false)
    ((loopW (ρ := (Int × Int × Int × Int) ⊕ (Bool)) (fun (s30 : Int) =>
      cond (decide (s30 < (x0.Store.Facts.length : Int)))
        ((idx x0.Store.Facts s30).bind fun x73 =>
        (idx x1.Store.Facts s30).bind fun x76 =>
        cond (!((x73.Key == x76.Key) && ((x73.From == x76.From) && ((x73.To == x76.To) && ((x73.Known == x76.Known) && ((x73.Value == x76.Value) && true))))))
          (some (.done (.inr false)))
          (some (.cont (w64 (s30 + 1)))))
        (some (.done (.inl (x0.Member.Birth, x0.Member.Joined, x1.Member.Birth, x1.Member.Joined)))))
      0).bind fun r33 => brkE r33 (fun (j40 : Int × Int × Int × Int) =>
      (loopW (ρ := (Int × Int × Int × Int) ⊕ (Bool)) (fun (s42 : Int) =>
        cond (decide (s42 < (x0.Series.Points.length : Int)))
          ((idx x0.Series.Points s42).bind fun x58 =>
          (idx x1.Series.Points s42).bind fun x61 =>
          cond (!((x58.Month == x61.Month) && ((x58.Known == x61.Known) && ((x58.Value == x61.Value) && true))))
            (some (.done (.inr false)))
            (some (.cont (w64 (s42 + 1)))))
          (some (.done (.inl (j40.1, j40.2.1, j40.2.2.1, j40.2.2.2)))))
        0).bind fun r45 => brkE r45 (fun (j52 : Int × Int × Int × Int) =>
        some true)
        (some))
      (some))

noncomputable def spec_SameOffice (x0 : Office) (x1 : Office) : Option (Bool) :=
  Option.bind (α := Bool)
    (cond (x0.Start != x1.Start)
      (some true)
      (cond ((x0.Paid.length : Int) != (x1.Paid.length : Int))
        (some true)
        ((spec_l39Rules x0.Case.Book x1.Case.Book).bind fun t30 =>
        cond (!t30)
          (some true)
          ((spec_l39Member x0.Case.Member x1.Case.Member).bind fun t37 =>
          cond (!t37)
            (some true)
            ((spec_l39Times x0.Case x1.Case).bind fun t44 =>
            some (!t44))))))
    fun p21 =>
  cond p21
    (some false)
    ((loopW (ρ := (Int × Int × Int × Int × Int × Int) ⊕ (Bool)) (fun (s51 : Int) =>
      cond (decide (s51 < (x0.Paid.length : Int)))
        ((idx x0.Paid s51).bind fun x67 =>
        (idx x1.Paid s51).bind fun x70 =>
        cond (x67 != x70)
          (some (.done (.inr false)))
          (some (.cont (w64 (s51 + 1)))))
        (some (.done (.inl (x0.Case.Member.Birth, x0.Case.Member.Joined, x0.Start, x1.Case.Member.Birth, x1.Case.Member.Joined, x1.Start)))))
      0).bind fun r54 => brkE r54 (fun (j61 : Int × Int × Int × Int × Int × Int) =>
      some true)
      (some))

noncomputable def slices_Equal_Node (x0 : List Node) (x1 : List Node) : Option (Bool) :=
  cond ((x0.length : Int) != (x1.length : Int))
    (some false)
    ((loopW (ρ := (Unit) ⊕ (Bool)) (fun (s24 : Int) =>
      cond (decide (s24 < (x0.length : Int)))
        ((idx x0 s24).bind fun x40 =>
        (idx x1 s24).bind fun x43 =>
        cond (!((x40.Kind == x43.Kind) && ((x40.A == x43.A) && ((x40.B == x43.B) && ((x40.C == x43.C) && (((x40.Value.Num == x43.Value.Num) && ((x40.Value.Den == x43.Value.Den) && true)) && true))))))
          (some (.done (.inr false)))
          (some (.cont (w64 (s24 + 1)))))
        (some (.done (.inl ()))))
      0).bind fun r27 => brkE r27 (fun (j34 : Unit) =>
      some true)
      (some))

noncomputable def impl_SameOffice_1 (x0 : Rule) (x1 : Rule) : Option (Bool) :=
  Option.bind (α := Bool)
    (cond (x0.Name == x1.Name)
      (cond (x0.From == x1.From)
        (cond (x0.To == x1.To)
          (cond (x0.Joined == x1.Joined)
            (cond (x0.Rank == x1.Rank)
              (cond (x0.Mode == x1.Mode)
                ((slices_Equal_Node x0.Nodes x1.Nodes).bind fun t42 =>
                some t42)
                (some false))
              (some false))
            (some false))
          (some false))
        (some false))
      (some false))
    fun p21 =>
  some p21

noncomputable def slices_EqualFunc_Rule__impl_SameOffice_1 (x0 : List Rule) (x1 : List Rule) : Option (Bool) :=
  cond ((x0.length : Int) != (x1.length : Int))
    (some false)
    ((loopW (ρ := (Unit) ⊕ (Bool)) (fun (s24 : Int) =>
      cond (decide (s24 < (x0.length : Int)))
        ((idx x0 s24).bind fun x40 =>
        (idx x1 s24).bind fun x47 =>
        (impl_SameOffice_1 x40 x47).bind fun t54 =>
        cond (!t54)
          (some (.done (.inr false)))
          (some (.cont (w64 (s24 + 1)))))
        (some (.done (.inl ()))))
      0).bind fun r27 => brkE r27 (fun (j34 : Unit) =>
      some true)
      (some))

noncomputable def slices_Equal_Fact (x0 : List Fact) (x1 : List Fact) : Option (Bool) :=
  cond ((x0.length : Int) != (x1.length : Int))
    (some false)
    ((loopW (ρ := (Unit) ⊕ (Bool)) (fun (s24 : Int) =>
      cond (decide (s24 < (x0.length : Int)))
        ((idx x0 s24).bind fun x40 =>
        (idx x1 s24).bind fun x43 =>
        cond (!((x40.Key == x43.Key) && ((x40.From == x43.From) && ((x40.To == x43.To) && ((x40.Known == x43.Known) && ((x40.Value == x43.Value) && true))))))
          (some (.done (.inr false)))
          (some (.cont (w64 (s24 + 1)))))
        (some (.done (.inl ()))))
      0).bind fun r27 => brkE r27 (fun (j34 : Unit) =>
      some true)
      (some))

noncomputable def slices_Equal_Point (x0 : List Point) (x1 : List Point) : Option (Bool) :=
  cond ((x0.length : Int) != (x1.length : Int))
    (some false)
    ((loopW (ρ := (Unit) ⊕ (Bool)) (fun (s24 : Int) =>
      cond (decide (s24 < (x0.length : Int)))
        ((idx x0 s24).bind fun x40 =>
        (idx x1 s24).bind fun x43 =>
        cond (!((x40.Month == x43.Month) && ((x40.Known == x43.Known) && ((x40.Value == x43.Value) && true))))
          (some (.done (.inr false)))
          (some (.cont (w64 (s24 + 1)))))
        (some (.done (.inl ()))))
      0).bind fun r27 => brkE r27 (fun (j34 : Unit) =>
      some true)
      (some))

noncomputable def slices_Equal_Spell (x0 : List Spell) (x1 : List Spell) : Option (Bool) :=
  cond ((x0.length : Int) != (x1.length : Int))
    (some false)
    ((loopW (ρ := (Unit) ⊕ (Bool)) (fun (s24 : Int) =>
      cond (decide (s24 < (x0.length : Int)))
        ((idx x0 s24).bind fun x40 =>
        (idx x1 s24).bind fun x43 =>
        cond (!((x40.From == x43.From) && ((x40.To == x43.To) && ((x40.Percent == x43.Percent) && ((x40.Leave == x43.Leave) && true)))))
          (some (.done (.inr false)))
          (some (.cont (w64 (s24 + 1)))))
        (some (.done (.inl ()))))
      0).bind fun r27 => brkE r27 (fun (j34 : Unit) =>
      some true)
      (some))

noncomputable def slices_Equal_Event (x0 : List Event) (x1 : List Event) : Option (Bool) :=
  cond ((x0.length : Int) != (x1.length : Int))
    (some false)
    ((loopW (ρ := (Unit) ⊕ (Bool)) (fun (s24 : Int) =>
      cond (decide (s24 < (x0.length : Int)))
        ((idx x0 s24).bind fun x40 =>
        (idx x1 s24).bind fun x43 =>
        cond (!((x40.Kind == x43.Kind) && ((x40.Month == x43.Month) && true)))
          (some (.done (.inr false)))
          (some (.cont (w64 (s24 + 1)))))
        (some (.done (.inl ()))))
      0).bind fun r27 => brkE r27 (fun (j34 : Unit) =>
      some true)
      (some))

noncomputable def slices_Equal_int (x0 : List Int) (x1 : List Int) : Option (Bool) :=
  cond ((x0.length : Int) != (x1.length : Int))
    (some false)
    ((loopW (ρ := (Unit) ⊕ (Bool)) (fun (s24 : Int) =>
      cond (decide (s24 < (x0.length : Int)))
        ((idx x0 s24).bind fun x40 =>
        (idx x1 s24).bind fun x43 =>
        cond (x40 != x43)
          (some (.done (.inr false)))
          (some (.cont (w64 (s24 + 1)))))
        (some (.done (.inl ()))))
      0).bind fun r27 => brkE r27 (fun (j34 : Unit) =>
      some true)
      (some))

noncomputable def impl_SameOffice (x0 : Office) (x1 : Office) : Option (Bool) :=
  Option.bind (α := Bool)
    ((slices_EqualFunc_Rule__impl_SameOffice_1 x0.Case.Book.Rules x1.Case.Book.Rules).bind fun t25 =>
    cond t25
      ((slices_Equal_Fact x0.Case.Store.Facts x1.Case.Store.Facts).bind fun t32 =>
      cond t32
        ((slices_Equal_Point x0.Case.Series.Points x1.Case.Series.Points).bind fun t39 =>
        cond t39
          (cond (x0.Case.Member.Birth == x1.Case.Member.Birth)
            (cond (x0.Case.Member.Joined == x1.Case.Member.Joined)
              ((slices_Equal_Spell x0.Case.Member.Spells x1.Case.Member.Spells).bind fun t52 =>
              cond t52
                ((slices_Equal_Event x0.Case.Member.Events x1.Case.Member.Events).bind fun t59 =>
                cond t59
                  (cond (x0.Start == x1.Start)
                    ((slices_Equal_int x0.Paid x1.Paid).bind fun t69 =>
                    some t69)
                    (some false))
                  (some false))
                (some false))
              (some false))
            (some false))
          (some false))
        (some false))
      (some false))
    fun p22 =>
  some p22

noncomputable def laws_eqFrac (x0 : Frac) (x1 : Frac) : Option (Bool) :=
  cond (x0.Num != x1.Num)
    (some false)
    (cond (x0.Den != x1.Den)
      (some false)
      (some true))

noncomputable def laws_eqNode (x0 : Node) (x1 : Node) : Option (Bool) :=
  cond (x0.Kind != x1.Kind)
    (some false)
    (cond (x0.A != x1.A)
      (some false)
      (cond (x0.B != x1.B)
        (some false)
        (cond (x0.C != x1.C)
          (some false)
          ((laws_eqFrac x0.Value x1.Value).bind fun t33 =>
          cond (!t33)
            (some false)
            (some true)))))

noncomputable def laws_eqNodeS (x0 : List Node) (x1 : List Node) : Option (Bool) :=
  cond ((x0.length : Int) != (x1.length : Int))
    (some false)
    ((loopW (ρ := (Unit) ⊕ (Bool)) (fun (s24 : Int) =>
      cond (decide (s24 < (x0.length : Int)))
        ((idx x0 s24).bind fun x40 =>
        (idx x1 s24).bind fun x43 =>
        (laws_eqNode x40 x43).bind fun t46 =>
        cond (!t46)
          (some (.done (.inr false)))
          (some (.cont (w64 (s24 + 1)))))
        (some (.done (.inl ()))))
      0).bind fun r27 => brkE r27 (fun (j34 : Unit) =>
      some true)
      (some))

noncomputable def laws_eqRule (x0 : Rule) (x1 : Rule) : Option (Bool) :=
  cond (x0.Name != x1.Name)
    (some false)
    (cond (x0.From != x1.From)
      (some false)
      (cond (x0.To != x1.To)
        (some false)
        (cond (x0.Joined != x1.Joined)
          (some false)
          (cond (x0.Rank != x1.Rank)
            (some false)
            (cond (x0.Mode != x1.Mode)
              (some false)
              ((laws_eqNodeS x0.Nodes x1.Nodes).bind fun t39 =>
              cond (!t39)
                (some false)
                (some true)))))))

noncomputable def laws_eqRuleS (x0 : List Rule) (x1 : List Rule) : Option (Bool) :=
  cond ((x0.length : Int) != (x1.length : Int))
    (some false)
    ((loopW (ρ := (Unit) ⊕ (Bool)) (fun (s24 : Int) =>
      cond (decide (s24 < (x0.length : Int)))
        ((idx x0 s24).bind fun x40 =>
        (idx x1 s24).bind fun x47 =>
        (laws_eqRule x40 x47).bind fun t54 =>
        cond (!t54)
          (some (.done (.inr false)))
          (some (.cont (w64 (s24 + 1)))))
        (some (.done (.inl ()))))
      0).bind fun r27 => brkE r27 (fun (j34 : Unit) =>
      some true)
      (some))

noncomputable def laws_eqBook (x0 : Book) (x1 : Book) : Option (Bool) :=
  (laws_eqRuleS x0.Rules x1.Rules).bind fun t21 =>
  cond (!t21)
    (some false)
    (some true)

noncomputable def laws_eqFact (x0 : Fact) (x1 : Fact) : Option (Bool) :=
  cond (x0.Key != x1.Key)
    (some false)
    (cond (x0.From != x1.From)
      (some false)
      (cond (x0.To != x1.To)
        (some false)
        (cond (x0.Known != x1.Known)
          (some false)
          (cond (x0.Value != x1.Value)
            (some false)
            (some true)))))

noncomputable def laws_eqFactS (x0 : List Fact) (x1 : List Fact) : Option (Bool) :=
  cond ((x0.length : Int) != (x1.length : Int))
    (some false)
    ((loopW (ρ := (Unit) ⊕ (Bool)) (fun (s24 : Int) =>
      cond (decide (s24 < (x0.length : Int)))
        ((idx x0 s24).bind fun x40 =>
        (idx x1 s24).bind fun x43 =>
        (laws_eqFact x40 x43).bind fun t46 =>
        cond (!t46)
          (some (.done (.inr false)))
          (some (.cont (w64 (s24 + 1)))))
        (some (.done (.inl ()))))
      0).bind fun r27 => brkE r27 (fun (j34 : Unit) =>
      some true)
      (some))

noncomputable def laws_eqStore (x0 : Store) (x1 : Store) : Option (Bool) :=
  (laws_eqFactS x0.Facts x1.Facts).bind fun t21 =>
  cond (!t21)
    (some false)
    (some true)

noncomputable def laws_eqPoint (x0 : Point) (x1 : Point) : Option (Bool) :=
  cond (x0.Month != x1.Month)
    (some false)
    (cond (x0.Known != x1.Known)
      (some false)
      (cond (x0.Value != x1.Value)
        (some false)
        (some true)))

noncomputable def laws_eqPointS (x0 : List Point) (x1 : List Point) : Option (Bool) :=
  cond ((x0.length : Int) != (x1.length : Int))
    (some false)
    ((loopW (ρ := (Unit) ⊕ (Bool)) (fun (s24 : Int) =>
      cond (decide (s24 < (x0.length : Int)))
        ((idx x0 s24).bind fun x40 =>
        (idx x1 s24).bind fun x43 =>
        (laws_eqPoint x40 x43).bind fun t46 =>
        cond (!t46)
          (some (.done (.inr false)))
          (some (.cont (w64 (s24 + 1)))))
        (some (.done (.inl ()))))
      0).bind fun r27 => brkE r27 (fun (j34 : Unit) =>
      some true)
      (some))

noncomputable def laws_eqSeries (x0 : Series) (x1 : Series) : Option (Bool) :=
  (laws_eqPointS x0.Points x1.Points).bind fun t21 =>
  cond (!t21)
    (some false)
    (some true)

noncomputable def laws_eqSpell (x0 : Spell) (x1 : Spell) : Option (Bool) :=
  cond (x0.From != x1.From)
    (some false)
    (cond (x0.To != x1.To)
      (some false)
      (cond (x0.Percent != x1.Percent)
        (some false)
        (cond (!(x0.Leave == x1.Leave))
          (some false)
          (some true))))

noncomputable def laws_eqSpellS (x0 : List Spell) (x1 : List Spell) : Option (Bool) :=
  cond ((x0.length : Int) != (x1.length : Int))
    (some false)
    ((loopW (ρ := (Unit) ⊕ (Bool)) (fun (s24 : Int) =>
      cond (decide (s24 < (x0.length : Int)))
        ((idx x0 s24).bind fun x40 =>
        (idx x1 s24).bind fun x43 =>
        (laws_eqSpell x40 x43).bind fun t46 =>
        cond (!t46)
          (some (.done (.inr false)))
          (some (.cont (w64 (s24 + 1)))))
        (some (.done (.inl ()))))
      0).bind fun r27 => brkE r27 (fun (j34 : Unit) =>
      some true)
      (some))

noncomputable def laws_eqEvent (x0 : Event) (x1 : Event) : Option (Bool) :=
  cond (x0.Kind != x1.Kind)
    (some false)
    (cond (x0.Month != x1.Month)
      (some false)
      (some true))

noncomputable def laws_eqEventS (x0 : List Event) (x1 : List Event) : Option (Bool) :=
  cond ((x0.length : Int) != (x1.length : Int))
    (some false)
    ((loopW (ρ := (Unit) ⊕ (Bool)) (fun (s24 : Int) =>
      cond (decide (s24 < (x0.length : Int)))
        ((idx x0 s24).bind fun x40 =>
        (idx x1 s24).bind fun x43 =>
        (laws_eqEvent x40 x43).bind fun t46 =>
        cond (!t46)
          (some (.done (.inr false)))
          (some (.cont (w64 (s24 + 1)))))
        (some (.done (.inl ()))))
      0).bind fun r27 => brkE r27 (fun (j34 : Unit) =>
      some true)
      (some))

noncomputable def laws_eqMember (x0 : Member) (x1 : Member) : Option (Bool) :=
  cond (x0.Birth != x1.Birth)
    (some false)
    (cond (x0.Joined != x1.Joined)
      (some false)
      ((laws_eqSpellS x0.Spells x1.Spells).bind fun t27 =>
      cond (!t27)
        (some false)
        ((laws_eqEventS x0.Events x1.Events).bind fun t34 =>
        cond (!t34)
          (some false)
          (some true))))

noncomputable def laws_eqCase (x0 : Case) (x1 : Case) : Option (Bool) :=
  (laws_eqBook x0.Book x1.Book).bind fun t21 =>
  cond (!t21)
    (some false)
    ((laws_eqStore x0.Store x1.Store).bind fun t28 =>
    cond (!t28)
      (some false)
      ((laws_eqSeries x0.Series x1.Series).bind fun t35 =>
      cond (!t35)
        (some false)
        ((laws_eqMember x0.Member x1.Member).bind fun t42 =>
        cond (!t42)
          (some false)
          (some true))))

noncomputable def laws_eqIntS (x0 : List Int) (x1 : List Int) : Option (Bool) :=
  cond ((x0.length : Int) != (x1.length : Int))
    (some false)
    ((loopW (ρ := (Unit) ⊕ (Bool)) (fun (s24 : Int) =>
      cond (decide (s24 < (x0.length : Int)))
        ((idx x0 s24).bind fun x40 =>
        (idx x1 s24).bind fun x43 =>
        cond (x40 != x43)
          (some (.done (.inr false)))
          (some (.cont (w64 (s24 + 1)))))
        (some (.done (.inl ()))))
      0).bind fun r27 => brkE r27 (fun (j34 : Unit) =>
      some true)
      (some))

noncomputable def laws_eqOffice (x0 : Office) (x1 : Office) : Option (Bool) :=
  (laws_eqCase x0.Case x1.Case).bind fun t21 =>
  cond (!t21)
    (some false)
    (cond (x0.Start != x1.Start)
      (some false)
      ((laws_eqIntS x0.Paid x1.Paid).bind fun t31 =>
      cond (!t31)
        (some false)
        (some true)))

noncomputable def laws_FnExactSameOffice (x0 : Office) (x1 : Office) : Option (Bool) :=
  (laws_szOffice x0 1048576).bind fun t21 =>
  cond (decide (t21 < 0))
    (some true)
    ((laws_szOffice x1 t21).bind fun t28 =>
    cond (decide (t28 < 0))
      (some true)
      ((laws_toOffice x0).bind fun t35 =>
      (laws_toOffice x1).bind fun t39 =>
      (spec_SameOffice t35 t39).bind fun t43 =>
      (laws_toOffice x0).bind fun t48 =>
      (laws_toOffice x1).bind fun t52 =>
      (impl_SameOffice t48 t52).bind fun t56 =>
      cond (!(t56 == t43))
        (some false)
        ((laws_toOffice x0).bind fun t63 =>
        (laws_eqOffice t48 t63).bind fun t67 =>
        cond (!t67)
          (some false)
          ((laws_toOffice x1).bind fun t75 =>
          (laws_eqOffice t52 t75).bind fun t79 =>
          cond (!t79)
            (some false)
            (some true)))))
end Go.Pen
