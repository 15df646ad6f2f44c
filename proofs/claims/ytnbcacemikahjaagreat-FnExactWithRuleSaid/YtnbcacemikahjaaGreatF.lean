/-
  What each Go function computes, as a plain function: written by a program of ours off the loaded program.
-/
import Derived.Test.YtnbcacemikahjaaGreatPenS
import Derived.Test.YtnbcacemikahjaaGreatPenI
namespace Go.Pen
set_option linter.unusedVariables false
set_option linter.unusedSimpArgs false
set_option maxRecDepth 100000
set_option maxHeartbeats 4000000

noncomputable def laws_szNodeS (x0 : List Node) (x1 : Int) : Option (Int) :=
  cond (decide ((w64 (x1 - (x0.length : Int))) < 0))
    (some (-1))
    (some (w64 (x1 - (x0.length : Int))))

noncomputable def laws_szRule (x0 : Rule) (x1 : Int) : Option (Int) :=
  (laws_szNodeS x0.Nodes x1).bind fun t21 =>
  cond (decide (t21 < 0))
    (some (-1))
    (some t21)

noncomputable def laws_szRuleS (x0 : List Rule) (x1 : Int) : Option (Int) :=
  cond (decide ((w64 (x1 - (x0.length : Int))) < 0))
    (some (-1))
    ((loopW (ρ := (Int) ⊕ (Int)) (fun (s24 : Int × Int) =>
      cond (decide (s24.1 < (x0.length : Int)))
        ((idx x0 s24.1).bind fun x40 =>
        (laws_szRule x40 s24.2).bind fun t47 =>
        cond (decide (t47 < 0))
          (some (.done (.inr (-1))))
          (some (.cont (w64 (s24.1 + 1), t47))))
        (some (.done (.inl s24.2))))
      (0, w64 (x1 - (x0.length : Int)))).bind fun r27 => brkE r27 (fun (j34 : Int) =>
      some j34)
      (some))

noncomputable def laws_szBook (x0 : Book) (x1 : Int) : Option (Int) :=
  (laws_szRuleS x0.Rules x1).bind fun t21 =>
  cond (decide (t21 < 0))
    (some (-1))
    (some t21)

noncomputable def laws_szFactS (x0 : List Fact) (x1 : Int) : Option (Int) :=
  cond (decide ((w64 (x1 - (x0.length : Int))) < 0))
    (some (-1))
    (some (w64 (x1 - (x0.length : Int))))

noncomputable def laws_szStore (x0 : Store) (x1 : Int) : Option (Int) :=
  (laws_szFactS x0.Facts x1).bind fun t21 =>
  cond (decide (t21 < 0))
    (some (-1))
    (some t21)

noncomputable def laws_szPointS (x0 : List Point) (x1 : Int) : Option (Int) :=
  cond (decide ((w64 (x1 - (x0.length : Int))) < 0))
    (some (-1))
    (some (w64 (x1 - (x0.length : Int))))

noncomputable def laws_szSeries (x0 : Series) (x1 : Int) : Option (Int) :=
  (laws_szPointS x0.Points x1).bind fun t21 =>
  cond (decide (t21 < 0))
    (some (-1))
    (some t21)

noncomputable def laws_szSpellS (x0 : List Spell) (x1 : Int) : Option (Int) :=
  cond (decide ((w64 (x1 - (x0.length : Int))) < 0))
    (some (-1))
    (some (w64 (x1 - (x0.length : Int))))

noncomputable def laws_szEventS (x0 : List Event) (x1 : Int) : Option (Int) :=
  cond (decide ((w64 (x1 - (x0.length : Int))) < 0))
    (some (-1))
    (some (w64 (x1 - (x0.length : Int))))

noncomputable def laws_szMember (x0 : Member) (x1 : Int) : Option (Int) :=
  (laws_szSpellS x0.Spells x1).bind fun t21 =>
  cond (decide (t21 < 0))
    (some (-1))
    ((laws_szEventS x0.Events t21).bind fun t28 =>
    cond (decide (t28 < 0))
      (some (-1))
      (some t28))

noncomputable def laws_szCase (x0 : Case) (x1 : Int) : Option (Int) :=
  (laws_szBook x0.Book x1).bind fun t21 =>
  cond (decide (t21 < 0))
    (some (-1))
    ((laws_szStore x0.Store t21).bind fun t28 =>
    cond (decide (t28 < 0))
      (some (-1))
      ((laws_szSeries x0.Series t28).bind fun t35 =>
      cond (decide (t35 < 0))
        (some (-1))
        ((laws_szMember x0.Member t35).bind fun t42 =>
        cond (decide (t42 < 0))
          (some (-1))
          (some t42))))

noncomputable def laws_toFrac (x0 : Frac) : Option (Frac) :=
  some x0

noncomputable def laws_toNode (x0 : Node) : Option (Node) :=
  (laws_toFrac x0.Value).bind fun t21 =>
  some (Node.mk x0.Kind x0.A x0.B x0.C t21)

noncomputable def laws_toNodeS (x0 : List Node) : Option ((List Node)) :=
  (mkL (x0.length : Int) (Node.mk 0 0 0 0 (Frac.mk 0 0) : Node)).bind fun l22 =>
  (loopW (ρ := ((List Node)) ⊕ ((List Node))) (fun (s25 : Int × (List Node)) =>
    cond (decide (s25.1 < (x0.length : Int)))
      ((idx x0 s25.1).bind fun x41 =>
      (laws_toNode x41).bind fun t44 =>
      (idx s25.2 s25.1).bind fun x48 =>
      (some (List.set s25.2 (Int.toNat s25.1) t44)).bind fun l51 =>
      some (.cont (w64 (s25.1 + 1), l51)))
      (some (.done (.inl s25.2))))
    (0, l22)).bind fun r28 => brkE r28 (fun (j35 : (List Node)) =>
    some j35)
    (some)

noncomputable def laws_toRule (x0 : Rule) : Option (Rule) :=
  (laws_toNodeS x0.Nodes).bind fun t21 =>
  some (Rule.mk x0.Name x0.From x0.To x0.Joined x0.Rank x0.Mode t21)

noncomputable def laws_toRuleS (x0 : List Rule) : Option ((List Rule)) :=
  (mkL (x0.length : Int) (Rule.mk 0 0 0 0 0 0 ([] : List Node) : Rule)).bind fun l22 =>
  (loopW (ρ := ((List Rule)) ⊕ ((List Rule))) (fun (s25 : Int × (List Rule)) =>
    cond (decide (s25.1 < (x0.length : Int)))
      ((idx x0 s25.1).bind fun x41 =>
      (laws_toRule x41).bind fun t48 =>
      (idx s25.2 s25.1).bind fun x52 =>
      (some (List.set s25.2 (Int.toNat s25.1) t48)).bind fun l55 =>
      some (.cont (w64 (s25.1 + 1), l55)))
      (some (.done (.inl s25.2))))
    (0, l22)).bind fun r28 => brkE r28 (fun (j35 : (List Rule)) =>
    some j35)
    (some)

noncomputable def laws_toBook (x0 : Book) : Option (Book) :=
  (laws_toRuleS x0.Rules).bind fun t21 =>
  some (Book.mk t21)

noncomputable def laws_toFact (x0 : Fact) : Option (Fact) :=
  some x0

noncomputable def laws_toFactS (x0 : List Fact) : Option ((List Fact)) :=
  (mkL (x0.length : Int) (Fact.mk 0 0 0 0 0 : Fact)).bind fun l22 =>
  (loopW (ρ := ((List Fact)) ⊕ ((List Fact))) (fun (s25 : Int × (List Fact)) =>
    cond (decide (s25.1 < (x0.length : Int)))
      ((idx x0 s25.1).bind fun x41 =>
      (laws_toFact x41).bind fun t44 =>
      (idx s25.2 s25.1).bind fun x48 =>
      (some (List.set s25.2 (Int.toNat s25.1) t44)).bind fun l51 =>
      some (.cont (w64 (s25.1 + 1), l51)))
      (some (.done (.inl s25.2))))
    (0, l22)).bind fun r28 => brkE r28 (fun (j35 : (List Fact)) =>
    some j35)
    (some)

noncomputable def laws_toStore (x0 : Store) : Option (Store) :=
  (laws_toFactS x0.Facts).bind fun t21 =>
  some (Store.mk t21)

noncomputable def laws_toPoint (x0 : Point) : Option (Point) :=
  some x0

noncomputable def laws_toPointS (x0 : List Point) : Option ((List Point)) :=
  (mkL (x0.length : Int) (Point.mk 0 0 0 : Point)).bind fun l22 =>
  (loopW (ρ := ((List Point)) ⊕ ((List Point))) (fun (s25 : Int × (List Point)) =>
    cond (decide (s25.1 < (x0.length : Int)))
      ((idx x0 s25.1).bind fun x41 =>
      (laws_toPoint x41).bind fun t44 =>
      (idx s25.2 s25.1).bind fun x48 =>
      (some (List.set s25.2 (Int.toNat s25.1) t44)).bind fun l51 =>
      some (.cont (w64 (s25.1 + 1), l51)))
      (some (.done (.inl s25.2))))
    (0, l22)).bind fun r28 => brkE r28 (fun (j35 : (List Point)) =>
    some j35)
    (some)

noncomputable def laws_toSeries (x0 : Series) : Option (Series) :=
  (laws_toPointS x0.Points).bind fun t21 =>
  some (Series.mk t21)

noncomputable def laws_toSpell (x0 : Spell) : Option (Spell) :=
  some x0

noncomputable def laws_toSpellS (x0 : List Spell) : Option ((List Spell)) :=
  (mkL (x0.length : Int) (Spell.mk 0 0 0 false : Spell)).bind fun l22 =>
  (loopW (ρ := ((List Spell)) ⊕ ((List Spell))) (fun (s25 : Int × (List Spell)) =>
    cond (decide (s25.1 < (x0.length : Int)))
      ((idx x0 s25.1).bind fun x41 =>
      (laws_toSpell x41).bind fun t44 =>
      (idx s25.2 s25.1).bind fun x48 =>
      (some (List.set s25.2 (Int.toNat s25.1) t44)).bind fun l51 =>
      some (.cont (w64 (s25.1 + 1), l51)))
      (some (.done (.inl s25.2))))
    (0, l22)).bind fun r28 => brkE r28 (fun (j35 : (List Spell)) =>
    some j35)
    (some)

noncomputable def laws_toEvent (x0 : Event) : Option (Event) :=
  some x0

noncomputable def laws_toEventS (x0 : List Event) : Option ((List Event)) :=
  (mkL (x0.length : Int) (Event.mk 0 0 : Event)).bind fun l22 =>
  (loopW (ρ := ((List Event)) ⊕ ((List Event))) (fun (s25 : Int × (List Event)) =>
    cond (decide (s25.1 < (x0.length : Int)))
      ((idx x0 s25.1).bind fun x41 =>
      (laws_toEvent x41).bind fun t44 =>
      (idx s25.2 s25.1).bind fun x48 =>
      (some (List.set s25.2 (Int.toNat s25.1) t44)).bind fun l51 =>
      some (.cont (w64 (s25.1 + 1), l51)))
      (some (.done (.inl s25.2))))
    (0, l22)).bind fun r28 => brkE r28 (fun (j35 : (List Event)) =>
    some j35)
    (some)

noncomputable def laws_toMember (x0 : Member) : Option (Member) :=
  (laws_toSpellS x0.Spells).bind fun t21 =>
  (laws_toEventS x0.Events).bind fun t25 =>
  some (Member.mk x0.Birth x0.Joined t21 t25)

noncomputable def laws_toCase (x0 : Case) : Option (Case) :=
  (laws_toBook x0.Book).bind fun t21 =>
  (laws_toStore x0.Store).bind fun t25 =>
  (laws_toSeries x0.Series).bind fun t29 =>
  (laws_toMember x0.Member).bind fun t33 =>
  some (Case.mk t21 t25 t29 t33)

noncomputable def spec_l10Rule (x0 : Rule) : Option (Rule) :=
  (appC ([] : List Node) x0.Nodes).bind fun l24 =>
  some (Rule.mk x0.Name x0.From x0.To x0.Joined x0.Rank x0.Mode l24)

noncomputable def spec_l10Copy (x0 : Book) : Option (Book) :=
  (loopW (ρ := ((List Rule)) ⊕ (Book)) (fun (s21 : Int × (List Rule)) =>
    cond (decide (s21.1 < (x0.Rules.length : Int)))
      ((idx x0.Rules s21.1).bind fun x37 =>
      (spec_l10Rule x37).bind fun t44 =>
      (appC s21.2 ([t44] : List Rule)).bind fun l50 =>
      some (.cont (w64 (s21.1 + 1), l50)))
      (some (.done (.inl s21.2))))
    (0, ([] : List Rule))).bind fun r24 => brkE r24 (fun (j31 : (List Rule)) =>
    some (Book.mk j31))
    (some)

noncomputable def spec_l05Copy (x0 : Store) : Option (Store) :=
  (appC ([] : List Fact) x0.Facts).bind fun l24 =>
  some (Store.mk l24)

noncomputable def spec_l34Member (x0 : Member) : Option (Member) :=
  (appC ([] : List Spell) x0.Spells).bind fun l24 =>
  (appC ([] : List Event) x0.Events).bind fun l30 =>
  some (Member.mk x0.Birth x0.Joined l24 l30)

noncomputable def spec_l35Case (x0 : Case) : Option (Case) :=
  (spec_l10Copy x0.Book).bind fun t21 =>
  (spec_l05Copy x0.Store).bind fun t25 =>
  (appC ([] : List Point) x0.Series.Points).bind fun l31 =>
  (spec_l34Member x0.Member).bind fun t34 =>
  some (Case.mk t21 t25 (Series.mk l31) t34)

noncomputable def spec_l01In (x0 : Int) (x1 : Int) (x2 : Int) : Option (Bool) :=
  Option.bind (α := Bool)
    (cond (decide (x0 ≥ x1))
      (some (decide (x0 ≤ x2)))
      (some false))
    fun p21 =>
  some p21

noncomputable def spec_l02Abs (x0 : Int) : Option (Int) :=
  cond (decide (x0 < 0))
    (some (w64 (0 - x0)))
    (some x0)

noncomputable def spec_l02Gcd (x0 : Int) (x1 : Int) : Option (Int) :=
  (loopW (ρ := (Int) ⊕ (Int)) (fun (s21 : Int × Int) =>
    cond (s21.2 != 0)
      ((nz s21.2).bind fun _ =>
      some (.cont (s21.2, Int.tmod s21.1 s21.2)))
      (some (.done (.inl s21.1))))
    (x0, x1)).bind fun r24 => brkE r24 (fun (j31 : Int) =>
    some j31)
    (some)

noncomputable def spec_FracOk (x0 : Frac) : Option (Bool) :=
  Option.bind (α := Bool)
    ((spec_l01In x0.Den 1 1000000).bind fun t24 =>
    cond t24
      ((spec_l01In x0.Num (-1000000000000) 1000000000000).bind fun t31 =>
      cond t31
        ((spec_l02Abs x0.Num).bind fun t38 =>
        (spec_l02Gcd t38 x0.Den).bind fun t42 =>
        some (t42 == 1))
        (some false))
      (some false))
    fun p21 =>
  some p21

noncomputable def spec_l08Two (x0 : Int) : Option (Bool) :=
  (spec_l01In x0 3 8).bind fun t21 =>
  some t21

noncomputable def spec_l08At (x0 : Int) (x1 : Int) : Option (Bool) :=
  Option.bind (α := Bool)
    (cond (decide (x0 ≥ 0))
      (some (decide (x0 < x1)))
      (some false))
    fun p21 =>
  some p21

noncomputable def spec_NodeOk (x0 : Node) (x1 : Int) : Option (Bool) :=
  cond (x0.Kind == 1)
    (Option.bind (α := Bool)
      (cond (x0.A == 0)
        (cond (x0.B == 0)
          (cond (x0.C == 0)
            ((spec_FracOk x0.Value).bind fun t95 =>
            some t95)
            (some false))
          (some false))
        (some false))
      fun p83 =>
    some p83)
    (cond (!((x0.Value.Num == 0) && ((x0.Value.Den == 0) && true)))
      (some false)
      (cond (x0.Kind == 2)
        (Option.bind (α := Bool)
          ((spec_l01In x0.A 0 7).bind fun t185 =>
          cond t185
            (cond (x0.B == 0)
              (some (x0.C == 0))
              (some false))
            (some false))
          fun p182 =>
        some p182)
        ((spec_l08Two x0.Kind).bind fun t195 =>
        cond t195
          (Option.bind (α := Bool)
            ((spec_l08At x0.A x1).bind fun t222 =>
            cond t222
              ((spec_l08At x0.B x1).bind fun t229 =>
              cond t229
                (some (x0.C == 0))
                (some false))
              (some false))
            fun p219 =>
          some p219)
          (Option.bind (α := Bool)
            (cond (x0.Kind == 9)
              ((spec_l08At x0.A x1).bind fun t242 =>
              cond t242
                ((spec_l08At x0.B x1).bind fun t249 =>
                cond t249
                  ((spec_l08At x0.C x1).bind fun t256 =>
                  some t256)
                  (some false))
                (some false))
              (some false))
            fun p236 =>
          some p236))))

noncomputable def spec_FormulaOk (x0 : List Node) : Option (Bool) :=
  (loopW (ρ := (Unit) ⊕ (Bool)) (fun (s21 : Int) =>
    cond (decide (s21 < (x0.length : Int)))
      ((idx x0 s21).bind fun x41 =>
      (spec_NodeOk x41 s21).bind fun t44 =>
      cond (!t44)
        (some (.done (.inr false)))
        (some (.cont (w64 (s21 + 1)))))
      (some (.done (.inl ()))))
    0).bind fun r24 => brkE r24 (fun (j31 : Unit) =>
    (spec_l01In (x0.length : Int) 1 30).bind fun t33 =>
    some t33)
    (some)

noncomputable def spec_RuleOk (x0 : Rule) : Option (Bool) :=
  Option.bind (α := Bool)
    ((spec_l01In x0.Name 1 20).bind fun t24 =>
    cond t24
      (cond (decide (x0.From ≥ 0))
        (cond (decide (x0.From < x0.To))
          (cond (decide (x0.To ≤ 3600))
            ((spec_l01In x0.Joined 1 3600).bind fun t40 =>
            cond t40
              ((spec_l01In x0.Rank 0 9).bind fun t47 =>
              cond t47
                ((spec_l01In x0.Mode 1 4).bind fun t54 =>
                cond t54
                  ((spec_FormulaOk x0.Nodes).bind fun t61 =>
                  some t61)
                  (some false))
                (some false))
              (some false))
            (some false))
          (some false))
        (some false))
      (some false))
    fun p21 =>
  some p21

noncomputable def spec_l04End (x0 : Int) : Option (Bool) :=
  (spec_l01In x0 0 3600).bind fun t21 =>
  some t21

noncomputable def spec_MonthsIn (x0 : Int) (x1 : Int) (x2 : Int) (x3 : Int) : Option (Int) :=
  Option.bind (α := Bool)
    ((spec_l04End x0).bind fun t24 =>
    cond (!t24)
      (some true)
      ((spec_l04End x1).bind fun t31 =>
      cond (!t31)
        (some true)
        ((spec_l04End x2).bind fun t38 =>
        cond (!t38)
          (some true)
          ((spec_l04End x3).bind fun t45 =>
          some (!t45)))))
    fun p21 =>
  cond p21
    (some 0)
    (some (imax 0 (w64 ((imin x1 x3) - (imax x0 x2)))))

noncomputable def spec_BookOk (x0 : Book) : Option (Bool) :=
  (loopW (ρ := (Unit) ⊕ (Bool)) (fun (s21 : Int) =>
    cond (decide (s21 < (x0.Rules.length : Int)))
      ((idx x0.Rules s21).bind fun x37 =>
      (spec_RuleOk x37).bind fun t44 =>
      cond (!t44)
        (some (.done (.inr false)))
        ((loopW (ρ := (Int × Int × Int × Int × Int × Int × Int) ⊕ (Bool)) (fun (s52 : Int) =>
          cond (decide (s52 < s21))
            ((idx x0.Rules s52).bind fun x68 =>
            Option.bind (α := Bool)
              (cond (x68.Name == x37.Name)
                (cond (x68.Rank == x37.Rank)
                  ((spec_MonthsIn x68.From x68.To x37.From x37.To).bind fun t84 =>
                  some (decide (t84 > 0)))
                  (some false))
                (some false))
              fun p75 =>
            cond p75
              (some (.done (.inr false)))
              (some (.cont (w64 (s52 + 1)))))
            (some (.done (.inl (s21, x37.Name, x37.From, x37.To, x37.Joined, x37.Rank, x37.Mode)))))
          0).bind fun r55 => brkE r55 (fun (j62 : Int × Int × Int × Int × Int × Int × Int) =>
          some (.cont (w64 (j62.1 + 1))))
          (fun v => some (.done (.inr v)))))
      (some (.done (.inl ()))))
    0).bind fun r24 => brkE r24 (fun (j31 : Unit) =>
    some (decide ((x0.Rules.length : Int) ≤ 20)))
    (some)

noncomputable def spec_AddRule (x0 : Book) (x1 : Rule) : Option (Book × Bool) :=
  (spec_l10Copy x0).bind fun t21 =>
  (spec_l10Rule x1).bind fun t25 =>
  (appC t21.Rules ([t25] : List Rule)).bind fun l31 =>
  Option.bind (α := Bool)
    ((spec_BookOk x0).bind fun t38 =>
    cond (!t38)
      (some true)
      ((spec_BookOk (Book.mk l31)).bind fun t45 =>
      some (!t45)))
    fun p35 =>
  cond p35
    ((spec_l10Copy x0).bind fun t56 =>
    some (t56, false))
    (some (Book.mk l31, true))

noncomputable def spec_WithRule (x0 : Case) (x1 : Rule) : Option (Case × Bool) :=
  (spec_l35Case x0).bind fun t21 =>
  (spec_AddRule x0.Book x1).bind fun t25 =>
  some (Case.mk t25.1 t21.Store t21.Series t21.Member, t25.2)

noncomputable def slices_Clone_Node (x0 : List Node) : Option ((List Node)) :=
  (appC ([] : List Node) x0).bind fun l27 =>
  some l27

noncomputable def impl_copyNodes (x0 : List Node) : Option ((List Node)) :=
  (slices_Clone_Node x0).bind fun t21 =>
  some t21

noncomputable def impl_copyBook (x0 : Book) : Option (Book) :=
  (loopW (ρ := ((List Rule)) ⊕ (Book)) (fun (s21 : Int × (List Rule)) =>
    cond (decide (s21.1 < (x0.Rules.length : Int)))
      ((idx x0.Rules s21.1).bind fun x37 =>
      (impl_copyNodes x37.Nodes).bind fun t44 =>
      (appC s21.2 ([Rule.mk x37.Name x37.From x37.To x37.Joined x37.Rank x37.Mode t44] : List Rule)).bind fun l51 =>
      some (.cont (w64 (s21.1 + 1), l51)))
      (some (.done (.inl s21.2))))
    (0, ([] : List Rule))).bind fun r24 => brkE r24 (fun (j31 : (List Rule)) =>
    some (Book.mk j31))
    (some)

noncomputable def slices_Clone_Fact (x0 : List Fact) : Option ((List Fact)) :=
  (appC ([] : List Fact) x0).bind fun l27 =>
  some l27

noncomputable def impl_copyStore (x0 : Store) : Option (Store) :=
  (slices_Clone_Fact x0.Facts).bind fun t21 =>
  some (Store.mk t21)

noncomputable def slices_Clone_Point (x0 : List Point) : Option ((List Point)) :=
  (appC ([] : List Point) x0).bind fun l27 =>
  some l27

noncomputable def impl_copySeries (x0 : Series) : Option (Series) :=
  (slices_Clone_Point x0.Points).bind fun t21 =>
  some (Series.mk t21)

noncomputable def slices_Clone_Spell (x0 : List Spell) : Option ((List Spell)) :=
  (appC ([] : List Spell) x0).bind fun l27 =>
  some l27

noncomputable def slices_Clone_Event (x0 : List Event) : Option ((List Event)) :=
  (appC ([] : List Event) x0).bind fun l27 =>
  some l27

noncomputable def impl_copyMember (x0 : Member) : Option (Member) :=
  (slices_Clone_Spell x0.Spells).bind fun t21 =>
  (slices_Clone_Event x0.Events).bind fun t25 =>
  some (Member.mk x0.Birth x0.Joined t21 t25)

noncomputable def impl_copyCase (x0 : Case) : Option (Case) :=
  (impl_copyBook x0.Book).bind fun t21 =>
  (impl_copyStore x0.Store).bind fun t25 =>
  (impl_copySeries x0.Series).bind fun t29 =>
  (impl_copyMember x0.Member).bind fun t33 =>
  some (Case.mk t21 t25 t29 t33)

noncomputable def impl_within (x0 : Int) (x1 : Int) (x2 : Int) : Option (Bool) :=
  Option.bind (α := Bool)
    (cond (decide (x1 ≤ x0))
      (some (decide (x0 ≤ x2)))
      (some false))
    fun p21 =>
  some p21

noncomputable def impl_isSpan (x0 : Int) (x1 : Int) : Option (Bool) :=
  Option.bind (α := Bool)
    (cond (decide (0 ≤ x0))
      (cond (decide (x0 < x1))
        (some (decide (x1 ≤ 3600)))
        (some false))
      (some false))
    fun p21 =>
  some p21

noncomputable def impl_gcd (x0 : Int) (x1 : Int) : Option (Int) :=
  (loopW (ρ := (Int) ⊕ (Int)) (fun (s21 : Int × Int) =>
    cond (s21.2 != 0)
      ((nz s21.2).bind fun _ =>
      some (.cont (s21.2, Int.tmod s21.1 s21.2)))
      (some (.done (.inl s21.1))))
    (x0, x1)).bind fun r24 => brkE r24 (fun (j31 : Int) =>
    some (imax j31 (w64 (0 - j31))))
    (some)

noncomputable def impl_FracOk (x0 : Frac) : Option (Bool) :=
  Option.bind (α := Bool)
    ((impl_within x0.Den 1 1000000).bind fun t24 =>
    cond t24
      ((impl_within x0.Num (-1000000000000) 1000000000000).bind fun t31 =>
      cond t31
        ((impl_gcd x0.Num x0.Den).bind fun t38 =>
        some (t38 == 1))
        (some false))
      (some false))
    fun p21 =>
  some p21

noncomputable def impl_NodeOk (x0 : Node) (x1 : Int) : Option (Bool) :=
  cond (x0.Kind == 1)
    (Option.bind (α := Bool)
      (cond ((x0.Kind == x0.Kind) && ((x0.A == 0) && ((x0.B == 0) && ((x0.C == 0) && (((x0.Value.Num == x0.Value.Num) && ((x0.Value.Den == x0.Value.Den) && true)) && true)))))
        ((impl_FracOk x0.Value).bind fun t60 =>
        some t60)
        (some false))
      fun p54 =>
    some p54)
    (cond (x0.Kind == 2)
      (Option.bind (α := Bool)
        (cond ((x0.Kind == x0.Kind) && ((x0.A == x0.A) && ((x0.B == 0) && ((x0.C == 0) && (((x0.Value.Num == 0) && ((x0.Value.Den == 0) && true)) && true)))))
          ((impl_within x0.A 0 7).bind fun t90 =>
          some t90)
          (some false))
        fun p84 =>
      some p84)
      ((impl_within x0.Kind 3 9).bind fun t94 =>
      cond (!t94)
        (some false)
        (joinP (fun (j103 : Int) =>
          Option.bind (α := Bool)
            (cond ((x0.Kind == x0.Kind) && ((x0.A == x0.A) && ((x0.B == x0.B) && ((x0.C == j103) && (((x0.Value.Num == 0) && ((x0.Value.Den == 0) && true)) && true)))))
              (cond (decide (x1 > 0))
                ((impl_within x0.A 0 (w64 (x1 - 1))).bind fun t117 =>
                cond t117
                  ((impl_within x0.B 0 (w64 (x1 - 1))).bind fun t124 =>
                  cond t124
                    ((impl_within x0.C 0 (w64 (x1 - 1))).bind fun t131 =>
                    some t131)
                    (some false))
                  (some false))
                (some false))
              (some false))
            fun p108 =>
          some p108)
          (fun k105 =>
          cond (x0.Kind == 9)
            (k105 x0.C)
            (k105 0)))))

noncomputable def impl_FormulaOk (x0 : List Node) : Option (Bool) :=
  (loopW (ρ := (Unit) ⊕ (Bool)) (fun (s21 : Int) =>
    cond (decide (s21 < (x0.length : Int)))
      ((idx x0 s21).bind fun x41 =>
      (impl_NodeOk x41 s21).bind fun t44 =>
      cond (!t44)
        (some (.done (.inr false)))
        (some (.cont (w64 (s21 + 1)))))
      (some (.done (.inl ()))))
    0).bind fun r24 => brkE r24 (fun (j31 : Unit) =>
    (impl_within (x0.length : Int) 1 30).bind fun t33 =>
    some t33)
    (some)

noncomputable def impl_RuleOk (x0 : Rule) : Option (Bool) :=
  Option.bind (α := Bool)
    ((impl_within x0.Name 1 20).bind fun t24 =>
    cond t24
      ((impl_isSpan x0.From x0.To).bind fun t31 =>
      cond t31
        ((impl_within x0.Joined 1 3600).bind fun t38 =>
        cond t38
          ((impl_within x0.Rank 0 9).bind fun t45 =>
          cond t45
            ((impl_within x0.Mode 1 4).bind fun t52 =>
            cond t52
              ((impl_FormulaOk x0.Nodes).bind fun t59 =>
              some t59)
              (some false))
            (some false))
          (some false))
        (some false))
      (some false))
    fun p21 =>
  some p21

noncomputable def impl_BookOk (x0 : Book) : Option (Bool) :=
  (loopW (ρ := (Unit) ⊕ (Bool)) (fun (s21 : Int × Int) =>
    cond (decide (s21.1 < s21.2))
      ((idx x0.Rules s21.1).bind fun x37 =>
      (impl_RuleOk x37).bind fun t44 =>
      cond (!t44)
        (some (.done (.inr false)))
        ((headL x0.Rules s21.1).bind fun l52 =>
        (loopW (ρ := (Int × Int × Int × Int × Int × Int × Int × Int) ⊕ (Bool)) (fun (s56 : Int) =>
          cond (decide (s56 < (l52.length : Int)))
            ((idx l52 s56).bind fun x72 =>
            Option.bind (α := Bool)
              (cond (x72.Name == x37.Name)
                (cond (x72.Rank == x37.Rank)
                  (cond (decide (x72.From < x37.To))
                    (some (decide (x37.From < x72.To)))
                    (some false))
                  (some false))
                (some false))
              fun p79 =>
            cond p79
              (some (.done (.inr false)))
              (some (.cont (w64 (s56 + 1)))))
            (some (.done (.inl (s21.1, s21.2, x37.Name, x37.From, x37.To, x37.Joined, x37.Rank, x37.Mode)))))
          0).bind fun r59 => brkE r59 (fun (j66 : Int × Int × Int × Int × Int × Int × Int × Int) =>
          some (.cont (w64 (j66.1 + 1), j66.2.1)))
          (fun v => some (.done (.inr v)))))
      (some (.done (.inl ()))))
    (0, (x0.Rules.length : Int))).bind fun r24 => brkE r24 (fun (j31 : Unit) =>
    some (decide ((x0.Rules.length : Int) ≤ 20)))
    (some)

noncomputable def impl_AddRule (x0 : Book) (x1 : Rule) : Option (Book × Bool) :=
  (impl_copyBook x0).bind fun t21 =>
  (impl_copyNodes x1.Nodes).bind fun t25 =>
  (appC t21.Rules ([Rule.mk x1.Name x1.From x1.To x1.Joined x1.Rank x1.Mode t25] : List Rule)).bind fun l32 =>
  Option.bind (α := Bool)
    ((impl_BookOk x0).bind fun t38 =>
    cond (!t38)
      (some true)
      ((impl_BookOk (Book.mk l32)).bind fun t45 =>
      some (!t45)))
    fun p35 =>
  cond p35
    ((impl_copyBook x0).bind fun t56 =>
    some (t56, false))
    (some (Book.mk l32, true))

noncomputable def impl_WithRule (x0 : Case) (x1 : Rule) : Option (Case × Bool) :=
  (impl_copyCase x0).bind fun t21 =>
  (impl_AddRule x0.Book x1).bind fun t25 =>
  some (Case.mk t25.1 t21.Store t21.Series t21.Member, t25.2)

noncomputable def laws_eqFrac (x0 : Frac) (x1 : Frac) : Option (Bool) :=
  cond (x0.Num != x1.Num)
    (some false)
    (cond (x0.Den != x1.Den)
      (some false)
      (some true))

noncomputable def laws_eqNode (x0 : Node) (x1 : Node) : Option (Bool) :=
  cond (x0.Kind != x1.Kind)
    (some false)
    (cond (x0.A != x1.A)
      (some false)
      (cond (x0.B != x1.B)
        (some false)
        (cond (x0.C != x1.C)
          (some false)
          ((laws_eqFrac x0.Value x1.Value).bind fun t33 =>
          cond (!t33)
            (some false)
            (some true)))))

noncomputable def laws_eqNodeS (x0 : List Node) (x1 : List Node) : Option (Bool) :=
  cond ((x0.length : Int) != (x1.length : Int))
    (some false)
    ((loopW (ρ := (Unit) ⊕ (Bool)) (fun (s24 : Int) =>
      cond (decide (s24 < (x0.length : Int)))
        ((idx x0 s24).bind fun x40 =>
        (idx x1 s24).bind fun x43 =>
        (laws_eqNode x40 x43).bind fun t46 =>
        cond (!t46)
          (some (.done (.inr false)))
          (some (.cont (w64 (s24 + 1)))))
        (some (.done (.inl ()))))
      0).bind fun r27 => brkE r27 (fun (j34 : Unit) =>
      some true)
      (some))

noncomputable def laws_eqRule (x0 : Rule) (x1 : Rule) : Option (Bool) :=
  cond (x0.Name != x1.Name)
    (some false)
    (cond (x0.From != x1.From)
      (some false)
      (cond (x0.To != x1.To)
        (some false)
        (cond (x0.Joined != x1.Joined)
          (some false)
          (cond (x0.Rank != x1.Rank)
            (some false)
            (cond (x0.Mode != x1.Mode)
              (some false)
              ((laws_eqNodeS x0.Nodes x1.Nodes).bind fun t39 =>
              cond (!t39)
                (some false)
                (some true)))))))

noncomputable def laws_eqRuleS (x0 : List Rule) (x1 : List Rule) : Option (Bool) :=
  cond ((x0.length : Int) != (x1.length : Int))
    (some false)
    ((loopW (ρ := (Unit) ⊕ (Bool)) (fun (s24 : Int) =>
      cond (decide (s24 < (x0.length : Int)))
        ((idx x0 s24).bind fun x40 =>
        (idx x1 s24).bind fun x47 =>
        (laws_eqRule x40 x47).bind fun t54 =>
        cond (!t54)
          (some (.done (.inr false)))
          (some (.cont (w64 (s24 + 1)))))
        (some (.done (.inl ()))))
      0).bind fun r27 => brkE r27 (fun (j34 : Unit) =>
      some true)
      (some))

noncomputable def laws_eqBook (x0 : Book) (x1 : Book) : Option (Bool) :=
  (laws_eqRuleS x0.Rules x1.Rules).bind fun t21 =>
  cond (!t21)
    (some false)
    (some true)

noncomputable def laws_eqFact (x0 : Fact) (x1 : Fact) : Option (Bool) :=
  cond (x0.Key != x1.Key)
    (some false)
    (cond (x0.From != x1.From)
      (some false)
      (cond (x0.To != x1.To)
        (some false)
        (cond (x0.Known != x1.Known)
          (some false)
          (cond (x0.Value != x1.Value)
            (some false)
            (some true)))))

noncomputable def laws_eqFactS (x0 : List Fact) (x1 : List Fact) : Option (Bool) :=
  cond ((x0.length : Int) != (x1.length : Int))
    (some false)
    ((loopW (ρ := (Unit) ⊕ (Bool)) (fun (s24 : Int) =>
      cond (decide (s24 < (x0.length : Int)))
        ((idx x0 s24).bind fun x40 =>
        (idx x1 s24).bind fun x43 =>
        (laws_eqFact x40 x43).bind fun t46 =>
        cond (!t46)
          (some (.done (.inr false)))
          (some (.cont (w64 (s24 + 1)))))
        (some (.done (.inl ()))))
      0).bind fun r27 => brkE r27 (fun (j34 : Unit) =>
      some true)
      (some))

noncomputable def laws_eqStore (x0 : Store) (x1 : Store) : Option (Bool) :=
  (laws_eqFactS x0.Facts x1.Facts).bind fun t21 =>
  cond (!t21)
    (some false)
    (some true)

noncomputable def laws_eqPoint (x0 : Point) (x1 : Point) : Option (Bool) :=
  cond (x0.Month != x1.Month)
    (some false)
    (cond (x0.Known != x1.Known)
      (some false)
      (cond (x0.Value != x1.Value)
        (some false)
        (some true)))

noncomputable def laws_eqPointS (x0 : List Point) (x1 : List Point) : Option (Bool) :=
  cond ((x0.length : Int) != (x1.length : Int))
    (some false)
    ((loopW (ρ := (Unit) ⊕ (Bool)) (fun (s24 : Int) =>
      cond (decide (s24 < (x0.length : Int)))
        ((idx x0 s24).bind fun x40 =>
        (idx x1 s24).bind fun x43 =>
        (laws_eqPoint x40 x43).bind fun t46 =>
        cond (!t46)
          (some (.done (.inr false)))
          (some (.cont (w64 (s24 + 1)))))
        (some (.done (.inl ()))))
      0).bind fun r27 => brkE r27 (fun (j34 : Unit) =>
      some true)
      (some))

noncomputable def laws_eqSeries (x0 : Series) (x1 : Series) : Option (Bool) :=
  (laws_eqPointS x0.Points x1.Points).bind fun t21 =>
  cond (!t21)
    (some false)
    (some true)

noncomputable def laws_eqSpell (x0 : Spell) (x1 : Spell) : Option (Bool) :=
  cond (x0.From != x1.From)
    (some false)
    (cond (x0.To != x1.To)
      (some false)
      (cond (x0.Percent != x1.Percent)
        (some false)
        (cond (!(x0.Leave == x1.Leave))
          (some false)
          (some true))))

noncomputable def laws_eqSpellS (x0 : List Spell) (x1 : List Spell) : Option (Bool) :=
  cond ((x0.length : Int) != (x1.length : Int))
    (some false)
    ((loopW (ρ := (Unit) ⊕ (Bool)) (fun (s24 : Int) =>
      cond (decide (s24 < (x0.length : Int)))
        ((idx x0 s24).bind fun x40 =>
        (idx x1 s24).bind fun x43 =>
        (laws_eqSpell x40 x43).bind fun t46 =>
        cond (!t46)
          (some (.done (.inr false)))
          (some (.cont (w64 (s24 + 1)))))
        (some (.done (.inl ()))))
      0).bind fun r27 => brkE r27 (fun (j34 : Unit) =>
      some true)
      (some))

noncomputable def laws_eqEvent (x0 : Event) (x1 : Event) : Option (Bool) :=
  cond (x0.Kind != x1.Kind)
    (some false)
    (cond (x0.Month != x1.Month)
      (some false)
      (some true))

noncomputable def laws_eqEventS (x0 : List Event) (x1 : List Event) : Option (Bool) :=
  cond ((x0.length : Int) != (x1.length : Int))
    (some false)
    ((loopW (ρ := (Unit) ⊕ (Bool)) (fun (s24 : Int) =>
      cond (decide (s24 < (x0.length : Int)))
        ((idx x0 s24).bind fun x40 =>
        (idx x1 s24).bind fun x43 =>
        (laws_eqEvent x40 x43).bind fun t46 =>
        cond (!t46)
          (some (.done (.inr false)))
          (some (.cont (w64 (s24 + 1)))))
        (some (.done (.inl ()))))
      0).bind fun r27 => brkE r27 (fun (j34 : Unit) =>
      some true)
      (some))

noncomputable def laws_eqMember (x0 : Member) (x1 : Member) : Option (Bool) :=
  cond (x0.Birth != x1.Birth)
    (some false)
    (cond (x0.Joined != x1.Joined)
      (some false)
      ((laws_eqSpellS x0.Spells x1.Spells).bind fun t27 =>
      cond (!t27)
        (some false)
        ((laws_eqEventS x0.Events x1.Events).bind fun t34 =>
        cond (!t34)
          (some false)
          (some true))))

noncomputable def laws_eqCase (x0 : Case) (x1 : Case) : Option (Bool) :=
  (laws_eqBook x0.Book x1.Book).bind fun t21 =>
  cond (!t21)
    (some false)
    ((laws_eqStore x0.Store x1.Store).bind fun t28 =>
    cond (!t28)
      (some false)
      ((laws_eqSeries x0.Series x1.Series).bind fun t35 =>
      cond (!t35)
        (some false)
        ((laws_eqMember x0.Member x1.Member).bind fun t42 =>
        cond (!t42)
          (some false)
          (some true))))

noncomputable def laws_markNodeS (x0 : List Node) (x1 : Int) : Option (Int × (List Node)) :=
  (loopW (ρ := ((List Node) × Int) ⊕ (Int × (List Node))) (fun (s21 : Int × (List Node) × Int) =>
    cond (decide (s21.1 < (s21.2.1.length : Int)))
      ((idx s21.2.1 s21.1).bind fun x37 =>
      (some (List.set s21.2.1 (Int.toNat s21.1) (Node.mk s21.2.2 x37.A x37.B x37.C x37.Value))).bind fun l40 =>
      (idx l40 s21.1).bind fun x44 =>
      (some (List.set l40 (Int.toNat s21.1) (Node.mk x44.Kind (w64 (s21.2.2 + 1)) x44.B x44.C x44.Value))).bind fun l47 =>
      (idx l47 s21.1).bind fun x51 =>
      (some (List.set l47 (Int.toNat s21.1) (Node.mk x51.Kind x51.A (w64 ((w64 (s21.2.2 + 1)) + 1)) x51.C x51.Value))).bind fun l54 =>
      (idx l54 s21.1).bind fun x58 =>
      (some (List.set l54 (Int.toNat s21.1) (Node.mk x58.Kind x58.A x58.B (w64 ((w64 ((w64 (s21.2.2 + 1)) + 1)) + 1)) x58.Value))).bind fun l61 =>
      (idx l61 s21.1).bind fun x65 =>
      (some (List.set l61 (Int.toNat s21.1) (Node.mk x65.Kind x65.A x65.B x65.C (Frac.mk (w64 ((w64 ((w64 ((w64 (s21.2.2 + 1)) + 1)) + 1)) + 1)) x65.Value.Den)))).bind fun l68 =>
      (idx l68 s21.1).bind fun x72 =>
      (some (List.set l68 (Int.toNat s21.1) (Node.mk x72.Kind x72.A x72.B x72.C (Frac.mk x72.Value.Num (w64 ((w64 ((w64 ((w64 ((w64 (s21.2.2 + 1)) + 1)) + 1)) + 1)) + 1)))))).bind fun l75 =>
      some (.cont (w64 (s21.1 + 1), l75, w64 ((w64 ((w64 ((w64 ((w64 ((w64 (s21.2.2 + 1)) + 1)) + 1)) + 1)) + 1)) + 1))))
      (some (.done (.inl (s21.2.1, s21.2.2)))))
    (0, x0, x1)).bind fun r24 => brkE r24 (fun (j31 : (List Node) × Int) =>
    some (j31.2, j31.1))
    (some)

noncomputable def laws_markRuleS (x0 : List Rule) (x1 : Int) : Option (Int × (List Rule)) :=
  (loopW (ρ := ((List Rule) × Int) ⊕ (Int × (List Rule))) (fun (s21 : Int × (List Rule) × Int) =>
    cond (decide (s21.1 < (s21.2.1.length : Int)))
      ((idx s21.2.1 s21.1).bind fun x37 =>
      (some (List.set s21.2.1 (Int.toNat s21.1) (Rule.mk s21.2.2 x37.From x37.To x37.Joined x37.Rank x37.Mode x37.Nodes))).bind fun l40 =>
      (idx l40 s21.1).bind fun x44 =>
      (some (List.set l40 (Int.toNat s21.1) (Rule.mk x44.Name (w64 (s21.2.2 + 1)) x44.To x44.Joined x44.Rank x44.Mode x44.Nodes))).bind fun l47 =>
      (idx l47 s21.1).bind fun x51 =>
      (some (List.set l47 (Int.toNat s21.1) (Rule.mk x51.Name x51.From (w64 ((w64 (s21.2.2 + 1)) + 1)) x51.Joined x51.Rank x51.Mode x51.Nodes))).bind fun l54 =>
      (idx l54 s21.1).bind fun x58 =>
      (some (List.set l54 (Int.toNat s21.1) (Rule.mk x58.Name x58.From x58.To (w64 ((w64 ((w64 (s21.2.2 + 1)) + 1)) + 1)) x58.Rank x58.Mode x58.Nodes))).bind fun l61 =>
      (idx l61 s21.1).bind fun x65 =>
      (some (List.set l61 (Int.toNat s21.1) (Rule.mk x65.Name x65.From x65.To x65.Joined (w64 ((w64 ((w64 ((w64 (s21.2.2 + 1)) + 1)) + 1)) + 1)) x65.Mode x65.Nodes))).bind fun l68 =>
      (idx l68 s21.1).bind fun x72 =>
      (some (List.set l68 (Int.toNat s21.1) (Rule.mk x72.Name x72.From x72.To x72.Joined x72.Rank (w64 ((w64 ((w64 ((w64 ((w64 (s21.2.2 + 1)) + 1)) + 1)) + 1)) + 1)) x72.Nodes))).bind fun l75 =>
      (idx l75 s21.1).bind fun x79 =>
      (laws_markNodeS x79.Nodes (w64 ((w64 ((w64 ((w64 ((w64 ((w64 (s21.2.2 + 1)) + 1)) + 1)) + 1)) + 1)) + 1))).bind fun t85 =>
      (sameLen t85.2 x79.Nodes).bind fun _ =>
      (some (List.set l75 (Int.toNat s21.1) (Rule.mk x79.Name x79.From x79.To x79.Joined x79.Rank x79.Mode t85.2))).bind fun l93 =>
      some (.cont (w64 (s21.1 + 1), l93, t85.1)))
      (some (.done (.inl (s21.2.1, s21.2.2)))))
    (0, x0, x1)).bind fun r24 => brkE r24 (fun (j31 : (List Rule) × Int) =>
    some (j31.2, j31.1))
    (some)

noncomputable def laws_markBook (x0 : Book) (x1 : Int) : Option (Int × (List Rule)) :=
  (laws_markRuleS x0.Rules x1).bind fun t21 =>
  (sameLen t21.2 x0.Rules).bind fun _ =>
  some (t21.1, t21.2)

noncomputable def laws_markFactS (x0 : List Fact) (x1 : Int) : Option (Int × (List Fact)) :=
  (loopW (ρ := ((List Fact) × Int) ⊕ (Int × (List Fact))) (fun (s21 : Int × (List Fact) × Int) =>
    cond (decide (s21.1 < (s21.2.1.length : Int)))
      ((idx s21.2.1 s21.1).bind fun x37 =>
      (some (List.set s21.2.1 (Int.toNat s21.1) (Fact.mk s21.2.2 x37.From x37.To x37.Known x37.Value))).bind fun l40 =>
      (idx l40 s21.1).bind fun x44 =>
      (some (List.set l40 (Int.toNat s21.1) (Fact.mk x44.Key (w64 (s21.2.2 + 1)) x44.To x44.Known x44.Value))).bind fun l47 =>
      (idx l47 s21.1).bind fun x51 =>
      (some (List.set l47 (Int.toNat s21.1) (Fact.mk x51.Key x51.From (w64 ((w64 (s21.2.2 + 1)) + 1)) x51.Known x51.Value))).bind fun l54 =>
      (idx l54 s21.1).bind fun x58 =>
      (some (List.set l54 (Int.toNat s21.1) (Fact.mk x58.Key x58.From x58.To (w64 ((w64 ((w64 (s21.2.2 + 1)) + 1)) + 1)) x58.Value))).bind fun l61 =>
      (idx l61 s21.1).bind fun x65 =>
      (some (List.set l61 (Int.toNat s21.1) (Fact.mk x65.Key x65.From x65.To x65.Known (w64 ((w64 ((w64 ((w64 (s21.2.2 + 1)) + 1)) + 1)) + 1))))).bind fun l68 =>
      some (.cont (w64 (s21.1 + 1), l68, w64 ((w64 ((w64 ((w64 ((w64 (s21.2.2 + 1)) + 1)) + 1)) + 1)) + 1))))
      (some (.done (.inl (s21.2.1, s21.2.2)))))
    (0, x0, x1)).bind fun r24 => brkE r24 (fun (j31 : (List Fact) × Int) =>
    some (j31.2, j31.1))
    (some)

noncomputable def laws_markStore (x0 : Store) (x1 : Int) : Option (Int × (List Fact)) :=
  (laws_markFactS x0.Facts x1).bind fun t21 =>
  (sameLen t21.2 x0.Facts).bind fun _ =>
  some (t21.1, t21.2)

noncomputable def laws_markPointS (x0 : List Point) (x1 : Int) : Option (Int × (List Point)) :=
  (loopW (ρ := ((List Point) × Int) ⊕ (Int × (List Point))) (fun (s21 : Int × (List Point) × Int) =>
    cond (decide (s21.1 < (s21.2.1.length : Int)))
      ((idx s21.2.1 s21.1).bind fun x37 =>
      (some (List.set s21.2.1 (Int.toNat s21.1) (Point.mk s21.2.2 x37.Known x37.Value))).bind fun l40 =>
      (idx l40 s21.1).bind fun x44 =>
      (some (List.set l40 (Int.toNat s21.1) (Point.mk x44.Month (w64 (s21.2.2 + 1)) x44.Value))).bind fun l47 =>
      (idx l47 s21.1).bind fun x51 =>
      (some (List.set l47 (Int.toNat s21.1) (Point.mk x51.Month x51.Known (w64 ((w64 (s21.2.2 + 1)) + 1))))).bind fun l54 =>
      some (.cont (w64 (s21.1 + 1), l54, w64 ((w64 ((w64 (s21.2.2 + 1)) + 1)) + 1))))
      (some (.done (.inl (s21.2.1, s21.2.2)))))
    (0, x0, x1)).bind fun r24 => brkE r24 (fun (j31 : (List Point) × Int) =>
    some (j31.2, j31.1))
    (some)

noncomputable def laws_markSeries (x0 : Series) (x1 : Int) : Option (Int × (List Point)) :=
  (laws_markPointS x0.Points x1).bind fun t21 =>
  (sameLen t21.2 x0.Points).bind fun _ =>
  some (t21.1, t21.2)

noncomputable def laws_markSpellS (x0 : List Spell) (x1 : Int) : Option (Int × (List Spell)) :=
  (loopW (ρ := ((List Spell) × Int) ⊕ (Int × (List Spell))) (fun (s21 : Int × (List Spell) × Int) =>
    cond (decide (s21.1 < (s21.2.1.length : Int)))
      ((idx s21.2.1 s21.1).bind fun x37 =>
      (some (List.set s21.2.1 (Int.toNat s21.1) (Spell.mk s21.2.2 x37.To x37.Percent x37.Leave))).bind fun l40 =>
      (idx l40 s21.1).bind fun x44 =>
      (some (List.set l40 (Int.toNat s21.1) (Spell.mk x44.From (w64 (s21.2.2 + 1)) x44.Percent x44.Leave))).bind fun l47 =>
      (idx l47 s21.1).bind fun x51 =>
      (some (List.set l47 (Int.toNat s21.1) (Spell.mk x51.From x51.To (w64 ((w64 (s21.2.2 + 1)) + 1)) x51.Leave))).bind fun l54 =>
      (idx l54 s21.1).bind fun x58 =>
      (some (List.set l54 (Int.toNat s21.1) (Spell.mk x58.From x58.To x58.Percent ((Int.tmod (w64 ((w64 ((w64 (s21.2.2 + 1)) + 1)) + 1)) 3) == 0)))).bind fun l61 =>
      some (.cont (w64 (s21.1 + 1), l61, w64 ((w64 ((w64 ((w64 (s21.2.2 + 1)) + 1)) + 1)) + 1))))
      (some (.done (.inl (s21.2.1, s21.2.2)))))
    (0, x0, x1)).bind fun r24 => brkE r24 (fun (j31 : (List Spell) × Int) =>
    some (j31.2, j31.1))
    (some)

noncomputable def laws_markEventS (x0 : List Event) (x1 : Int) : Option (Int × (List Event)) :=
  (loopW (ρ := ((List Event) × Int) ⊕ (Int × (List Event))) (fun (s21 : Int × (List Event) × Int) =>
    cond (decide (s21.1 < (s21.2.1.length : Int)))
      ((idx s21.2.1 s21.1).bind fun x37 =>
      (some (List.set s21.2.1 (Int.toNat s21.1) (Event.mk s21.2.2 x37.Month))).bind fun l40 =>
      (idx l40 s21.1).bind fun x44 =>
      (some (List.set l40 (Int.toNat s21.1) (Event.mk x44.Kind (w64 (s21.2.2 + 1))))).bind fun l47 =>
      some (.cont (w64 (s21.1 + 1), l47, w64 ((w64 (s21.2.2 + 1)) + 1))))
      (some (.done (.inl (s21.2.1, s21.2.2)))))
    (0, x0, x1)).bind fun r24 => brkE r24 (fun (j31 : (List Event) × Int) =>
    some (j31.2, j31.1))
    (some)

noncomputable def laws_markMember (x0 : Member) (x1 : Int) : Option (Int × (List Spell) × (List Event)) :=
  (laws_markSpellS x0.Spells x1).bind fun t21 =>
  (sameLen t21.2 x0.Spells).bind fun _ =>
  (laws_markEventS x0.Events t21.1).bind fun t29 =>
  (sameLen t29.2 x0.Events).bind fun _ =>
  some (t29.1, t21.2, t29.2)

noncomputable def laws_markCase (x0 : Case) (x1 : Int) : Option (Int × (List Rule) × (List Fact) × (List Point) × (List Spell) × (List Event)) :=
  (laws_markBook x0.Book x1).bind fun t21 =>
  (sameLen t21.2 x0.Book.Rules).bind fun _ =>
  (laws_markStore x0.Store t21.1).bind fun t29 =>
  (sameLen t29.2 x0.Store.Facts).bind fun _ =>
  (laws_markSeries x0.Series t29.1).bind fun t37 =>
  (sameLen t37.2 x0.Series.Points).bind fun _ =>
  (laws_markMember x0.Member t37.1).bind fun t45 =>
  (sameLen t45.2.1 x0.Member.Spells).bind fun _ =>
  (sameLen t45.2.2 x0.Member.Events).bind fun _ =>
  some (t45.1, t21.2, t29.2, t37.2, t45.2.1, t45.2.2)

noncomputable def laws_markRule (x0 : Rule) (x1 : Int) : Option (Int × (List Node)) :=
  (laws_markNodeS x0.Nodes x1).bind fun t21 =>
  (sameLen t21.2 x0.Nodes).bind fun _ =>
  some (t21.1, t21.2)

noncomputable def laws_heldNodeS (x0 : List Node) (x1 : Int) : Option (Int) :=
  (loopW (ρ := (Int) ⊕ (Int)) (fun (s21 : Int × Int) =>
    cond (decide (s21.1 < (x0.length : Int)))
      ((idx x0 s21.1).bind fun x37 =>
      cond (x37.Kind != s21.2)
        (some (.done (.inr (-1))))
        ((idx x0 s21.1).bind fun x44 =>
        cond (x44.A != (w64 (s21.2 + 1)))
          (some (.done (.inr (-1))))
          ((idx x0 s21.1).bind fun x51 =>
          cond (x51.B != (w64 ((w64 (s21.2 + 1)) + 1)))
            (some (.done (.inr (-1))))
            ((idx x0 s21.1).bind fun x58 =>
            cond (x58.C != (w64 ((w64 ((w64 (s21.2 + 1)) + 1)) + 1)))
              (some (.done (.inr (-1))))
              ((idx x0 s21.1).bind fun x65 =>
              cond (x65.Value.Num != (w64 ((w64 ((w64 ((w64 (s21.2 + 1)) + 1)) + 1)) + 1)))
                (some (.done (.inr (-1))))
                ((idx x0 s21.1).bind fun x72 =>
                cond (x72.Value.Den != (w64 ((w64 ((w64 ((w64 ((w64 (s21.2 + 1)) + 1)) + 1)) + 1)) + 1)))
                  (some (.done (.inr (-1))))
                  (some (.cont (w64 (s21.1 + 1), w64 ((w64 ((w64 ((w64 ((w64 ((w64 (s21.2 + 1)) + 1)) + 1)) + 1)) + 1)) + 1))))))))))
      (some (.done (.inl s21.2))))
    (0, x1)).bind fun r24 => brkE r24 (fun (j31 : Int) =>
    some j31)
    (some)

noncomputable def laws_heldRuleS (x0 : List Rule) (x1 : Int) : Option (Int) :=
  (loopW (ρ := (Int) ⊕ (Int)) (fun (s21 : Int × Int) =>
    cond (decide (s21.1 < (x0.length : Int)))
      ((idx x0 s21.1).bind fun x37 =>
      cond (x37.Name != s21.2)
        (some (.done (.inr (-1))))
        ((idx x0 s21.1).bind fun x48 =>
        cond (x48.From != (w64 (s21.2 + 1)))
          (some (.done (.inr (-1))))
          ((idx x0 s21.1).bind fun x59 =>
          cond (x59.To != (w64 ((w64 (s21.2 + 1)) + 1)))
            (some (.done (.inr (-1))))
            ((idx x0 s21.1).bind fun x70 =>
            cond (x70.Joined != (w64 ((w64 ((w64 (s21.2 + 1)) + 1)) + 1)))
              (some (.done (.inr (-1))))
              ((idx x0 s21.1).bind fun x81 =>
              cond (x81.Rank != (w64 ((w64 ((w64 ((w64 (s21.2 + 1)) + 1)) + 1)) + 1)))
                (some (.done (.inr (-1))))
                ((idx x0 s21.1).bind fun x92 =>
                cond (x92.Mode != (w64 ((w64 ((w64 ((w64 ((w64 (s21.2 + 1)) + 1)) + 1)) + 1)) + 1)))
                  (some (.done (.inr (-1))))
                  ((idx x0 s21.1).bind fun x103 =>
                  (laws_heldNodeS x103.Nodes (w64 ((w64 ((w64 ((w64 ((w64 ((w64 (s21.2 + 1)) + 1)) + 1)) + 1)) + 1)) + 1))).bind fun t110 =>
                  cond (decide (t110 < 0))
                    (some (.done (.inr (-1))))
                    (some (.cont (w64 (s21.1 + 1), t110))))))))))
      (some (.done (.inl s21.2))))
    (0, x1)).bind fun r24 => brkE r24 (fun (j31 : Int) =>
    some j31)
    (some)

noncomputable def laws_heldBook (x0 : Book) (x1 : Int) : Option (Int) :=
  (laws_heldRuleS x0.Rules x1).bind fun t21 =>
  cond (decide (t21 < 0))
    (some (-1))
    (some t21)

noncomputable def laws_heldFactS (x0 : List Fact) (x1 : Int) : Option (Int) :=
  (loopW (ρ := (Int) ⊕ (Int)) (fun (s21 : Int × Int) =>
    cond (decide (s21.1 < (x0.length : Int)))
      ((idx x0 s21.1).bind fun x37 =>
      cond (x37.Key != s21.2)
        (some (.done (.inr (-1))))
        ((idx x0 s21.1).bind fun x44 =>
        cond (x44.From != (w64 (s21.2 + 1)))
          (some (.done (.inr (-1))))
          ((idx x0 s21.1).bind fun x51 =>
          cond (x51.To != (w64 ((w64 (s21.2 + 1)) + 1)))
            (some (.done (.inr (-1))))
            ((idx x0 s21.1).bind fun x58 =>
            cond (x58.Known != (w64 ((w64 ((w64 (s21.2 + 1)) + 1)) + 1)))
              (some (.done (.inr (-1))))
              ((idx x0 s21.1).bind fun x65 =>
              cond (x65.Value != (w64 ((w64 ((w64 ((w64 (s21.2 + 1)) + 1)) + 1)) + 1)))
                (some (.done (.inr (-1))))
                (some (.cont (w64 (s21.1 + 1), w64 ((w64 ((w64 ((w64 ((w64 (s21.2 + 1)) + 1)) + 1)) + 1)) + 1)))))))))
      (some (.done (.inl s21.2))))
    (0, x1)).bind fun r24 => brkE r24 (fun (j31 : Int) =>
    some j31)
    (some)

noncomputable def laws_heldStore (x0 : Store) (x1 : Int) : Option (Int) :=
  (laws_heldFactS x0.Facts x1).bind fun t21 =>
  cond (decide (t21 < 0))
    (some (-1))
    (some t21)

noncomputable def laws_heldPointS (x0 : List Point) (x1 : Int) : Option (Int) :=
  (loopW (ρ := (Int) ⊕ (Int)) (fun (s21 : Int × Int) =>
    cond (decide (s21.1 < (x0.length : Int)))
      ((idx x0 s21.1).bind fun x37 =>
      cond (x37.Month != s21.2)
        (some (.done (.inr (-1))))
        ((idx x0 s21.1).bind fun x44 =>
        cond (x44.Known != (w64 (s21.2 + 1)))
          (some (.done (.inr (-1))))
          ((idx x0 s21.1).bind fun x51 =>
          cond (x51.Value != (w64 ((w64 (s21.2 + 1)) + 1)))
            (some (.done (.inr (-1))))
            (some (.cont (w64 (s21.1 + 1), w64 ((w64 ((w64 (s21.2 + 1)) + 1)) + 1)))))))
      (some (.done (.inl s21.2))))
    (0, x1)).bind fun r24 => brkE r24 (fun (j31 : Int) =>
    some j31)
    (some)

noncomputable def laws_heldSeries (x0 : Series) (x1 : Int) : Option (Int) :=
  (laws_heldPointS x0.Points x1).bind fun t21 =>
  cond (decide (t21 < 0))
    (some (-1))
    (some t21)

noncomputable def laws_heldSpellS (x0 : List Spell) (x1 : Int) : Option (Int) :=
  (loopW (ρ := (Int) ⊕ (Int)) (fun (s21 : Int × Int) =>
    cond (decide (s21.1 < (x0.length : Int)))
      ((idx x0 s21.1).bind fun x37 =>
      cond (x37.From != s21.2)
        (some (.done (.inr (-1))))
        ((idx x0 s21.1).bind fun x44 =>
        cond (x44.To != (w64 (s21.2 + 1)))
          (some (.done (.inr (-1))))
          ((idx x0 s21.1).bind fun x51 =>
          cond (x51.Percent != (w64 ((w64 (s21.2 + 1)) + 1)))
            (some (.done (.inr (-1))))
            ((idx x0 s21.1).bind fun x58 =>
            cond (!(x58.Leave == ((Int.tmod (w64 ((w64 ((w64 (s21.2 + 1)) + 1)) + 1)) 3) == 0)))
              (some (.done (.inr (-1))))
              (some (.cont (w64 (s21.1 + 1), w64 ((w64 ((w64 ((w64 (s21.2 + 1)) + 1)) + 1)) + 1))))))))
      (some (.done (.inl s21.2))))
    (0, x1)).bind fun r24 => brkE r24 (fun (j31 : Int) =>
    some j31)
    (some)

noncomputable def laws_heldEventS (x0 : List Event) (x1 : Int) : Option (Int) :=
  (loopW (ρ := (Int) ⊕ (Int)) (fun (s21 : Int × Int) =>
    cond (decide (s21.1 < (x0.length : Int)))
      ((idx x0 s21.1).bind fun x37 =>
      cond (x37.Kind != s21.2)
        (some (.done (.inr (-1))))
        ((idx x0 s21.1).bind fun x44 =>
        cond (x44.Month != (w64 (s21.2 + 1)))
          (some (.done (.inr (-1))))
          (some (.cont (w64 (s21.1 + 1), w64 ((w64 (s21.2 + 1)) + 1))))))
      (some (.done (.inl s21.2))))
    (0, x1)).bind fun r24 => brkE r24 (fun (j31 : Int) =>
    some j31)
    (some)

noncomputable def laws_heldMember (x0 : Member) (x1 : Int) : Option (Int) :=
  (laws_heldSpellS x0.Spells x1).bind fun t21 =>
  cond (decide (t21 < 0))
    (some (-1))
    ((laws_heldEventS x0.Events t21).bind fun t28 =>
    cond (decide (t28 < 0))
      (some (-1))
      (some t28))

noncomputable def laws_heldCase (x0 : Case) (x1 : Int) : Option (Int) :=
  (laws_heldBook x0.Book x1).bind fun t21 =>
  cond (decide (t21 < 0))
    (some (-1))
    ((laws_heldStore x0.Store t21).bind fun t28 =>
    cond (decide (t28 < 0))
      (some (-1))
      ((laws_heldSeries x0.Series t28).bind fun t35 =>
      cond (decide (t35 < 0))
        (some (-1))
        ((laws_heldMember x0.Member t35).bind fun t42 =>
        cond (decide (t42 < 0))
          (some (-1))
          (some t42))))

noncomputable def laws_FnExactWithRule (x0 : Case) (x1 : Rule) : Option (Bool) :=
  (laws_szCase x0 1048576).bind fun t21 =>
  cond (decide (t21 < 0))
    (some true)
    ((laws_szRule x1 t21).bind fun t28 =>
    cond (decide (t28 < 0))
      (some true)
      ((laws_toCase x0).bind fun t35 =>
      (laws_toRule x1).bind fun t39 =>
      (spec_WithRule t35 t39).bind fun t43 =>
      (laws_toCase x0).bind fun t48 =>
      (laws_toRule x1).bind fun t52 =>
      (impl_WithRule t48 t52).bind fun t56 =>
      Option.bind (α := Bool)
        ((laws_eqCase t56.1 t43.1).bind fun t63 =>
        cond (!t63)
          (some true)
          (some (!(t56.2 == t43.2))))
        fun p60 =>
      cond p60
        (some false)
        ((laws_toCase x0).bind fun t73 =>
        (laws_eqCase t48 t73).bind fun t77 =>
        cond (!t77)
          (some false)
          ((laws_toRule x1).bind fun t85 =>
          (laws_eqRule t52 t85).bind fun t89 =>
          cond (!t89)
            (some false)
            ((laws_markCase t48 1).bind fun t97 =>
            (sameLen t97.2.1 t48.Book.Rules).bind fun _ =>
            (sameLen t97.2.2.1 t48.Store.Facts).bind fun _ =>
            (sameLen t97.2.2.2.1 t48.Series.Points).bind fun _ =>
            (sameLen t97.2.2.2.2.1 t48.Member.Spells).bind fun _ =>
            (sameLen t97.2.2.2.2.2 t48.Member.Events).bind fun _ =>
            (laws_markRule t52 t97.1).bind fun t121 =>
            (sameLen t121.2 t52.Nodes).bind fun _ =>
            Option.bind (α := Bool)
              (cond (decide (t121.1 < 0))
                (some true)
                ((laws_eqCase t56.1 t43.1).bind fun t135 =>
                cond (!t135)
                  (some true)
                  (some (!(t56.2 == t43.2)))))
              fun p129 =>
            cond p129
              (some false)
              ((laws_markCase t56.1 1).bind fun t145 =>
              (sameLen t145.2.1 t56.1.Book.Rules).bind fun _ =>
              (sameLen t145.2.2.1 t56.1.Store.Facts).bind fun _ =>
              (sameLen t145.2.2.2.1 t56.1.Series.Points).bind fun _ =>
              (sameLen t145.2.2.2.2.1 t56.1.Member.Spells).bind fun _ =>
              (sameLen t145.2.2.2.2.2 t56.1.Member.Events).bind fun _ =>
              (laws_heldCase (Case.mk (Book.mk t145.2.1) (Store.mk t145.2.2.1) (Series.mk t145.2.2.2.1) (Member.mk t56.1.Member.Birth t56.1.Member.Joined t145.2.2.2.2.1 t145.2.2.2.2.2)) 1).bind fun t169 =>
              cond (decide (t169 < 0))
                (some false)
                (cond (t169 != t145.1)
                  (some false)
                  ((laws_toCase x0).bind fun t179 =>
                  (laws_toRule x1).bind fun t183 =>
                  (impl_WithRule t179 t183).bind fun t187 =>
                  Option.bind (α := Bool)
                    ((laws_eqCase t187.1 t43.1).bind fun t195 =>
                    cond (!t195)
                      (some true)
                      (some (!(t187.2 == t43.2))))
                    fun p192 =>
                  cond p192
                    (some false)
                    ((laws_heldCase (Case.mk (Book.mk t145.2.1) (Store.mk t145.2.2.1) (Series.mk t145.2.2.2.1) (Member.mk t56.1.Member.Birth t56.1.Member.Joined t145.2.2.2.2.1 t145.2.2.2.2.2)) 1).bind fun t205 =>
                    cond (decide (t205 < 0))
                      (some false)
                      (cond (t205 != t145.1)
                        (some false)
                        (some true)))))))))))
end Go.Pen
