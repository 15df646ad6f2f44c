/-
  What each Go function computes, as a plain function: written by a program of ours off the loaded program.
-/
import Derived.Test.YthjaemfkjlnfaaaGreatPenS
import Derived.Test.YthjaemfkjlnfaaaGreatPenI
namespace Go.Pen
set_option linter.unusedVariables false
set_option linter.unusedSimpArgs false
set_option maxRecDepth 100000
set_option maxHeartbeats 4000000
noncomputable def laws_szNodeS (x0 : List Node) (x1 : Int) : Option (Int) :=
 cond (decide ((w64 (x1 - (x0.length : Int))) < 0))
 (some (-1))
 (some (w64 (x1 - (x0.length : Int))))
noncomputable def laws_szRule (x0 : Rule) (x1 : Int) : Option (Int) :=
 (laws_szNodeS x0.Nodes x1).bind fun a0 =>
 cond (decide (a0 < 0))
 (some (-1))
 (some a0)
noncomputable def laws_szRuleS (x0 : List Rule) (x1 : Int) : Option (Int) :=
 cond (decide ((w64 (x1 - (x0.length : Int))) < 0))
 (some (-1))
 ((loopW (ρ := (Int) ⊕ (Int)) (fun (a0 : Int × Int) =>
 cond (decide (a0.1 < (x0.length : Int)))
 ((idx x0 a0.1).bind fun a2 =>
 (laws_szRule a2 a0.2).bind fun a1 =>
 cond (decide (a1 < 0))
 (some (.done (.inr (-1))))
 (some (.cont (w64 (a0.1 + 1), a1))))
 (some (.done (.inl a0.2))))
 (0, w64 (x1 - (x0.length : Int)))).bind fun a3 => brkE a3 (fun (a4 : Int) =>
 some a4)
 (some))
noncomputable def laws_szBook (x0 : Book) (x1 : Int) : Option (Int) :=
 (laws_szRuleS x0.Rules x1).bind fun a0 =>
 cond (decide (a0 < 0))
 (some (-1))
 (some a0)
noncomputable def laws_szFactS (x0 : List Fact) (x1 : Int) : Option (Int) :=
 cond (decide ((w64 (x1 - (x0.length : Int))) < 0))
 (some (-1))
 (some (w64 (x1 - (x0.length : Int))))
noncomputable def laws_szStore (x0 : Store) (x1 : Int) : Option (Int) :=
 (laws_szFactS x0.Facts x1).bind fun a0 =>
 cond (decide (a0 < 0))
 (some (-1))
 (some a0)
noncomputable def laws_szPointS (x0 : List Point) (x1 : Int) : Option (Int) :=
 cond (decide ((w64 (x1 - (x0.length : Int))) < 0))
 (some (-1))
 (some (w64 (x1 - (x0.length : Int))))
noncomputable def laws_szSeries (x0 : Series) (x1 : Int) : Option (Int) :=
 (laws_szPointS x0.Points x1).bind fun a0 =>
 cond (decide (a0 < 0))
 (some (-1))
 (some a0)
noncomputable def laws_szSpellS (x0 : List Spell) (x1 : Int) : Option (Int) :=
 cond (decide ((w64 (x1 - (x0.length : Int))) < 0))
 (some (-1))
 (some (w64 (x1 - (x0.length : Int))))
noncomputable def laws_szEventS (x0 : List Event) (x1 : Int) : Option (Int) :=
 cond (decide ((w64 (x1 - (x0.length : Int))) < 0))
 (some (-1))
 (some (w64 (x1 - (x0.length : Int))))
noncomputable def laws_szMember (x0 : Member) (x1 : Int) : Option (Int) :=
 (laws_szSpellS x0.Spells x1).bind fun a0 =>
 cond (decide (a0 < 0))
 (some (-1))
 ((laws_szEventS x0.Events a0).bind fun a1 =>
 cond (decide (a1 < 0))
 (some (-1))
 (some a1))
noncomputable def laws_szCase (x0 : Case) (x1 : Int) : Option (Int) :=
 (laws_szBook x0.Book x1).bind fun a0 =>
 cond (decide (a0 < 0))
 (some (-1))
 ((laws_szStore x0.Store a0).bind fun a1 =>
 cond (decide (a1 < 0))
 (some (-1))
 ((laws_szSeries x0.Series a1).bind fun a2 =>
 cond (decide (a2 < 0))
 (some (-1))
 ((laws_szMember x0.Member a2).bind fun a3 =>
 cond (decide (a3 < 0))
 (some (-1))
 (some a3))))
noncomputable def laws_szActS (x0 : List Act) (x1 : Int) : Option (Int) :=
 cond (decide ((w64 (x1 - (x0.length : Int))) < 0))
 (some (-1))
 (some (w64 (x1 - (x0.length : Int))))
noncomputable def laws_toFrac (x0 : Frac) : Option (Frac) :=
 some x0
noncomputable def laws_toNode (x0 : Node) : Option (Node) :=
 (laws_toFrac x0.Value).bind fun a0 =>
 some (Node.mk x0.Kind x0.A x0.B x0.C a0)
noncomputable def laws_toNodeS (x0 : List Node) : Option ((List Node)) :=
 (mkL (x0.length : Int) (Node.mk 0 0 0 0 (Frac.mk 0 0) : Node)).bind fun a1 =>
 (loopW (ρ := ((List Node)) ⊕ ((List Node))) (fun (a0 : Int × (List Node)) =>
 cond (decide (a0.1 < (x0.length : Int)))
 ((idx x0 a0.1).bind fun a2 =>
 (laws_toNode a2).bind fun a3 =>
 (idx a0.2 a0.1).bind fun a7 =>
 (some (List.set a0.2 (Int.toNat a0.1) a3)).bind fun a4 =>
 some (.cont (w64 (a0.1 + 1), a4)))
 (some (.done (.inl a0.2))))
 (0, a1)).bind fun a5 => brkE a5 (fun (a6 : (List Node)) =>
 some a6)
 (some)
noncomputable def laws_toRule (x0 : Rule) : Option (Rule) :=
 (laws_toNodeS x0.Nodes).bind fun a0 =>
 some (Rule.mk x0.Name x0.From x0.To x0.Joined x0.Rank x0.Mode a0)
noncomputable def laws_toRuleS (x0 : List Rule) : Option ((List Rule)) :=
 (mkL (x0.length : Int) (Rule.mk 0 0 0 0 0 0 ([] : List Node) : Rule)).bind fun a1 =>
 (loopW (ρ := ((List Rule)) ⊕ ((List Rule))) (fun (a0 : Int × (List Rule)) =>
 cond (decide (a0.1 < (x0.length : Int)))
 ((idx x0 a0.1).bind fun a2 =>
 (laws_toRule a2).bind fun a3 =>
 (idx a0.2 a0.1).bind fun a7 =>
 (some (List.set a0.2 (Int.toNat a0.1) a3)).bind fun a4 =>
 some (.cont (w64 (a0.1 + 1), a4)))
 (some (.done (.inl a0.2))))
 (0, a1)).bind fun a5 => brkE a5 (fun (a6 : (List Rule)) =>
 some a6)
 (some)
noncomputable def laws_toBook (x0 : Book) : Option (Book) :=
 (laws_toRuleS x0.Rules).bind fun a0 =>
 some (Book.mk a0)
noncomputable def laws_toFact (x0 : Fact) : Option (Fact) :=
 some x0
noncomputable def laws_toFactS (x0 : List Fact) : Option ((List Fact)) :=
 (mkL (x0.length : Int) (Fact.mk 0 0 0 0 0 : Fact)).bind fun a1 =>
 (loopW (ρ := ((List Fact)) ⊕ ((List Fact))) (fun (a0 : Int × (List Fact)) =>
 cond (decide (a0.1 < (x0.length : Int)))
 ((idx x0 a0.1).bind fun a2 =>
 (laws_toFact a2).bind fun a3 =>
 (idx a0.2 a0.1).bind fun a7 =>
 (some (List.set a0.2 (Int.toNat a0.1) a3)).bind fun a4 =>
 some (.cont (w64 (a0.1 + 1), a4)))
 (some (.done (.inl a0.2))))
 (0, a1)).bind fun a5 => brkE a5 (fun (a6 : (List Fact)) =>
 some a6)
 (some)
noncomputable def laws_toStore (x0 : Store) : Option (Store) :=
 (laws_toFactS x0.Facts).bind fun a0 =>
 some (Store.mk a0)
noncomputable def laws_toPoint (x0 : Point) : Option (Point) :=
 some x0
noncomputable def laws_toPointS (x0 : List Point) : Option ((List Point)) :=
 (mkL (x0.length : Int) (Point.mk 0 0 0 : Point)).bind fun a1 =>
 (loopW (ρ := ((List Point)) ⊕ ((List Point))) (fun (a0 : Int × (List Point)) =>
 cond (decide (a0.1 < (x0.length : Int)))
 ((idx x0 a0.1).bind fun a2 =>
 (laws_toPoint a2).bind fun a3 =>
 (idx a0.2 a0.1).bind fun a7 =>
 (some (List.set a0.2 (Int.toNat a0.1) a3)).bind fun a4 =>
 some (.cont (w64 (a0.1 + 1), a4)))
 (some (.done (.inl a0.2))))
 (0, a1)).bind fun a5 => brkE a5 (fun (a6 : (List Point)) =>
 some a6)
 (some)
noncomputable def laws_toSeries (x0 : Series) : Option (Series) :=
 (laws_toPointS x0.Points).bind fun a0 =>
 some (Series.mk a0)
noncomputable def laws_toSpell (x0 : Spell) : Option (Spell) :=
 some x0
noncomputable def laws_toSpellS (x0 : List Spell) : Option ((List Spell)) :=
 (mkL (x0.length : Int) (Spell.mk 0 0 0 false : Spell)).bind fun a1 =>
 (loopW (ρ := ((List Spell)) ⊕ ((List Spell))) (fun (a0 : Int × (List Spell)) =>
 cond (decide (a0.1 < (x0.length : Int)))
 ((idx x0 a0.1).bind fun a2 =>
 (laws_toSpell a2).bind fun a3 =>
 (idx a0.2 a0.1).bind fun a7 =>
 (some (List.set a0.2 (Int.toNat a0.1) a3)).bind fun a4 =>
 some (.cont (w64 (a0.1 + 1), a4)))
 (some (.done (.inl a0.2))))
 (0, a1)).bind fun a5 => brkE a5 (fun (a6 : (List Spell)) =>
 some a6)
 (some)
noncomputable def laws_toEvent (x0 : Event) : Option (Event) :=
 some x0
noncomputable def laws_toEventS (x0 : List Event) : Option ((List Event)) :=
 (mkL (x0.length : Int) (Event.mk 0 0 : Event)).bind fun a1 =>
 (loopW (ρ := ((List Event)) ⊕ ((List Event))) (fun (a0 : Int × (List Event)) =>
 cond (decide (a0.1 < (x0.length : Int)))
 ((idx x0 a0.1).bind fun a2 =>
 (laws_toEvent a2).bind fun a3 =>
 (idx a0.2 a0.1).bind fun a7 =>
 (some (List.set a0.2 (Int.toNat a0.1) a3)).bind fun a4 =>
 some (.cont (w64 (a0.1 + 1), a4)))
 (some (.done (.inl a0.2))))
 (0, a1)).bind fun a5 => brkE a5 (fun (a6 : (List Event)) =>
 some a6)
 (some)
noncomputable def laws_toMember (x0 : Member) : Option (Member) :=
 (laws_toSpellS x0.Spells).bind fun a0 =>
 (laws_toEventS x0.Events).bind fun a1 =>
 some (Member.mk x0.Birth x0.Joined a0 a1)
noncomputable def laws_toCase (x0 : Case) : Option (Case) :=
 (laws_toBook x0.Book).bind fun a0 =>
 (laws_toStore x0.Store).bind fun a1 =>
 (laws_toSeries x0.Series).bind fun a2 =>
 (laws_toMember x0.Member).bind fun a3 =>
 some (Case.mk a0 a1 a2 a3)
noncomputable def laws_toAct (x0 : Act) : Option (Act) :=
 (laws_toFact x0.Fact).bind fun a0 =>
 (laws_toPoint x0.Point).bind fun a1 =>
 some (Act.mk x0.Kind a0 a1 x0.N)
noncomputable def laws_toActS (x0 : List Act) : Option ((List Act)) :=
 (mkL (x0.length : Int) (Act.mk 0 (Fact.mk 0 0 0 0 0) (Point.mk 0 0 0) 0 : Act)).bind fun a1 =>
 (loopW (ρ := ((List Act)) ⊕ ((List Act))) (fun (a0 : Int × (List Act)) =>
 cond (decide (a0.1 < (x0.length : Int)))
 ((idx x0 a0.1).bind fun a2 =>
 (laws_toAct a2).bind fun a3 =>
 (idx a0.2 a0.1).bind fun a7 =>
 (some (List.set a0.2 (Int.toNat a0.1) a3)).bind fun a4 =>
 some (.cont (w64 (a0.1 + 1), a4)))
 (some (.done (.inl a0.2))))
 (0, a1)).bind fun a5 => brkE a5 (fun (a6 : (List Act)) =>
 some a6)
 (some)
noncomputable def spec_l01In (x0 : Int) (x1 : Int) (x2 : Int) : Option (Bool) :=
 Option.bind (α := Bool)
 (cond (decide (x0 ≥ x1))
 (some (decide (x0 ≤ x2)))
 (some false))
 fun a0 =>
 some a0
noncomputable def spec_l02Abs (x0 : Int) : Option (Int) :=
 cond (decide (x0 < 0))
 (some (w64 (0 - x0)))
 (some x0)
noncomputable def spec_l02Gcd (x0 : Int) (x1 : Int) : Option (Int) :=
 (loopW (ρ := (Int) ⊕ (Int)) (fun (a0 : Int × Int) =>
 cond (a0.2 != 0)
 ((nz a0.2).bind fun _ =>
 some (.cont (a0.2, Int.tmod a0.1 a0.2)))
 (some (.done (.inl a0.1))))
 (x0, x1)).bind fun a1 => brkE a1 (fun (a2 : Int) =>
 some a2)
 (some)
noncomputable def spec_FracOk (x0 : Frac) : Option (Bool) :=
 Option.bind (α := Bool)
 ((spec_l01In x0.Den 1 1000000).bind fun a0 =>
 cond a0
 ((spec_l01In x0.Num (-1000000000000) 1000000000000).bind fun a1 =>
 cond a1
 ((spec_l02Abs x0.Num).bind fun a2 =>
 (spec_l02Gcd a2 x0.Den).bind fun a3 =>
 some (a3 == 1))
 (some false))
 (some false))
 fun a4 =>
 some a4
noncomputable def spec_l08Two (x0 : Int) : Option (Bool) :=
 (spec_l01In x0 3 8).bind fun a0 =>
 some a0
noncomputable def spec_l08At (x0 : Int) (x1 : Int) : Option (Bool) :=
 Option.bind (α := Bool)
 (cond (decide (x0 ≥ 0))
 (some (decide (x0 < x1)))
 (some false))
 fun a0 =>
 some a0
noncomputable def spec_NodeOk (x0 : Node) (x1 : Int) : Option (Bool) :=
 cond (x0.Kind == 1)
 (Option.bind (α := Bool)
 (cond (x0.A == 0)
 (cond (x0.B == 0)
 (cond (x0.C == 0)
 ((spec_FracOk x0.Value).bind fun a0 =>
 some a0)
 (some false))
 (some false))
 (some false))
 fun a1 =>
 some a1)
 (cond (!((x0.Value.Num == 0) && ((x0.Value.Den == 0) && true)))
 (some false)
 (cond (x0.Kind == 2)
 (Option.bind (α := Bool)
 ((spec_l01In x0.A 0 7).bind fun a2 =>
 cond a2
 (cond (x0.B == 0)
 (some (x0.C == 0))
 (some false))
 (some false))
 fun a3 =>
 some a3)
 ((spec_l08Two x0.Kind).bind fun a4 =>
 cond a4
 (Option.bind (α := Bool)
 ((spec_l08At x0.A x1).bind fun a5 =>
 cond a5
 ((spec_l08At x0.B x1).bind fun a6 =>
 cond a6
 (some (x0.C == 0))
 (some false))
 (some false))
 fun a7 =>
 some a7)
 (Option.bind (α := Bool)
 (cond (x0.Kind == 9)
 ((spec_l08At x0.A x1).bind fun a8 =>
 cond a8
 ((spec_l08At x0.B x1).bind fun a9 =>
 cond a9
 ((spec_l08At x0.C x1).bind fun aa =>
 some aa)
 (some false))
 (some false))
 (some false))
 fun ab =>
 some ab))))
noncomputable def spec_FormulaOk (x0 : List Node) : Option (Bool) :=
 (loopW (ρ := (Unit) ⊕ (Bool)) (fun (a0 : Int) =>
 cond (decide (a0 < (x0.length : Int)))
 ((idx x0 a0).bind fun a1 =>
 (spec_NodeOk a1 a0).bind fun a2 =>
 cond (!a2)
 (some (.done (.inr false)))
 (some (.cont (w64 (a0 + 1)))))
 (some (.done (.inl ()))))
 0).bind fun a3 => brkE a3 (fun (a5 : Unit) =>
 (spec_l01In (x0.length : Int) 1 30).bind fun a4 =>
 some a4)
 (some)
noncomputable def spec_RuleOk (x0 : Rule) : Option (Bool) :=
 Option.bind (α := Bool)
 ((spec_l01In x0.Name 1 20).bind fun a0 =>
 cond a0
 (cond (decide (x0.From ≥ 0))
 (cond (decide (x0.From < x0.To))
 (cond (decide (x0.To ≤ 3600))
 ((spec_l01In x0.Joined 1 3600).bind fun a1 =>
 cond a1
 ((spec_l01In x0.Rank 0 9).bind fun a2 =>
 cond a2
 ((spec_l01In x0.Mode 1 4).bind fun a3 =>
 cond a3
 ((spec_FormulaOk x0.Nodes).bind fun a4 =>
 some a4)
 (some false))
 (some false))
 (some false))
 (some false))
 (some false))
 (some false))
 (some false))
 fun a5 =>
 some a5
noncomputable def spec_l04End (x0 : Int) : Option (Bool) :=
 (spec_l01In x0 0 3600).bind fun a0 =>
 some a0
noncomputable def spec_MonthsIn (x0 : Int) (x1 : Int) (x2 : Int) (x3 : Int) : Option (Int) :=
 Option.bind (α := Bool)
 ((spec_l04End x0).bind fun a0 =>
 cond (!a0)
 (some true)
 ((spec_l04End x1).bind fun a1 =>
 cond (!a1)
 (some true)
 ((spec_l04End x2).bind fun a2 =>
 cond (!a2)
 (some true)
 ((spec_l04End x3).bind fun a3 =>
 some (!a3)))))
 fun a4 =>
 cond a4
 (some 0)
 (some (imax 0 (w64 ((imin x1 x3) - (imax x0 x2)))))
noncomputable def spec_BookOk (x0 : Book) : Option (Bool) :=
 (loopW (ρ := (Unit) ⊕ (Bool)) (fun (a1 : Int) =>
 cond (decide (a1 < (x0.Rules.length : Int)))
 ((idx x0.Rules a1).bind fun a0 =>
 (spec_RuleOk a0).bind fun a4 =>
 cond (!a4)
 (some (.done (.inr false)))
 ((loopW (ρ := (Int × Int × Int × Int × Int × Int × Int) ⊕ (Bool)) (fun (a3 : Int) =>
 cond (decide (a3 < a1))
 ((idx x0.Rules a3).bind fun a2 =>
 Option.bind (α := Bool)
 (cond (a2.Name == a0.Name)
 (cond (a2.Rank == a0.Rank)
 ((spec_MonthsIn a2.From a2.To a0.From a0.To).bind fun a5 =>
 some (decide (a5 > 0)))
 (some false))
 (some false))
 fun a6 =>
 cond a6
 (some (.done (.inr false)))
 (some (.cont (w64 (a3 + 1)))))
 (some (.done (.inl (a1, a0.Name, a0.From, a0.To, a0.Joined, a0.Rank, a0.Mode)))))
 0).bind fun a7 => brkE a7 (fun (a8 : Int × Int × Int × Int × Int × Int × Int) =>
 some (.cont (w64 (a8.1 + 1))))
 (fun v => some (.done (.inr v)))))
 (some (.done (.inl ()))))
 0).bind fun a9 => brkE a9 (fun (aa : Unit) =>
 some (decide ((x0.Rules.length : Int) ≤ 20)))
 (some)
noncomputable def spec_MonthOk (x0 : Int) : Option (Bool) :=
 (spec_l01In x0 0 3599).bind fun a0 =>
 some a0
noncomputable def spec_FactOk (x0 : Fact) : Option (Bool) :=
 Option.bind (α := Bool)
 ((spec_l01In x0.Key 1 50).bind fun a0 =>
 cond a0
 (cond (decide (x0.From ≥ 0))
 (cond (decide (x0.From < x0.To))
 (cond (decide (x0.To ≤ 3600))
 ((spec_MonthOk x0.Known).bind fun a1 =>
 cond a1
 ((spec_l01In x0.Value (-1000000000) 1000000000).bind fun a2 =>
 some a2)
 (some false))
 (some false))
 (some false))
 (some false))
 (some false))
 fun a3 =>
 some a3
noncomputable def spec_StoreOk (x0 : Store) : Option (Bool) :=
 (loopW (ρ := (Unit) ⊕ (Bool)) (fun (a0 : Int) =>
 cond (decide (a0 < (x0.Facts.length : Int)))
 (Option.bind (α := Bool)
 ((idx x0.Facts a0).bind fun a1 =>
 (spec_FactOk a1).bind fun a2 =>
 cond (!a2)
 (some true)
 (cond (decide (a0 > 0))
 ((idx x0.Facts (w64 (a0 - 1))).bind fun a3 =>
 (idx x0.Facts a0).bind fun a4 =>
 some (decide (a3.Known > a4.Known)))
 (some false)))
 fun a5 =>
 cond a5
 (some (.done (.inr false)))
 (some (.cont (w64 (a0 + 1)))))
 (some (.done (.inl ()))))
 0).bind fun a6 => brkE a6 (fun (a7 : Unit) =>
 some (decide ((x0.Facts.length : Int) ≤ 200)))
 (some)
noncomputable def spec_SeriesOk (x0 : Series) : Option (Bool) :=
 (loopW (ρ := (Unit) ⊕ (Bool)) (fun (a1 : Int) =>
 cond (decide (a1 < (x0.Points.length : Int)))
 ((idx x0.Points a1).bind fun a0 =>
 Option.bind (α := Bool)
 ((spec_MonthOk a0.Month).bind fun a2 =>
 cond (!a2)
 (some true)
 ((spec_MonthOk a0.Known).bind fun a3 =>
 cond (!a3)
 (some true)
 (cond (decide (a0.Known < a0.Month))
 (some true)
 ((spec_l01In a0.Value 1 1000000).bind fun a4 =>
 cond (!a4)
 (some true)
 (cond (decide (a1 > 0))
 ((idx x0.Points (w64 (a1 - 1))).bind fun a5 =>
 some (decide (a5.Known > a0.Known)))
 (some false))))))
 fun a6 =>
 cond a6
 (some (.done (.inr false)))
 (some (.cont (w64 (a1 + 1)))))
 (some (.done (.inl ()))))
 0).bind fun a7 => brkE a7 (fun (a8 : Unit) =>
 some (decide ((x0.Points.length : Int) ≤ 200)))
 (some)
noncomputable def spec_SpellsOk (x0 : List Spell) : Option (Bool) :=
 (loopW (ρ := (Unit) ⊕ (Bool)) (fun (a1 : Int) =>
 cond (decide (a1 < (x0.length : Int)))
 ((idx x0 a1).bind fun a0 =>
 Option.bind (α := Bool)
 (cond (decide (a0.From < 0))
 (some true)
 (cond (decide (a0.From ≥ a0.To))
 (some true)
 (cond (decide (a0.To > 3600))
 (some true)
 ((spec_l01In a0.Percent 1 100).bind fun a2 =>
 cond (!a2)
 (some true)
 (cond (decide (a1 > 0))
 ((idx x0 (w64 (a1 - 1))).bind fun a3 =>
 some (decide (a3.To > a0.From)))
 (some false))))))
 fun a4 =>
 cond a4
 (some (.done (.inr false)))
 (some (.cont (w64 (a1 + 1)))))
 (some (.done (.inl ()))))
 0).bind fun a5 => brkE a5 (fun (a6 : Unit) =>
 some (decide ((x0.length : Int) ≤ 30)))
 (some)
noncomputable def spec_StatusAfter (x0 : Int) (x1 : Int) : Option (Int × Bool) :=
 Option.bind (α := Bool)
 (cond (x1 == 1)
 (cond (x0 == 0)
 (some true)
 (some (x0 == 2)))
 (some false))
 fun a0 =>
 cond a0
 (some (1, true))
 (Option.bind (α := Bool)
 (cond (x1 == 2)
 (some (x0 == 1))
 (some false))
 fun a1 =>
 cond a1
 (some (2, true))
 (Option.bind (α := Bool)
 (cond (x1 == 3)
 (cond (x0 == 1)
 (some true)
 (some (x0 == 2)))
 (some false))
 fun a2 =>
 cond a2
 (some (3, true))
 (Option.bind (α := Bool)
 (cond (x1 == 4)
 ((spec_l01In x0 1 3).bind fun a3 =>
 some a3)
 (some false))
 fun a4 =>
 cond a4
 (some (4, true))
 (some (x0, false)))))
noncomputable def spec_EventsOk (x0 : List Event) : Option (Bool) :=
 (loopW (ρ := (Unit) ⊕ (Bool)) (fun (a0 : Int × Int) =>
 cond (decide (a0.1 < (x0.length : Int)))
 ((idx x0 a0.1).bind fun a2 =>
 (spec_StatusAfter a0.2 a2.Kind).bind fun a1 =>
 Option.bind (α := Bool)
 (cond (!a1.2)
 (some true)
 ((idx x0 a0.1).bind fun a3 =>
 (spec_MonthOk a3.Month).bind fun a4 =>
 cond (!a4)
 (some true)
 (cond (decide (a0.1 > 0))
 ((idx x0 (w64 (a0.1 - 1))).bind fun a5 =>
 (idx x0 a0.1).bind fun a6 =>
 some (decide (a5.Month ≥ a6.Month)))
 (some false))))
 fun a7 =>
 cond a7
 (some (.done (.inr false)))
 (some (.cont (w64 (a0.1 + 1), a1.1))))
 (some (.done (.inl ()))))
 (0, 0)).bind fun a8 => brkE a8 (fun (a9 : Unit) =>
 some (decide ((x0.length : Int) ≤ 30)))
 (some)
noncomputable def spec_MemberOk (x0 : Member) : Option (Bool) :=
 Option.bind (α := Bool)
 ((spec_MonthOk x0.Birth).bind fun a0 =>
 cond a0
 ((spec_MonthOk x0.Joined).bind fun a1 =>
 cond a1
 (cond (decide (x0.Birth ≤ x0.Joined))
 ((spec_SpellsOk x0.Spells).bind fun a2 =>
 cond a2
 ((spec_EventsOk x0.Events).bind fun a3 =>
 some a3)
 (some false))
 (some false))
 (some false))
 (some false))
 fun a4 =>
 some a4
noncomputable def spec_CaseOk (x0 : Case) : Option (Bool) :=
 Option.bind (α := Bool)
 ((spec_BookOk x0.Book).bind fun a0 =>
 cond a0
 ((spec_StoreOk x0.Store).bind fun a1 =>
 cond a1
 ((spec_SeriesOk x0.Series).bind fun a2 =>
 cond a2
 ((spec_MemberOk x0.Member).bind fun a3 =>
 some a3)
 (some false))
 (some false))
 (some false))
 fun a4 =>
 some a4
noncomputable def spec_l10Rule (x0 : Rule) : Option (Rule) :=
 (appC ([] : List Node) x0.Nodes).bind fun a0 =>
 some (Rule.mk x0.Name x0.From x0.To x0.Joined x0.Rank x0.Mode a0)
noncomputable def spec_l10Copy (x0 : Book) : Option (Book) :=
 (loopW (ρ := ((List Rule)) ⊕ (Book)) (fun (a0 : Int × (List Rule)) =>
 cond (decide (a0.1 < (x0.Rules.length : Int)))
 ((idx x0.Rules a0.1).bind fun a1 =>
 (spec_l10Rule a1).bind fun a2 =>
 (appC a0.2 ([a2] : List Rule)).bind fun a3 =>
 some (.cont (w64 (a0.1 + 1), a3)))
 (some (.done (.inl a0.2))))
 (0, ([] : List Rule))).bind fun a4 => brkE a4 (fun (a5 : (List Rule)) =>
 some (Book.mk a5))
 (some)
noncomputable def spec_l05Copy (x0 : Store) : Option (Store) :=
 (appC ([] : List Fact) x0.Facts).bind fun a0 =>
 some (Store.mk a0)
noncomputable def spec_l34Member (x0 : Member) : Option (Member) :=
 (appC ([] : List Spell) x0.Spells).bind fun a0 =>
 (appC ([] : List Event) x0.Events).bind fun a1 =>
 some (Member.mk x0.Birth x0.Joined a0 a1)
noncomputable def spec_l35Case (x0 : Case) : Option (Case) :=
 (spec_l10Copy x0.Book).bind fun a0 =>
 (spec_l05Copy x0.Store).bind fun a1 =>
 (appC ([] : List Point) x0.Series.Points).bind fun a2 =>
 (spec_l34Member x0.Member).bind fun a3 =>
 some (Case.mk a0 a1 (Series.mk a2) a3)
noncomputable def spec_OfficeNew (x0 : Case) (x1 : Int) : Option (Office × Bool) :=
 Option.bind (α := Bool)
 ((spec_CaseOk x0).bind fun a0 =>
 cond (!a0)
 (some true)
 ((spec_MonthOk x1).bind fun a1 =>
 some (!a1)))
 fun a2 =>
 cond a2
 (some (Office.mk (Case.mk (Book.mk ([] : List Rule)) (Store.mk ([] : List Fact)) (Series.mk ([] : List Point)) (Member.mk 0 0 ([] : List Spell) ([] : List Event))) 0 ([] : List Int), false))
 ((spec_l35Case x0).bind fun a3 =>
 some (Office.mk a3 x1 ([] : List Int), true))
noncomputable def spec_OfficeOk (x0 : Office) : Option (Bool) :=
 (loopW (ρ := (Int × Int × Int) ⊕ (Bool)) (fun (a1 : Int) =>
 cond (decide (a1 < (x0.Paid.length : Int)))
 ((idx x0.Paid a1).bind fun a2 =>
 (spec_l01In a2 0 1000000000000).bind fun a3 =>
 cond (!a3)
 (some (.done (.inr false)))
 (some (.cont (w64 (a1 + 1)))))
 (some (.done (.inl (x0.Case.Member.Birth, x0.Case.Member.Joined, x0.Start)))))
 0).bind fun a4 => brkE a4 (fun (a0 : Int × Int × Int) =>
 Option.bind (α := Bool)
 ((spec_CaseOk (Case.mk x0.Case.Book x0.Case.Store x0.Case.Series (Member.mk a0.1 a0.2.1 x0.Case.Member.Spells x0.Case.Member.Events))).bind fun a5 =>
 cond a5
 ((spec_MonthOk a0.2.2).bind fun a6 =>
 cond a6
 (cond (decide ((x0.Paid.length : Int) ≤ 240))
 ((spec_MonthOk (w64 (a0.2.2 + (x0.Paid.length : Int)))).bind fun a7 =>
 some a7)
 (some false))
 (some false))
 (some false))
 fun a8 =>
 some a8)
 (some)
noncomputable def spec_l38Plain (x0 : Act) : Option (Act) :=
 joinP (fun (a0 : Int × Int × Int × Int × Int × Int × Int × Int × Int) =>
 some (Act.mk x0.Kind (Fact.mk a0.1 a0.2.1 a0.2.2.1 a0.2.2.2.1 a0.2.2.2.2.1) (Point.mk a0.2.2.2.2.2.1 a0.2.2.2.2.2.2.1 a0.2.2.2.2.2.2.2.1) a0.2.2.2.2.2.2.2.2))
 (fun a1 =>
 cond (x0.Kind == 1)
 (a1 (x0.Fact.Key, x0.Fact.From, x0.Fact.To, x0.Fact.Known, x0.Fact.Value, 0, 0, 0, 0))
 (cond (x0.Kind == 2)
 (a1 (0, 0, 0, 0, 0, x0.Point.Month, x0.Point.Known, x0.Point.Value, 0))
 (cond (x0.Kind == 3)
 (a1 (0, 0, 0, 0, 0, 0, 0, 0, x0.N))
 (a1 (0, 0, 0, 0, 0, 0, 0, 0, 0)))))
noncomputable def spec_ActOk (x0 : Act) : Option (Bool) :=
 Option.bind (α := Bool)
 ((spec_l38Plain x0).bind fun a0 =>
 cond (!((x0.Kind == a0.Kind) && (((x0.Fact.Key == a0.Fact.Key) && ((x0.Fact.From == a0.Fact.From) && ((x0.Fact.To == a0.Fact.To) && ((x0.Fact.Known == a0.Fact.Known) && ((x0.Fact.Value == a0.Fact.Value) && true))))) && (((x0.Point.Month == a0.Point.Month) && ((x0.Point.Known == a0.Point.Known) && ((x0.Point.Value == a0.Point.Value) && true))) && ((x0.N == a0.N) && true)))))
 (some true)
 (cond (x0.Fact.Known != 0)
 (some true)
 (some (x0.Point.Known != 0))))
 fun a1 =>
 cond a1
 (some false)
 (Option.bind (α := Bool)
 (cond (x0.Kind == 1)
 (some true)
 (cond (x0.Kind == 2)
 (some true)
 (cond (x0.Kind == 3)
 ((spec_l01In x0.N 1 24).bind fun a2 =>
 some a2)
 (some false))))
 fun a3 =>
 some a3)
noncomputable def spec_l37Copy (x0 : Office) : Option (Office) :=
 (spec_l35Case x0.Case).bind fun a0 =>
 (appC ([] : List Int) x0.Paid).bind fun a1 =>
 some (Office.mk a0 x0.Start a1)
noncomputable def spec_AddFact (x0 : Store) (x1 : Fact) : Option (Store × Bool) :=
 (spec_l05Copy x0).bind fun a1 =>
 (appC a1.Facts ([x1] : List Fact)).bind fun a0 =>
 Option.bind (α := Bool)
 ((spec_StoreOk x0).bind fun a2 =>
 cond (!a2)
 (some true)
 ((spec_StoreOk (Store.mk a0)).bind fun a3 =>
 some (!a3)))
 fun a4 =>
 cond a4
 ((spec_l05Copy x0).bind fun a5 =>
 some (a5, false))
 (some (Store.mk a0, true))
noncomputable def spec_LearnFact (x0 : Office) (x1 : Fact) : Option (Office × Bool) :=
 (spec_l37Copy x0).bind fun a0 =>
 (spec_AddFact x0.Case.Store (Fact.mk x1.Key x1.From x1.To (w64 (x0.Start + (x0.Paid.length : Int))) x1.Value)).bind fun a1 =>
 Option.bind (α := Bool)
 ((spec_OfficeOk x0).bind fun a2 =>
 cond (!a2)
 (some true)
 (some (!a1.2)))
 fun a3 =>
 cond a3
 (some (a0, false))
 (some (Office.mk (Case.mk a0.Case.Book a1.1 a0.Case.Series a0.Case.Member) a0.Start a0.Paid, true))
noncomputable def spec_l38If (x0 : Bool) : Option (Int) :=
 cond x0
 (some 1)
 (some 0)
noncomputable def spec_Publish (x0 : Series) (x1 : Point) : Option (Series × Bool) :=
 (appC ([] : List Point) x0.Points).bind fun a1 =>
 (appC ([] : List Point) x0.Points).bind fun a2 =>
 (appC a2 ([x1] : List Point)).bind fun a0 =>
 Option.bind (α := Bool)
 ((spec_SeriesOk x0).bind fun a3 =>
 cond (!a3)
 (some true)
 ((spec_SeriesOk (Series.mk a0)).bind fun a4 =>
 some (!a4)))
 fun a5 =>
 cond a5
 (some (Series.mk a1, false))
 (some (Series.mk a0, true))
noncomputable def spec_LearnPoint (x0 : Office) (x1 : Point) : Option (Office × Bool) :=
 (spec_l37Copy x0).bind fun a0 =>
 (spec_Publish x0.Case.Series (Point.mk x1.Month (w64 (x0.Start + (x0.Paid.length : Int))) x1.Value)).bind fun a1 =>
 Option.bind (α := Bool)
 ((spec_OfficeOk x0).bind fun a2 =>
 cond (!a2)
 (some true)
 (some (!a1.2)))
 fun a3 =>
 cond a3
 (some (a0, false))
 (some (Office.mk (Case.mk a0.Case.Book a0.Case.Store a1.1 a0.Case.Member) a0.Start a0.Paid, true))
noncomputable def spec_StatusAt (x0 : List Event) (x1 : Int) : Option (Int) :=
 (loopW (ρ := (Int) ⊕ (Int)) (fun (a0 : Int × Int) =>
 Option.bind (α := Bool)
 (cond (decide (a0.1 < (x0.length : Int)))
 ((spec_EventsOk x0).bind fun a1 =>
 cond a1
 ((idx x0 a0.1).bind fun a2 =>
 some (decide (a2.Month ≤ x1)))
 (some false))
 (some false))
 fun a3 =>
 cond a3
 ((idx x0 a0.1).bind fun a4 =>
 (spec_StatusAfter a0.2 a4.Kind).bind fun a5 =>
 some (.cont (w64 (a0.1 + 1), a5.1)))
 (some (.done (.inl a0.2))))
 (0, 0)).bind fun a6 => brkE a6 (fun (a7 : Int) =>
 some a7)
 (some)
noncomputable def spec_ServiceIn (x0 : List Spell) (x1 : Int) (x2 : Int) : Option (Int) :=
 (loopW (ρ := (Int) ⊕ (Int)) (fun (a0 : Int × Int) =>
 Option.bind (α := Bool)
 (cond (decide (a0.1 < (x0.length : Int)))
 ((spec_SpellsOk x0).bind fun a2 =>
 some a2)
 (some false))
 fun a3 =>
 cond a3
 ((idx x0 a0.1).bind fun a4 =>
 joinP (fun (a5 : Int) =>
 some (.cont (w64 (a0.1 + 1), a5)))
 (fun a1 =>
 cond (!a4.Leave)
 ((idx x0 a0.1).bind fun a6 =>
 (idx x0 a0.1).bind fun a7 =>
 (idx x0 a0.1).bind fun a8 =>
 (spec_MonthsIn a7.From a8.To x1 x2).bind fun a9 =>
 a1 (w64 (a0.2 + (w64 (a6.Percent * a9)))))
 (a1 a0.2)))
 (some (.done (.inl a0.2))))
 (0, 0)).bind fun aa => brkE aa (fun (ab : Int) =>
 some ab)
 (some)
noncomputable def spec_l02Make (x0 : Int) (x1 : Int) : Option (Frac × Bool) :=
 joinP (fun (a0 : Int × Int) =>
 (spec_l02Abs a0.1).bind fun a3 =>
 (spec_l02Gcd a3 a0.2).bind fun a1 =>
 (nz a1).bind fun _ =>
 (nz a1).bind fun _ =>
 (spec_FracOk (Frac.mk (w64 (Int.tdiv a0.1 a1)) (w64 (Int.tdiv a0.2 a1)))).bind fun a4 =>
 cond (!a4)
 (some (Frac.mk 0 0, false))
 (some (Frac.mk (w64 (Int.tdiv a0.1 a1)) (w64 (Int.tdiv a0.2 a1)), true)))
 (fun a2 =>
 cond (decide (x1 < 0))
 (a2 (w64 (0 - x0), w64 (0 - x1)))
 (a2 (x0, x1)))
noncomputable def spec_FracNew (x0 : Int) (x1 : Int) : Option (Frac × Bool) :=
 Option.bind (α := Bool)
 (cond (x1 == 0)
 (some true)
 ((spec_l01In x0 (-1000000000000) 1000000000000).bind fun a1 =>
 cond (!a1)
 (some true)
 ((spec_l01In x1 (-1000000000000) 1000000000000).bind fun a2 =>
 some (!a2))))
 fun a3 =>
 cond a3
 (some (Frac.mk 0 0, false))
 ((spec_l02Make x0 x1).bind fun a0 =>
 some (a0.1, a0.2))
noncomputable def spec_ValueAt (x0 : Store) (x1 : Int) (x2 : Int) (x3 : Int) : Option (Int × Bool) :=
 (loopW (ρ := (Unit) ⊕ (Int × Bool)) (fun (a1 : Int) =>
 cond (decide (a1 ≥ 0))
 ((idx x0.Facts a1).bind fun a0 =>
 Option.bind (α := Bool)
 (cond (a0.Key == x1)
 (cond (decide (a0.From ≤ x2))
 (cond (decide (x2 < a0.To))
 (some (decide (a0.Known ≤ x3)))
 (some false))
 (some false))
 (some false))
 fun a2 =>
 cond a2
 (some (.done (.inr (a0.Value, true))))
 (some (.cont (w64 (a1 - 1)))))
 (some (.done (.inl ()))))
 (w64 ((x0.Facts.length : Int) - 1))).bind fun a3 => brkE a3 (fun (a4 : Unit) =>
 some (0, false))
 (some)
noncomputable def spec_FinalPay (x0 : Store) (x1 : Int) (x2 : Int) : Option (Int × Bool) :=
 Option.bind (α := Bool)
 ((spec_StoreOk x0).bind fun a2 =>
 cond (!a2)
 (some true)
 ((spec_l04End x1).bind fun a3 =>
 some (!a3)))
 fun a4 =>
 cond a4
 (some (0, false))
 ((loopW (ρ := (Unit) ⊕ (Int × Bool)) (fun (a0 : Int) =>
 cond (decide (a0 ≥ 0))
 ((spec_ValueAt x0 1 a0 x2).bind fun a1 =>
 cond a1.2
 (some (.done (.inr (a1.1, true))))
 (some (.cont (w64 (a0 - 1)))))
 (some (.done (.inl ()))))
 (w64 (x1 - 1))).bind fun a5 => brkE a5 (fun (a6 : Unit) =>
 some (0, false))
 (some))
noncomputable def spec_IndexAt (x0 : Series) (x1 : Int) (x2 : Int) : Option (Int × Bool) :=
 (loopW (ρ := (Int) ⊕ (Int × Bool)) (fun (a0 : Int × Int) =>
 cond (decide (a0.1 < (x0.Points.length : Int)))
 ((idx x0.Points a0.1).bind fun a1 =>
 Option.bind (α := Bool)
 (cond (decide (a1.Month ≤ x1))
 (cond (decide (a1.Known ≤ x2))
 (cond (decide (a0.2 < 0))
 (some true)
 ((idx x0.Points a0.2).bind fun a4 =>
 some (decide (a1.Month ≥ a4.Month))))
 (some false))
 (some false))
 fun a5 =>
 joinP (fun (a6 : Int) =>
 some (.cont (w64 (a0.1 + 1), a6)))
 (fun a2 =>
 cond a5
 (a2 a0.1)
 (a2 a0.2)))
 (some (.done (.inl a0.2))))
 (0, (-1))).bind fun a7 => brkE a7 (fun (a3 : Int) =>
 cond (decide (a3 < 0))
 (some (0, false))
 ((idx x0.Points a3).bind fun a8 =>
 some (a8.Value, true)))
 (some)
noncomputable def spec_IndexRatio (x0 : Series) (x1 : Int) (x2 : Int) (x3 : Int) : Option (Frac × Bool) :=
 (spec_IndexAt x0 x1 x3).bind fun a0 =>
 (spec_IndexAt x0 x2 x3).bind fun a1 =>
 Option.bind (α := Bool)
 (cond (!a0.2)
 (some true)
 (some (!a1.2)))
 fun a3 =>
 cond a3
 (some (Frac.mk 0 0, false))
 ((spec_FracNew a1.1 a0.1).bind fun a2 =>
 some (a2.1, a2.2))
noncomputable def spec_MonthOfKind (x0 : List Event) (x1 : Int) : Option (Int) :=
 (loopW (ρ := (Int) ⊕ (Int)) (fun (a0 : Int × Int) =>
 Option.bind (α := Bool)
 (cond (decide (a0.1 < (x0.length : Int)))
 ((spec_EventsOk x0).bind fun a2 =>
 some a2)
 (some false))
 fun a3 =>
 cond a3
 ((idx x0 a0.1).bind fun a4 =>
 joinP (fun (a5 : Int) =>
 some (.cont (w64 (a0.1 + 1), a5)))
 (fun a1 =>
 cond (a4.Kind == x1)
 ((idx x0 a0.1).bind fun a6 =>
 a1 a6.Month)
 (a1 a0.2)))
 (some (.done (.inl a0.2))))
 (0, (-1))).bind fun a7 => brkE a7 (fun (a8 : Int) =>
 some a8)
 (some)
noncomputable def spec_AgeAt (x0 : Int) (x1 : Int) (x2 : Int) : Option (Int) :=
 Option.bind (α := Bool)
 ((spec_MonthOk x0).bind fun a0 =>
 cond (!a0)
 (some true)
 ((spec_MonthOk x1).bind fun a1 =>
 cond (!a1)
 (some true)
 (some (decide (x1 < x0)))))
 fun a2 =>
 cond a2
 (some (-1))
 (cond (x2 == 1)
 (some (w64 (Int.tdiv (w64 (x1 - x0)) 12)))
 (cond (x2 == 2)
 (some (w64 (Int.tdiv (w64 ((w64 (x1 - x0)) + 6)) 12)))
 (cond (x2 == 3)
 (some (w64 ((w64 (Int.tdiv (w64 (x1 - x0)) 12)) + 1)))
 (some (-1)))))
noncomputable def spec_l08Vars (x0 : List Frac) : Option (Bool) :=
 (loopW (ρ := (Unit) ⊕ (Bool)) (fun (a0 : Int) =>
 cond (decide (a0 < (x0.length : Int)))
 ((idx x0 a0).bind fun a1 =>
 (spec_FracOk a1).bind fun a2 =>
 cond (!a2)
 (some (.done (.inr false)))
 (some (.cont (w64 (a0 + 1)))))
 (some (.done (.inl ()))))
 0).bind fun a3 => brkE a3 (fun (a4 : Unit) =>
 some ((x0.length : Int) == 8))
 (some)
noncomputable def spec_l22Vars (x0 : Case) (x1 : Int) (x2 : Int) : Option ((List Frac) × Bool) :=
 Option.bind (α := Bool)
 ((spec_MonthOk x1).bind fun a9 =>
 cond (!a9)
 (some true)
 ((spec_MonthOk x2).bind fun aa =>
 cond (!aa)
 (some true)
 (some (decide (x1 < x0.Member.Joined)))))
 fun ab =>
 cond ab
 (some (([] : List Frac), false))
 ((spec_ServiceIn x0.Member.Spells 0 x1).bind fun ac =>
 (spec_FracNew ac 100).bind fun a3 =>
 (spec_FinalPay x0.Store x1 x2).bind fun a4 =>
 (spec_IndexRatio x0.Series x0.Member.Joined x1 x2).bind fun a1 =>
 joinP (fun (a0 : Int × Int) =>
 (spec_MonthOfKind x0.Member.Events 3).bind fun a2 =>
 Option.bind (α := Bool)
 (cond (decide (a2 ≥ 0))
 (some (decide (a2 ≤ x1)))
 (some false))
 fun ad =>
 joinP (fun (a5 : Int) =>
 (spec_AgeAt x0.Member.Birth x1 1).bind fun a6 =>
 (spec_l08Vars ([a3.1, Frac.mk a4.1 1, Frac.mk a6 1, Frac.mk a0.1 a0.2, Frac.mk a5 1, Frac.mk x1 1, Frac.mk 0 1, Frac.mk 0 1] : List Frac)).bind fun ae =>
 cond (!ae)
 (some (([] : List Frac), false))
 (some (([a3.1, Frac.mk a4.1 1, Frac.mk a6 1, Frac.mk a0.1 a0.2, Frac.mk a5 1, Frac.mk x1 1, Frac.mk 0 1, Frac.mk 0 1] : List Frac), true)))
 (fun a7 =>
 cond ad
 (a7 (w64 (x1 - a2)))
 (a7 0)))
 (fun a8 =>
 cond (!a1.2)
 (a8 (1, 1))
 (a8 (a1.1.Num, a1.1.Den))))
noncomputable def spec_l10For (x0 : Book) (x1 : Int) (x2 : Int) (x3 : Int) : Option (Int) :=
 (loopW (ρ := (Int) ⊕ (Int)) (fun (a0 : Int × Int) =>
 cond (decide (a0.1 < (x0.Rules.length : Int)))
 ((idx x0.Rules a0.1).bind fun a1 =>
 Option.bind (α := Bool)
 (cond (a1.Name == x1)
 (cond (decide (a1.From ≤ x2))
 (cond (decide (x2 < a1.To))
 (cond (decide (x3 < a1.Joined))
 (cond (decide (a0.2 < 0))
 (some true)
 ((idx x0.Rules a0.2).bind fun a3 =>
 some (decide (a1.Rank > a3.Rank))))
 (some false))
 (some false))
 (some false))
 (some false))
 fun a4 =>
 joinP (fun (a5 : Int) =>
 some (.cont (w64 (a0.1 + 1), a5)))
 (fun a2 =>
 cond a4
 (a2 a0.1)
 (a2 a0.2)))
 (some (.done (.inl a0.2))))
 (0, (-1))).bind fun a6 => brkE a6 (fun (a7 : Int) =>
 some a7)
 (some)
noncomputable def spec_RuleFor (x0 : Book) (x1 : Int) (x2 : Int) (x3 : Int) : Option (Int) :=
 (spec_BookOk x0).bind fun a0 =>
 cond (!a0)
 (some (-1))
 ((spec_l10For x0 x1 x2 x3).bind fun a1 =>
 some a1)
noncomputable def spec_l02Sum (x0 : Frac) (x1 : Frac) (x2 : Int) : Option (Frac × Bool) :=
 Option.bind (α := Bool)
 ((spec_FracOk x0).bind fun a2 =>
 cond (!a2)
 (some true)
 ((spec_FracOk x1).bind fun a3 =>
 some (!a3)))
 fun a4 =>
 cond a4
 (some (Frac.mk 0 0, false))
 ((spec_l02Gcd x0.Den x1.Den).bind fun a0 =>
 (nz a0).bind fun _ =>
 (nz a0).bind fun _ =>
 (nz a0).bind fun _ =>
 (spec_l02Make (w64 ((w64 (x0.Num * (w64 (Int.tdiv x1.Den a0)))) + (w64 ((w64 (x2 * x1.Num)) * (w64 (Int.tdiv x0.Den a0)))))) (w64 ((w64 (Int.tdiv x0.Den a0)) * x1.Den))).bind fun a1 =>
 some (a1.1, a1.2))
noncomputable def spec_FracAdd (x0 : Frac) (x1 : Frac) : Option (Frac × Bool) :=
 (spec_l02Sum x0 x1 1).bind fun a0 =>
 some (a0.1, a0.2)
noncomputable def spec_FracSub (x0 : Frac) (x1 : Frac) : Option (Frac × Bool) :=
 (spec_l02Sum x0 x1 (-1)).bind fun a0 =>
 some (a0.1, a0.2)
noncomputable def spec_l02Small (x0 : Frac) : Option (Bool) :=
 Option.bind (α := Bool)
 ((spec_FracOk x0).bind fun a0 =>
 cond a0
 ((spec_l01In x0.Num (-1000000) 1000000).bind fun a1 =>
 some a1)
 (some false))
 fun a2 =>
 some a2
noncomputable def spec_FracMul (x0 : Frac) (x1 : Frac) : Option (Frac × Bool) :=
 Option.bind (α := Bool)
 ((spec_l02Small x0).bind fun a1 =>
 cond (!a1)
 (some true)
 ((spec_l02Small x1).bind fun a2 =>
 some (!a2)))
 fun a3 =>
 cond a3
 (some (Frac.mk 0 0, false))
 ((spec_l02Make (w64 (x0.Num * x1.Num)) (w64 (x0.Den * x1.Den))).bind fun a0 =>
 some (a0.1, a0.2))
noncomputable def spec_FracDiv (x0 : Frac) (x1 : Frac) : Option (Frac × Bool) :=
 Option.bind (α := Bool)
 ((spec_l02Small x0).bind fun a1 =>
 cond (!a1)
 (some true)
 ((spec_l02Small x1).bind fun a2 =>
 cond (!a2)
 (some true)
 (some (x1.Num == 0))))
 fun a3 =>
 cond a3
 (some (Frac.mk 0 0, false))
 ((spec_l02Make (w64 (x0.Num * x1.Den)) (w64 (x0.Den * x1.Num))).bind fun a0 =>
 some (a0.1, a0.2))
noncomputable def spec_FracCmp (x0 : Frac) (x1 : Frac) : Option (Int) :=
 Option.bind (α := Bool)
 ((spec_FracOk x0).bind fun a0 =>
 cond (!a0)
 (some true)
 ((spec_FracOk x1).bind fun a1 =>
 some (!a1)))
 fun a2 =>
 cond a2
 (some 2)
 (cond (decide ((w64 (x0.Num * x1.Den)) < (w64 (x1.Num * x0.Den))))
 (some (-1))
 (cond (decide ((w64 (x0.Num * x1.Den)) > (w64 (x1.Num * x0.Den))))
 (some 1)
 (some 0)))
noncomputable def spec_l08Value (x0 : Node) (x1 : List Frac) (x2 : List Frac) : Option (Frac × Bool) :=
 cond (x0.Kind == 1)
 (some (x0.Value, true))
 (cond (x0.Kind == 2)
 ((idx x2 x0.A).bind fun a6 =>
 some (a6, true))
 ((idx x1 x0.A).bind fun a0 =>
 (idx x1 x0.B).bind fun a1 =>
 cond (x0.Kind == 3)
 ((spec_FracAdd a0 a1).bind fun a2 =>
 some (a2.1, a2.2))
 (cond (x0.Kind == 4)
 ((spec_FracSub a0 a1).bind fun a3 =>
 some (a3.1, a3.2))
 (cond (x0.Kind == 5)
 ((spec_FracMul a0 a1).bind fun a4 =>
 some (a4.1, a4.2))
 (cond (x0.Kind == 6)
 ((spec_FracDiv a0 a1).bind fun a5 =>
 some (a5.1, a5.2))
 (cond (x0.Kind == 7)
 ((spec_FracCmp a1 a0).bind fun a7 =>
 cond (decide (a7 < 0))
 (some (a1, true))
 (some (a0, true)))
 (cond (x0.Kind == 8)
 ((spec_FracCmp a1 a0).bind fun a8 =>
 cond (decide (a8 > 0))
 (some (a1, true))
 (some (a0, true)))
 (cond (decide (a0.Num > 0))
 (some (a1, true))
 ((idx x1 x0.C).bind fun a9 =>
 some (a9, true))))))))))
noncomputable def spec_EvalAll (x0 : List Node) (x1 : List Frac) : Option ((List Frac) × Bool) :=
 Option.bind (α := Bool)
 ((spec_FormulaOk x0).bind fun a2 =>
 cond (!a2)
 (some true)
 ((spec_l08Vars x1).bind fun a3 =>
 some (!a3)))
 fun a4 =>
 cond a4
 (some (([] : List Frac), false))
 ((loopW (ρ := ((List Frac)) ⊕ ((List Frac) × Bool)) (fun (a0 : Int × (List Frac)) =>
 cond (decide (a0.1 < (x0.length : Int)))
 ((idx x0 a0.1).bind fun a5 =>
 (spec_l08Value a5 a0.2 x1).bind fun a1 =>
 cond (!a1.2)
 (some (.done (.inr (([] : List Frac), false))))
 ((appC a0.2 ([a1.1] : List Frac)).bind fun a6 =>
 some (.cont (w64 (a0.1 + 1), a6))))
 (some (.done (.inl a0.2))))
 (0, ([] : List Frac))).bind fun a7 => brkE a7 (fun (a8 : (List Frac)) =>
 some (a8, true))
 (some))
noncomputable def spec_Eval (x0 : List Node) (x1 : List Frac) : Option (Frac × Bool) :=
 (spec_EvalAll x0 x1).bind fun a0 =>
 cond (!a0.2)
 (some (Frac.mk 0 0, false))
 ((idx a0.1 (w64 ((a0.1.length : Int) - 1))).bind fun a1 =>
 some (a1, true))
noncomputable def spec_FloorFrac (x0 : Frac) : Option (Int) :=
 (spec_FracOk x0).bind fun a1 =>
 cond (!a1)
 (some 0)
 ((nz x0.Den).bind fun _ =>
 Option.bind (α := Bool)
 (cond (decide (x0.Num < 0))
 ((nz x0.Den).bind fun _ =>
 some ((Int.tmod x0.Num x0.Den) != 0))
 (some false))
 fun a2 =>
 joinP (fun (a3 : Int) =>
 some a3)
 (fun a0 =>
 cond a2
 (a0 (w64 ((w64 (Int.tdiv x0.Num x0.Den)) - 1)))
 (a0 (w64 (Int.tdiv x0.Num x0.Den)))))
noncomputable def spec_RoundFrac (x0 : Frac) (x1 : Int) : Option (Int × Bool) :=
 Option.bind (α := Bool)
 ((spec_FracOk x0).bind fun a2 =>
 cond (!a2)
 (some true)
 ((spec_l01In x1 1 4).bind fun a3 =>
 some (!a3)))
 fun a4 =>
 cond a4
 (some (0, false))
 ((spec_FloorFrac x0).bind fun a0 =>
 joinP (fun (a5 : Int) =>
 some (a5, true))
 (fun a1 =>
 cond (x1 == 2)
 (cond (decide ((w64 (x0.Num - (w64 (a0 * x0.Den)))) > 0))
 (a1 (w64 (a0 + 1)))
 (a1 a0))
 (cond (x1 == 3)
 (cond (decide ((w64 (2 * (w64 (x0.Num - (w64 (a0 * x0.Den)))))) ≥ x0.Den))
 (a1 (w64 (a0 + 1)))
 (a1 a0))
 (cond (x1 == 4)
 (Option.bind (α := Bool)
 (cond (decide ((w64 (2 * (w64 (x0.Num - (w64 (a0 * x0.Den)))))) > x0.Den))
 (some true)
 (cond ((w64 (2 * (w64 (x0.Num - (w64 (a0 * x0.Den)))))) == x0.Den)
 (some ((and64 a0 1) == 1))
 (some false)))
 fun a6 =>
 cond a6
 (a1 (w64 (a0 + 1)))
 (a1 a0))
 (a1 a0)))))
noncomputable def spec_Figure (x0 : Book) (x1 : Int) (x2 : Int) (x3 : Int) (x4 : List Frac) : Option (Int × Int × Bool) :=
 (spec_RuleFor x0 x1 x2 x3).bind fun a0 =>
 cond (decide (a0 < 0))
 (some (0, 0, false))
 ((idx x0.Rules a0).bind fun a2 =>
 (spec_Eval a2.Nodes x4).bind fun a1 =>
 cond (!a1.2)
 (some (0, 0, false))
 ((idx x0.Rules a0).bind fun a3 =>
 (spec_RoundFrac a1.1 a3.Mode).bind fun a4 =>
 some (a4.1, a0, true)))
noncomputable def spec_l22At (x0 : Case) (x1 : Int) (x2 : Int) : Option (Int) :=
 (spec_StatusAt x0.Member.Events x1).bind fun a2 =>
 cond (a2 != 3)
 (some 0)
 ((spec_l22Vars x0 x1 x2).bind fun a0 =>
 cond (!a0.2)
 (some 0)
 ((spec_Figure x0.Book 1 x1 x0.Member.Joined a0.1).bind fun a1 =>
 cond (!a1.2.2)
 (some 0)
 (some (imin (imax a1.1 0) 10000000))))
noncomputable def spec_l31Sum (x0 : List Int) : Option (Int) :=
 (loopW (ρ := (Int) ⊕ (Int)) (fun (a0 : Int × Int) =>
 cond (decide (a0.1 < (x0.length : Int)))
 ((idx x0 a0.1).bind fun a1 =>
 some (.cont (w64 (a0.1 + 1), w64 (a0.2 + a1))))
 (some (.done (.inl a0.2))))
 (0, 0)).bind fun a2 => brkE a2 (fun (a3 : Int) =>
 some a3)
 (some)
noncomputable def spec_l37Due (x0 : Office) : Option (Int) :=
 (loopW (ρ := (Int × Int × Int × Int) ⊕ (Int)) (fun (a0 : Int × Int) =>
 cond (decide (a0.1 ≤ (w64 (x0.Start + (x0.Paid.length : Int)))))
 ((spec_l22At x0.Case a0.1 (w64 (x0.Start + (x0.Paid.length : Int)))).bind fun a1 =>
 some (.cont (w64 (a0.1 + 1), w64 (a0.2 + a1))))
 (some (.done (.inl (a0.2, x0.Case.Member.Birth, x0.Case.Member.Joined, x0.Start)))))
 (x0.Start, 0)).bind fun a2 => brkE a2 (fun (a3 : Int × Int × Int × Int) =>
 (spec_l31Sum x0.Paid).bind fun a4 =>
 some (w64 (a3.1 - a4)))
 (some)
noncomputable def spec_PayMonth (x0 : Office) : Option (Office × Int × Bool) :=
 (spec_l37Copy x0).bind fun a0 =>
 (spec_OfficeOk x0).bind fun a3 =>
 cond (!a3)
 (some (a0, 0, false))
 ((spec_l37Due x0).bind fun a1 =>
 (appC a0.Paid ([imax 0 a1] : List Int)).bind fun a2 =>
 (spec_OfficeOk (Office.mk a0.Case a0.Start a2)).bind fun a4 =>
 cond (!a4)
 ((spec_l37Copy x0).bind fun a5 =>
 some (a5, 0, false))
 ((spec_l37Copy (Office.mk a0.Case a0.Start a2)).bind fun a6 =>
 some (a6, imax 0 a1, true)))
noncomputable def spec_DoAct (x0 : Office) (x1 : Act) : Option (Office × Int) :=
 Option.bind (α := Bool)
 ((spec_OfficeOk x0).bind fun a6 =>
 cond (!a6)
 (some true)
 ((spec_ActOk x1).bind fun a7 =>
 some (!a7)))
 fun a8 =>
 cond a8
 ((spec_l37Copy x0).bind fun a9 =>
 some (a9, (-1)))
 (cond (x1.Kind == 1)
 ((spec_LearnFact x0 x1.Fact).bind fun a4 =>
 (spec_l38If a4.2).bind fun aa =>
 some (a4.1, aa))
 (cond (x1.Kind == 2)
 ((spec_LearnPoint x0 x1.Point).bind fun a5 =>
 (spec_l38If a5.2).bind fun ab =>
 some (a5.1, ab))
 ((spec_l37Copy x0).bind fun a3 =>
 (loopW (ρ := (Int × (List Rule) × (List Fact) × (List Point) × Int × Int × (List Spell) × (List Event) × Int × (List Int)) ⊕ (Office × Int)) (fun (a0 : Int × Int × (List Rule) × (List Fact) × (List Point) × Int × Int × (List Spell) × (List Event) × Int × (List Int)) =>
 cond (decide (a0.1 < x1.N))
 ((spec_PayMonth (Office.mk (Case.mk (Book.mk a0.2.2.1) (Store.mk a0.2.2.2.1) (Series.mk a0.2.2.2.2.1) (Member.mk a0.2.2.2.2.2.1 a0.2.2.2.2.2.2.1 a0.2.2.2.2.2.2.2.1 a0.2.2.2.2.2.2.2.2.1)) a0.2.2.2.2.2.2.2.2.2.1 a0.2.2.2.2.2.2.2.2.2.2)).bind fun a1 =>
 some (.cont (w64 (a0.1 + 1), w64 (a0.2.1 + a1.2.1), a1.1.Case.Book.Rules, a1.1.Case.Store.Facts, a1.1.Case.Series.Points, a1.1.Case.Member.Birth, a1.1.Case.Member.Joined, a1.1.Case.Member.Spells, a1.1.Case.Member.Events, a1.1.Start, a1.1.Paid)))
 (some (.done (.inl (a0.2.1, a0.2.2.1, a0.2.2.2.1, a0.2.2.2.2.1, a0.2.2.2.2.2.1, a0.2.2.2.2.2.2.1, a0.2.2.2.2.2.2.2.1, a0.2.2.2.2.2.2.2.2.1, a0.2.2.2.2.2.2.2.2.2.1, a0.2.2.2.2.2.2.2.2.2.2)))))
 (0, 0, a3.Case.Book.Rules, a3.Case.Store.Facts, a3.Case.Series.Points, a3.Case.Member.Birth, a3.Case.Member.Joined, a3.Case.Member.Spells, a3.Case.Member.Events, a3.Start, a3.Paid)).bind fun ac => brkE ac (fun (a2 : Int × (List Rule) × (List Fact) × (List Point) × Int × Int × (List Spell) × (List Event) × Int × (List Int)) =>
 some (Office.mk (Case.mk (Book.mk a2.2.1) (Store.mk a2.2.2.1) (Series.mk a2.2.2.2.1) (Member.mk a2.2.2.2.2.1 a2.2.2.2.2.2.1 a2.2.2.2.2.2.2.1 a2.2.2.2.2.2.2.2.1)) a2.2.2.2.2.2.2.2.2.1 a2.2.2.2.2.2.2.2.2.2, a2.1))
 (some))))
noncomputable def spec_RunActs (x0 : Case) (x1 : Int) (x2 : List Act) : Option (Office × (List Int)) :=
 (spec_OfficeNew x0 x1).bind fun a1 =>
 Option.bind (α := Bool)
 (cond (!a1.2)
 (some true)
 (some (decide ((x2.length : Int) > 60))))
 fun a4 =>
 cond a4
 (some (Office.mk (Case.mk (Book.mk ([] : List Rule)) (Store.mk ([] : List Fact)) (Series.mk ([] : List Point)) (Member.mk 0 0 ([] : List Spell) ([] : List Event))) 0 ([] : List Int), ([] : List Int)))
 ((loopW (ρ := ((List Int) × Int × Int × Int × Int × Int × (List Rule) × (List Fact) × (List Point) × Int × Int × (List Spell) × (List Event) × Int × (List Int)) ⊕ (Office × (List Int))) (fun (a0 : Int × (List Int) × (List Rule) × (List Fact) × (List Point) × Int × Int × (List Spell) × (List Event) × Int × (List Int)) =>
 cond (decide (a0.1 < (x2.length : Int)))
 ((idx x2 a0.1).bind fun a5 =>
 (spec_DoAct (Office.mk (Case.mk (Book.mk a0.2.2.1) (Store.mk a0.2.2.2.1) (Series.mk a0.2.2.2.2.1) (Member.mk a0.2.2.2.2.2.1 a0.2.2.2.2.2.2.1 a0.2.2.2.2.2.2.2.1 a0.2.2.2.2.2.2.2.2.1)) a0.2.2.2.2.2.2.2.2.2.1 a0.2.2.2.2.2.2.2.2.2.2) a5).bind fun a2 =>
 (appC a0.2.1 ([a2.2] : List Int)).bind fun a6 =>
 some (.cont (w64 (a0.1 + 1), a6, a2.1.Case.Book.Rules, a2.1.Case.Store.Facts, a2.1.Case.Series.Points, a2.1.Case.Member.Birth, a2.1.Case.Member.Joined, a2.1.Case.Member.Spells, a2.1.Case.Member.Events, a2.1.Start, a2.1.Paid)))
 (some (.done (.inl (a0.2.1, x0.Member.Birth, x0.Member.Joined, 0, 0, 0, a0.2.2.1, a0.2.2.2.1, a0.2.2.2.2.1, a0.2.2.2.2.2.1, a0.2.2.2.2.2.2.1, a0.2.2.2.2.2.2.2.1, a0.2.2.2.2.2.2.2.2.1, a0.2.2.2.2.2.2.2.2.2.1, a0.2.2.2.2.2.2.2.2.2.2)))))
 (0, ([] : List Int), a1.1.Case.Book.Rules, a1.1.Case.Store.Facts, a1.1.Case.Series.Points, a1.1.Case.Member.Birth, a1.1.Case.Member.Joined, a1.1.Case.Member.Spells, a1.1.Case.Member.Events, a1.1.Start, a1.1.Paid)).bind fun a7 => brkE a7 (fun (a3 : (List Int) × Int × Int × Int × Int × Int × (List Rule) × (List Fact) × (List Point) × Int × Int × (List Spell) × (List Event) × Int × (List Int)) =>
 some (Office.mk (Case.mk (Book.mk a3.2.2.2.2.2.2.1) (Store.mk a3.2.2.2.2.2.2.2.1) (Series.mk a3.2.2.2.2.2.2.2.2.1) (Member.mk a3.2.2.2.2.2.2.2.2.2.1 a3.2.2.2.2.2.2.2.2.2.2.1 a3.2.2.2.2.2.2.2.2.2.2.2.1 a3.2.2.2.2.2.2.2.2.2.2.2.2.1)) a3.2.2.2.2.2.2.2.2.2.2.2.2.2.1 a3.2.2.2.2.2.2.2.2.2.2.2.2.2.2, a3.1))
 (some))
noncomputable def slices_Clone_Node (x0 : List Node) : Option ((List Node)) :=
 (appC ([] : List Node) x0).bind fun a0 =>
 some a0
noncomputable def impl_copyNodes (x0 : List Node) : Option ((List Node)) :=
 (slices_Clone_Node x0).bind fun a0 =>
 some a0
noncomputable def impl_copyBook (x0 : Book) : Option (Book) :=
 (loopW (ρ := ((List Rule)) ⊕ (Book)) (fun (a1 : Int × (List Rule)) =>
 cond (decide (a1.1 < (x0.Rules.length : Int)))
 ((idx x0.Rules a1.1).bind fun a0 =>
 (impl_copyNodes a0.Nodes).bind fun a2 =>
 (appC a1.2 ([Rule.mk a0.Name a0.From a0.To a0.Joined a0.Rank a0.Mode a2] : List Rule)).bind fun a3 =>
 some (.cont (w64 (a1.1 + 1), a3)))
 (some (.done (.inl a1.2))))
 (0, ([] : List Rule))).bind fun a4 => brkE a4 (fun (a5 : (List Rule)) =>
 some (Book.mk a5))
 (some)
noncomputable def slices_Clone_Fact (x0 : List Fact) : Option ((List Fact)) :=
 (appC ([] : List Fact) x0).bind fun a0 =>
 some a0
noncomputable def impl_copyStore (x0 : Store) : Option (Store) :=
 (slices_Clone_Fact x0.Facts).bind fun a0 =>
 some (Store.mk a0)
noncomputable def slices_Clone_Point (x0 : List Point) : Option ((List Point)) :=
 (appC ([] : List Point) x0).bind fun a0 =>
 some a0
noncomputable def impl_copySeries (x0 : Series) : Option (Series) :=
 (slices_Clone_Point x0.Points).bind fun a0 =>
 some (Series.mk a0)
noncomputable def slices_Clone_Spell (x0 : List Spell) : Option ((List Spell)) :=
 (appC ([] : List Spell) x0).bind fun a0 =>
 some a0
noncomputable def slices_Clone_Event (x0 : List Event) : Option ((List Event)) :=
 (appC ([] : List Event) x0).bind fun a0 =>
 some a0
noncomputable def impl_copyMember (x0 : Member) : Option (Member) :=
 (slices_Clone_Spell x0.Spells).bind fun a0 =>
 (slices_Clone_Event x0.Events).bind fun a1 =>
 some (Member.mk x0.Birth x0.Joined a0 a1)
noncomputable def impl_copyCase (x0 : Case) : Option (Case) :=
 (impl_copyBook x0.Book).bind fun a0 =>
 (impl_copyStore x0.Store).bind fun a1 =>
 (impl_copySeries x0.Series).bind fun a2 =>
 (impl_copyMember x0.Member).bind fun a3 =>
 some (Case.mk a0 a1 a2 a3)
noncomputable def impl_within (x0 : Int) (x1 : Int) (x2 : Int) : Option (Bool) :=
 Option.bind (α := Bool)
 (cond (decide (x1 ≤ x0))
 (some (decide (x0 ≤ x2)))
 (some false))
 fun a0 =>
 some a0
noncomputable def impl_isSpan (x0 : Int) (x1 : Int) : Option (Bool) :=
 Option.bind (α := Bool)
 (cond (decide (0 ≤ x0))
 (cond (decide (x0 < x1))
 (some (decide (x1 ≤ 3600)))
 (some false))
 (some false))
 fun a0 =>
 some a0
noncomputable def impl_gcd (x0 : Int) (x1 : Int) : Option (Int) :=
 (loopW (ρ := (Int) ⊕ (Int)) (fun (a0 : Int × Int) =>
 cond (a0.2 != 0)
 ((nz a0.2).bind fun _ =>
 some (.cont (a0.2, Int.tmod a0.1 a0.2)))
 (some (.done (.inl a0.1))))
 (x0, x1)).bind fun a2 => brkE a2 (fun (a1 : Int) =>
 some (imax a1 (w64 (0 - a1))))
 (some)
noncomputable def impl_FracOk (x0 : Frac) : Option (Bool) :=
 Option.bind (α := Bool)
 ((impl_within x0.Den 1 1000000).bind fun a0 =>
 cond a0
 ((impl_within x0.Num (-1000000000000) 1000000000000).bind fun a1 =>
 cond a1
 ((impl_gcd x0.Num x0.Den).bind fun a2 =>
 some (a2 == 1))
 (some false))
 (some false))
 fun a3 =>
 some a3
noncomputable def impl_NodeOk (x0 : Node) (x1 : Int) : Option (Bool) :=
 cond (x0.Kind == 1)
 (Option.bind (α := Bool)
 (cond ((x0.Kind == x0.Kind) && ((x0.A == 0) && ((x0.B == 0) && ((x0.C == 0) && (((x0.Value.Num == x0.Value.Num) && ((x0.Value.Den == x0.Value.Den) && true)) && true)))))
 ((impl_FracOk x0.Value).bind fun a1 =>
 some a1)
 (some false))
 fun a2 =>
 some a2)
 (cond (x0.Kind == 2)
 (Option.bind (α := Bool)
 (cond ((x0.Kind == x0.Kind) && ((x0.A == x0.A) && ((x0.B == 0) && ((x0.C == 0) && (((x0.Value.Num == 0) && ((x0.Value.Den == 0) && true)) && true)))))
 ((impl_within x0.A 0 7).bind fun a3 =>
 some a3)
 (some false))
 fun a4 =>
 some a4)
 ((impl_within x0.Kind 3 9).bind fun a5 =>
 cond (!a5)
 (some false)
 (joinP (fun (a6 : Int) =>
 Option.bind (α := Bool)
 (cond ((x0.Kind == x0.Kind) && ((x0.A == x0.A) && ((x0.B == x0.B) && ((x0.C == a6) && (((x0.Value.Num == 0) && ((x0.Value.Den == 0) && true)) && true)))))
 (cond (decide (x1 > 0))
 ((impl_within x0.A 0 (w64 (x1 - 1))).bind fun a7 =>
 cond a7
 ((impl_within x0.B 0 (w64 (x1 - 1))).bind fun a8 =>
 cond a8
 ((impl_within x0.C 0 (w64 (x1 - 1))).bind fun a9 =>
 some a9)
 (some false))
 (some false))
 (some false))
 (some false))
 fun aa =>
 some aa)
 (fun a0 =>
 cond (x0.Kind == 9)
 (a0 x0.C)
 (a0 0)))))
noncomputable def impl_FormulaOk (x0 : List Node) : Option (Bool) :=
 (loopW (ρ := (Unit) ⊕ (Bool)) (fun (a0 : Int) =>
 cond (decide (a0 < (x0.length : Int)))
 ((idx x0 a0).bind fun a1 =>
 (impl_NodeOk a1 a0).bind fun a2 =>
 cond (!a2)
 (some (.done (.inr false)))
 (some (.cont (w64 (a0 + 1)))))
 (some (.done (.inl ()))))
 0).bind fun a3 => brkE a3 (fun (a5 : Unit) =>
 (impl_within (x0.length : Int) 1 30).bind fun a4 =>
 some a4)
 (some)
noncomputable def impl_RuleOk (x0 : Rule) : Option (Bool) :=
 Option.bind (α := Bool)
 ((impl_within x0.Name 1 20).bind fun a0 =>
 cond a0
 ((impl_isSpan x0.From x0.To).bind fun a1 =>
 cond a1
 ((impl_within x0.Joined 1 3600).bind fun a2 =>
 cond a2
 ((impl_within x0.Rank 0 9).bind fun a3 =>
 cond a3
 ((impl_within x0.Mode 1 4).bind fun a4 =>
 cond a4
 ((impl_FormulaOk x0.Nodes).bind fun a5 =>
 some a5)
 (some false))
 (some false))
 (some false))
 (some false))
 (some false))
 fun a6 =>
 some a6
noncomputable def impl_BookOk (x0 : Book) : Option (Bool) :=
 (loopW (ρ := (Unit) ⊕ (Bool)) (fun (a1 : Int × Int) =>
 cond (decide (a1.1 < a1.2))
 ((idx x0.Rules a1.1).bind fun a0 =>
 (impl_RuleOk a0).bind fun a6 =>
 cond (!a6)
 (some (.done (.inr false)))
 ((headL x0.Rules a1.1).bind fun a4 =>
 (loopW (ρ := (Int × Int × Int × Int × Int × Int × Int × Int) ⊕ (Bool)) (fun (a3 : Int) =>
 cond (decide (a3 < (a4.length : Int)))
 ((idx a4 a3).bind fun a2 =>
 Option.bind (α := Bool)
 (cond (a2.Name == a0.Name)
 (cond (a2.Rank == a0.Rank)
 (cond (decide (a2.From < a0.To))
 (some (decide (a0.From < a2.To)))
 (some false))
 (some false))
 (some false))
 fun a7 =>
 cond a7
 (some (.done (.inr false)))
 (some (.cont (w64 (a3 + 1)))))
 (some (.done (.inl (a1.1, a1.2, a0.Name, a0.From, a0.To, a0.Joined, a0.Rank, a0.Mode)))))
 0).bind fun a8 => brkE a8 (fun (a5 : Int × Int × Int × Int × Int × Int × Int × Int) =>
 some (.cont (w64 (a5.1 + 1), a5.2.1)))
 (fun v => some (.done (.inr v)))))
 (some (.done (.inl ()))))
 (0, (x0.Rules.length : Int))).bind fun a9 => brkE a9 (fun (aa : Unit) =>
 some (decide ((x0.Rules.length : Int) ≤ 20)))
 (some)
noncomputable def impl_MonthOk (x0 : Int) : Option (Bool) :=
 (impl_within x0 0 3599).bind fun a0 =>
 some a0
noncomputable def impl_FactOk (x0 : Fact) : Option (Bool) :=
 Option.bind (α := Bool)
 ((impl_within x0.Key 1 50).bind fun a0 =>
 cond a0
 ((impl_isSpan x0.From x0.To).bind fun a1 =>
 cond a1
 ((impl_MonthOk x0.Known).bind fun a2 =>
 cond a2
 ((impl_within x0.Value (-1000000000) 1000000000).bind fun a3 =>
 some a3)
 (some false))
 (some false))
 (some false))
 fun a4 =>
 some a4
noncomputable def impl_StoreOk (x0 : Store) : Option (Bool) :=
 (loopW (ρ := (Unit) ⊕ (Bool)) (fun (a0 : Int) =>
 cond (decide (a0 < (x0.Facts.length : Int)))
 ((idx x0.Facts a0).bind fun a1 =>
 Option.bind (α := Bool)
 ((impl_FactOk a1).bind fun a2 =>
 cond (!a2)
 (some true)
 (cond (decide (a0 > 0))
 ((idx x0.Facts (w64 (a0 - 1))).bind fun a3 =>
 some (decide (a3.Known > a1.Known)))
 (some false)))
 fun a4 =>
 cond a4
 (some (.done (.inr false)))
 (some (.cont (w64 (a0 + 1)))))
 (some (.done (.inl ()))))
 0).bind fun a5 => brkE a5 (fun (a6 : Unit) =>
 some (decide ((x0.Facts.length : Int) ≤ 200)))
 (some)
noncomputable def impl_SeriesOk (x0 : Series) : Option (Bool) :=
 (loopW (ρ := (Unit) ⊕ (Bool)) (fun (a1 : Int) =>
 cond (decide (a1 < (x0.Points.length : Int)))
 ((idx x0.Points a1).bind fun a0 =>
 Option.bind (α := Bool)
 ((impl_MonthOk a0.Month).bind fun a2 =>
 cond (!a2)
 (some true)
 ((impl_MonthOk a0.Known).bind fun a3 =>
 cond (!a3)
 (some true)
 (cond (decide (a0.Known < a0.Month))
 (some true)
 ((impl_within a0.Value 1 1000000).bind fun a4 =>
 cond (!a4)
 (some true)
 (cond (decide (a1 > 0))
 ((idx x0.Points (w64 (a1 - 1))).bind fun a5 =>
 some (decide (a5.Known > a0.Known)))
 (some false))))))
 fun a6 =>
 cond a6
 (some (.done (.inr false)))
 (some (.cont (w64 (a1 + 1)))))
 (some (.done (.inl ()))))
 0).bind fun a7 => brkE a7 (fun (a8 : Unit) =>
 some (decide ((x0.Points.length : Int) ≤ 200)))
 (some)
noncomputable def impl_SpellsOk (x0 : List Spell) : Option (Bool) :=
 (loopW (ρ := (Unit) ⊕ (Bool)) (fun (a0 : Int) =>
 cond (decide (a0 < (x0.length : Int)))
 ((idx x0 a0).bind fun a1 =>
 Option.bind (α := Bool)
 ((impl_isSpan a1.From a1.To).bind fun a2 =>
 cond (!a2)
 (some true)
 ((impl_within a1.Percent 1 100).bind fun a3 =>
 cond (!a3)
 (some true)
 (cond (decide (a0 > 0))
 ((idx x0 (w64 (a0 - 1))).bind fun a4 =>
 some (decide (a1.From < a4.To)))
 (some false))))
 fun a5 =>
 cond a5
 (some (.done (.inr false)))
 (some (.cont (w64 (a0 + 1)))))
 (some (.done (.inl ()))))
 0).bind fun a6 => brkE a6 (fun (a7 : Unit) =>
 some (decide ((x0.length : Int) ≤ 30)))
 (some)
noncomputable def impl_StatusAfter (x0 : Int) (x1 : Int) : Option (Int × Bool) :=
 Option.bind (α := Bool)
 (cond (x1 == 1)
 (cond (x0 == 0)
 (some true)
 (some (x0 == 2)))
 (some false))
 fun a0 =>
 cond a0
 (some (1, true))
 (Option.bind (α := Bool)
 (cond (x1 == 2)
 (some (x0 == 1))
 (some false))
 fun a1 =>
 cond a1
 (some (2, true))
 (Option.bind (α := Bool)
 (cond (x1 == 3)
 (cond (x0 == 1)
 (some true)
 (some (x0 == 2)))
 (some false))
 fun a2 =>
 cond a2
 (some (3, true))
 (Option.bind (α := Bool)
 (cond (x1 == 4)
 ((impl_within x0 1 3).bind fun a3 =>
 some a3)
 (some false))
 fun a4 =>
 cond a4
 (some (4, true))
 (some (x0, false)))))
noncomputable def impl_EventsOk (x0 : List Event) : Option (Bool) :=
 (loopW (ρ := (Unit) ⊕ (Bool)) (fun (a0 : Int × Int) =>
 cond (decide (a0.1 < (x0.length : Int)))
 ((idx x0 a0.1).bind fun a1 =>
 (impl_StatusAfter a0.2 a1.Kind).bind fun a2 =>
 Option.bind (α := Bool)
 (cond (!a2.2)
 (some true)
 ((impl_MonthOk a1.Month).bind fun a3 =>
 cond (!a3)
 (some true)
 (cond (decide (a0.1 > 0))
 ((idx x0 (w64 (a0.1 - 1))).bind fun a4 =>
 some (decide (a4.Month ≥ a1.Month)))
 (some false))))
 fun a5 =>
 cond a5
 (some (.done (.inr false)))
 (some (.cont (w64 (a0.1 + 1), a2.1))))
 (some (.done (.inl ()))))
 (0, 0)).bind fun a6 => brkE a6 (fun (a7 : Unit) =>
 some (decide ((x0.length : Int) ≤ 30)))
 (some)
noncomputable def impl_MemberOk (x0 : Member) : Option (Bool) :=
 Option.bind (α := Bool)
 ((impl_MonthOk x0.Birth).bind fun a0 =>
 cond a0
 ((impl_MonthOk x0.Joined).bind fun a1 =>
 cond a1
 (cond (decide (x0.Birth ≤ x0.Joined))
 ((impl_SpellsOk x0.Spells).bind fun a2 =>
 cond a2
 ((impl_EventsOk x0.Events).bind fun a3 =>
 some a3)
 (some false))
 (some false))
 (some false))
 (some false))
 fun a4 =>
 some a4
noncomputable def impl_CaseOk (x0 : Case) : Option (Bool) :=
 Option.bind (α := Bool)
 ((impl_BookOk x0.Book).bind fun a0 =>
 cond a0
 ((impl_StoreOk x0.Store).bind fun a1 =>
 cond a1
 ((impl_SeriesOk x0.Series).bind fun a2 =>
 cond a2
 ((impl_MemberOk x0.Member).bind fun a3 =>
 some a3)
 (some false))
 (some false))
 (some false))
 fun a4 =>
 some a4
noncomputable def impl_now (x0 : Office) : Option (Int) :=
 some (w64 (x0.Start + (x0.Paid.length : Int)))
noncomputable def impl_allWithin_1 (x0 : Int) (zf_0 : Int) (zf_1 : Int) : Option (Bool) :=
 (impl_within x0 zf_0 zf_1).bind fun a0 =>
 some (!a0)
noncomputable def slices_IndexFunc_int__impl_allWithin_1 (x0 : List Int) (z1_0 : Int) (z1_1 : Int) : Option (Int) :=
 (loopW (ρ := (Unit) ⊕ (Int)) (fun (a0 : Int) =>
 cond (decide (a0 < (x0.length : Int)))
 ((idx x0 a0).bind fun a1 =>
 (impl_allWithin_1 a1 z1_0 z1_1).bind fun a2 =>
 cond a2
 (some (.done (.inr a0)))
 (some (.cont (w64 (a0 + 1)))))
 (some (.done (.inl ()))))
 0).bind fun a3 => brkE a3 (fun (a4 : Unit) =>
 some (-1))
 (some)
noncomputable def slices_ContainsFunc_int__impl_allWithin_1 (x0 : List Int) (z1_0 : Int) (z1_1 : Int) : Option (Bool) :=
 (slices_IndexFunc_int__impl_allWithin_1 x0 z1_0 z1_1).bind fun a0 =>
 some (decide (a0 ≥ 0))
noncomputable def impl_allWithin (x0 : List Int) (x1 : Int) (x2 : Int) : Option (Bool) :=
 (slices_ContainsFunc_int__impl_allWithin_1 x0 x1 x2).bind fun a0 =>
 some (!a0)
noncomputable def impl_OfficeOk (x0 : Office) : Option (Bool) :=
 Option.bind (α := Bool)
 ((impl_CaseOk x0.Case).bind fun a0 =>
 cond a0
 ((impl_MonthOk x0.Start).bind fun a1 =>
 cond a1
 ((impl_now x0).bind fun a2 =>
 (impl_MonthOk a2).bind fun a3 =>
 cond a3
 (cond (decide ((x0.Paid.length : Int) ≤ 240))
 ((impl_allWithin x0.Paid 0 1000000000000).bind fun a4 =>
 some a4)
 (some false))
 (some false))
 (some false))
 (some false))
 fun a5 =>
 some a5
noncomputable def impl_OfficeNew (x0 : Case) (x1 : Int) : Option (Office × Bool) :=
 (impl_copyCase x0).bind fun a0 =>
 (impl_OfficeOk (Office.mk a0 x1 ([] : List Int))).bind fun a1 =>
 cond (!a1)
 (some (Office.mk (Case.mk (Book.mk ([] : List Rule)) (Store.mk ([] : List Fact)) (Series.mk ([] : List Point)) (Member.mk 0 0 ([] : List Spell) ([] : List Event))) 0 ([] : List Int), false))
 (some (Office.mk a0 x1 ([] : List Int), true))
noncomputable def slices_Clone_int (x0 : List Int) : Option ((List Int)) :=
 (appC ([] : List Int) x0).bind fun a0 =>
 some a0
noncomputable def impl_copyOffice (x0 : Office) : Option (Office) :=
 (impl_copyCase x0.Case).bind fun a0 =>
 (slices_Clone_int x0.Paid).bind fun a1 =>
 some (Office.mk a0 x0.Start a1)
noncomputable def impl_ActOk (x0 : Act) : Option (Bool) :=
 joinP (fun (a0 : Int × Int × Int × Int × Int × Int × Int × Int × Int) =>
 Option.bind (α := Bool)
 (cond ((x0.Kind == x0.Kind) && (((x0.Fact.Key == a0.1) && ((x0.Fact.From == a0.2.1) && ((x0.Fact.To == a0.2.2.1) && ((x0.Fact.Known == a0.2.2.2.1) && ((x0.Fact.Value == a0.2.2.2.2.1) && true))))) && (((x0.Point.Month == a0.2.2.2.2.2.1) && ((x0.Point.Known == a0.2.2.2.2.2.2.1) && ((x0.Point.Value == a0.2.2.2.2.2.2.2.1) && true))) && ((x0.N == a0.2.2.2.2.2.2.2.2) && true))))
 (cond (x0.Fact.Known == 0)
 (some (x0.Point.Known == 0))
 (some false))
 (some false))
 fun a2 =>
 some a2)
 (fun a1 =>
 cond (x0.Kind == 1)
 (a1 (x0.Fact.Key, x0.Fact.From, x0.Fact.To, x0.Fact.Known, x0.Fact.Value, 0, 0, 0, 0))
 (cond (x0.Kind == 2)
 (a1 (0, 0, 0, 0, 0, x0.Point.Month, x0.Point.Known, x0.Point.Value, 0))
 (cond (x0.Kind == 3)
 ((impl_within x0.N 1 24).bind fun a3 =>
 cond (!a3)
 (some false)
 (a1 (0, 0, 0, 0, 0, 0, 0, 0, x0.N)))
 (some false))))
noncomputable def impl_AddFact (x0 : Store) (x1 : Fact) : Option (Store × Bool) :=
 (slices_Clone_Fact x0.Facts).bind fun a1 =>
 (appC a1 ([x1] : List Fact)).bind fun a0 =>
 Option.bind (α := Bool)
 ((impl_StoreOk x0).bind fun a2 =>
 cond (!a2)
 (some true)
 ((impl_StoreOk (Store.mk a0)).bind fun a3 =>
 some (!a3)))
 fun a4 =>
 cond a4
 ((impl_copyStore x0).bind fun a5 =>
 some (a5, false))
 (some (Store.mk a0, true))
noncomputable def impl_LearnFact (x0 : Office) (x1 : Fact) : Option (Office × Bool) :=
 (impl_copyOffice x0).bind fun a0 =>
 (impl_now x0).bind fun a2 =>
 (impl_AddFact x0.Case.Store (Fact.mk x1.Key x1.From x1.To a2 x1.Value)).bind fun a1 =>
 Option.bind (α := Bool)
 (cond (!a1.2)
 (some true)
 ((impl_OfficeOk x0).bind fun a3 =>
 some (!a3)))
 fun a4 =>
 cond a4
 (some (a0, false))
 (some (Office.mk (Case.mk a0.Case.Book a1.1 a0.Case.Series a0.Case.Member) a0.Start a0.Paid, true))
noncomputable def impl_Publish (x0 : Series) (x1 : Point) : Option (Series × Bool) :=
 (slices_Clone_Point x0.Points).bind fun a1 =>
 (appC a1 ([x1] : List Point)).bind fun a0 =>
 Option.bind (α := Bool)
 ((impl_SeriesOk x0).bind fun a2 =>
 cond (!a2)
 (some true)
 ((impl_SeriesOk (Series.mk a0)).bind fun a3 =>
 some (!a3)))
 fun a4 =>
 cond a4
 ((impl_copySeries x0).bind fun a5 =>
 some (a5, false))
 (some (Series.mk a0, true))
noncomputable def impl_LearnPoint (x0 : Office) (x1 : Point) : Option (Office × Bool) :=
 (impl_copyOffice x0).bind fun a0 =>
 (impl_now x0).bind fun a2 =>
 (impl_Publish x0.Case.Series (Point.mk x1.Month a2 x1.Value)).bind fun a1 =>
 Option.bind (α := Bool)
 (cond (!a1.2)
 (some true)
 ((impl_OfficeOk x0).bind fun a3 =>
 some (!a3)))
 fun a4 =>
 cond a4
 (some (a0, false))
 (some (Office.mk (Case.mk a0.Case.Book a0.Case.Store a1.1 a0.Case.Member) a0.Start a0.Paid, true))
noncomputable def impl_total (x0 : List Int) : Option (Int) :=
 (loopW (ρ := (Int) ⊕ (Int)) (fun (a0 : Int × Int) =>
 cond (decide (a0.1 < (x0.length : Int)))
 ((idx x0 a0.1).bind fun a1 =>
 some (.cont (w64 (a0.1 + 1), w64 (a0.2 + a1))))
 (some (.done (.inl a0.2))))
 (0, 0)).bind fun a2 => brkE a2 (fun (a3 : Int) =>
 some a3)
 (some)
noncomputable def impl_StatusAt (x0 : List Event) (x1 : Int) : Option (Int) :=
 (impl_EventsOk x0).bind fun a3 =>
 cond (!a3)
 (some 0)
 ((loopW (ρ := (Int) ⊕ (Int)) (fun (a0 : Int × Int) =>
 cond (decide (a0.1 < (x0.length : Int)))
 ((idx x0 a0.1).bind fun a1 =>
 joinP (fun (a4 : Int) =>
 some (.cont (w64 (a0.1 + 1), a4)))
 (fun a2 =>
 cond (decide (a1.Month ≤ x1))
 ((impl_StatusAfter a0.2 a1.Kind).bind fun a5 =>
 a2 a5.1)
 (a2 a0.2)))
 (some (.done (.inl a0.2))))
 (0, 0)).bind fun a6 => brkE a6 (fun (a7 : Int) =>
 some a7)
 (some))
noncomputable def impl_isEnd (x0 : Int) : Option (Bool) :=
 (impl_within x0 0 3600).bind fun a0 =>
 some a0
/-- The value of a fact that is asked for. -/
noncomputable def hitFact (k m known : Int) (f : Fact) : Option Int := cond (f.Key == k) (cond (decide (f.From ≤ m)) (cond (decide (m < f.To)) (cond (decide (f.Known ≤ known)) (some f.Value) none) none) none) none
noncomputable def impl_ValueAt (x0 : Store) (x1 x2 x3 : Int) : Option (Int × Bool) :=
 cond (decide ((x0.Facts.length : Int) ≤ 1099511627776)) (some (match x0.Facts.reverse.findSome? (hitFact x1 x2 x3) with
 | some v => (v, true)
 | none => (0, false))) none
noncomputable def impl_FinalPay (x0 : Store) (x1 : Int) (x2 : Int) : Option (Int × Bool) :=
 Option.bind (α := Bool)
 ((impl_StoreOk x0).bind fun a2 =>
 cond (!a2)
 (some true)
 ((impl_isEnd x1).bind fun a3 =>
 some (!a3)))
 fun a4 =>
 cond a4
 (some (0, false))
 ((loopW (ρ := (Unit) ⊕ (Int × Bool)) (fun (a0 : Int) =>
 cond (decide (a0 ≥ 0))
 ((impl_ValueAt x0 1 a0 x2).bind fun a1 =>
 cond a1.2
 (some (.done (.inr (a1.1, true))))
 (some (.cont (w64 (a0 - 1)))))
 (some (.done (.inl ()))))
 (w64 (x1 - 1))).bind fun a5 => brkE a5 (fun (a6 : Unit) =>
 some (0, false))
 (some))
noncomputable def impl_IndexAt (x0 : Series) (x1 : Int) (x2 : Int) : Option (Int × Bool) :=
 (loopW (ρ := (Bool × Int × Int × Int) ⊕ (Int × Bool)) (fun (a0 : Int × Bool × Int × Int × Int) =>
 cond (decide (a0.1 < (x0.Points.length : Int)))
 ((idx x0.Points a0.1).bind fun a1 =>
 Option.bind (α := Bool)
 (cond (decide (a1.Month ≤ x1))
 (cond (decide (a1.Known ≤ x2))
 (cond (!a0.2.1)
 (some true)
 (some (decide (a1.Month ≥ a0.2.2.1))))
 (some false))
 (some false))
 fun a5 =>
 joinP (fun (a2 : Bool × Int × Int × Int) =>
 some (.cont (w64 (a0.1 + 1), a2.1, a2.2.1, a2.2.2.1, a2.2.2.2)))
 (fun a3 =>
 cond a5
 (a3 (true, a1.Month, a1.Known, a1.Value))
 (a3 (a0.2.1, a0.2.2.1, a0.2.2.2.1, a0.2.2.2.2))))
 (some (.done (.inl (a0.2.1, a0.2.2.1, a0.2.2.2.1, a0.2.2.2.2)))))
 (0, false, 0, 0, 0)).bind fun a6 => brkE a6 (fun (a4 : Bool × Int × Int × Int) =>
 some (a4.2.2.2, a4.1))
 (some)
noncomputable def impl_reduced (x0 : Int) (x1 : Int) : Option (Frac × Bool) :=
 joinP (fun (a0 : Int × Int) =>
 (impl_gcd a0.1 a0.2).bind fun a1 =>
 (nz a1).bind fun _ =>
 (nz a1).bind fun _ =>
 (impl_FracOk (Frac.mk (w64 (Int.tdiv a0.1 a1)) (w64 (Int.tdiv a0.2 a1)))).bind fun a3 =>
 cond (!a3)
 (some (Frac.mk 0 0, false))
 (some (Frac.mk (w64 (Int.tdiv a0.1 a1)) (w64 (Int.tdiv a0.2 a1)), true)))
 (fun a2 =>
 cond (decide (x1 < 0))
 (a2 (w64 (0 - x0), w64 (0 - x1)))
 (a2 (x0, x1)))
noncomputable def impl_FracNew (x0 : Int) (x1 : Int) : Option (Frac × Bool) :=
 Option.bind (α := Bool)
 (cond (x1 == 0)
 (some true)
 ((impl_within x0 (-1000000000000) 1000000000000).bind fun a1 =>
 cond (!a1)
 (some true)
 ((impl_within x1 (-1000000000000) 1000000000000).bind fun a2 =>
 some (!a2))))
 fun a3 =>
 cond a3
 (some (Frac.mk 0 0, false))
 ((impl_reduced x0 x1).bind fun a0 =>
 some (a0.1, a0.2))
noncomputable def impl_IndexRatio (x0 : Series) (x1 : Int) (x2 : Int) (x3 : Int) : Option (Frac × Bool) :=
 (impl_IndexAt x0 x1 x3).bind fun a0 =>
 (impl_IndexAt x0 x2 x3).bind fun a1 =>
 Option.bind (α := Bool)
 (cond (!a0.2)
 (some true)
 (some (!a1.2)))
 fun a3 =>
 cond a3
 (some (Frac.mk 0 0, false))
 ((impl_FracNew a1.1 a0.1).bind fun a2 =>
 some (a2.1, a2.2))
/-- The month of an event that is asked for. -/
noncomputable def hitEvent (k : Int) (f : Event) : Option Int := cond (f.Kind == k) (some f.Month) none
noncomputable def impl_MonthOfKind (x0 : List Event) (x1 : Int) : Option Int :=
 (impl_EventsOk x0).bind fun t => cond (!t) (some (-1)) (cond (decide ((x0.length : Int) ≤ 1099511627776)) (some ((x0.reverse.findSome? (hitEvent x1)).getD (-1))) none)
noncomputable def impl_MonthsIn (x0 : Int) (x1 : Int) (x2 : Int) (x3 : Int) : Option (Int) :=
 (impl_allWithin ([x0, x1, x2, x3] : List Int) 0 3600).bind fun a0 =>
 cond (!a0)
 (some 0)
 (some (imax 0 (w64 ((imin x1 x3) - (imax x0 x2)))))
noncomputable def impl_ServiceIn (x0 : List Spell) (x1 : Int) (x2 : Int) : Option (Int) :=
 Option.bind (α := Bool)
 ((impl_SpellsOk x0).bind fun a3 =>
 cond (!a3)
 (some true)
 ((impl_isEnd x1).bind fun a4 =>
 cond (!a4)
 (some true)
 ((impl_isEnd x2).bind fun a5 =>
 some (!a5))))
 fun a6 =>
 cond a6
 (some 0)
 ((loopW (ρ := (Int) ⊕ (Int)) (fun (a0 : Int × Int) =>
 cond (decide (a0.1 < (x0.length : Int)))
 ((idx x0 a0.1).bind fun a1 =>
 joinP (fun (a7 : Int) =>
 some (.cont (w64 (a0.1 + 1), a7)))
 (fun a2 =>
 cond (!a1.Leave)
 ((impl_MonthsIn x1 x2 a1.From a1.To).bind fun a8 =>
 a2 (w64 (a0.2 + (w64 (a1.Percent * a8)))))
 (a2 a0.2)))
 (some (.done (.inl a0.2))))
 (0, 0)).bind fun a9 => brkE a9 (fun (aa : Int) =>
 some aa)
 (some))
noncomputable def impl_whole (x0 : Int) : Option (Frac) :=
 some (Frac.mk x0 1)
noncomputable def impl_AgeAt (x0 : Int) (x1 : Int) (x2 : Int) : Option (Int) :=
 Option.bind (α := Bool)
 ((impl_MonthOk x0).bind fun a0 =>
 cond (!a0)
 (some true)
 ((impl_MonthOk x1).bind fun a1 =>
 cond (!a1)
 (some true)
 (some (decide (x1 < x0)))))
 fun a2 =>
 cond a2
 (some (-1))
 (cond (x2 == 1)
 (some (w64 (Int.tdiv (w64 (x1 - x0)) 12)))
 (cond (x2 == 2)
 (some (w64 (Int.tdiv (w64 ((w64 (x1 - x0)) + 6)) 12)))
 (cond (x2 == 3)
 (some (w64 ((w64 (Int.tdiv (w64 (x1 - x0)) 12)) + 1)))
 (some (-1)))))
noncomputable def impl_VarsFor_1 (x0 : Frac) : Option (Bool) :=
 (impl_FracOk x0).bind fun a0 =>
 some (!a0)
noncomputable def slices_IndexFunc_Frac__impl_VarsFor_1 (x0 : List Frac) : Option (Int) :=
 (loopW (ρ := (Unit) ⊕ (Int)) (fun (a0 : Int) =>
 cond (decide (a0 < (x0.length : Int)))
 ((idx x0 a0).bind fun a1 =>
 (impl_VarsFor_1 a1).bind fun a2 =>
 cond a2
 (some (.done (.inr a0)))
 (some (.cont (w64 (a0 + 1)))))
 (some (.done (.inl ()))))
 0).bind fun a3 => brkE a3 (fun (a4 : Unit) =>
 some (-1))
 (some)
noncomputable def slices_ContainsFunc_Frac__impl_VarsFor_1 (x0 : List Frac) : Option (Bool) :=
 (slices_IndexFunc_Frac__impl_VarsFor_1 x0).bind fun a0 =>
 some (decide (a0 ≥ 0))
noncomputable def impl_VarsFor (x0 : Case) (x1 : Int) (x2 : Int) : Option ((List Frac) × Bool) :=
 Option.bind (α := Bool)
 ((impl_CaseOk x0).bind fun ac =>
 cond (!ac)
 (some true)
 ((impl_MonthOk x1).bind fun ad =>
 cond (!ad)
 (some true)
 ((impl_MonthOk x2).bind fun ae =>
 cond (!ae)
 (some true)
 (some (decide (x1 < x0.Member.Joined))))))
 fun af =>
 cond af
 (some (([] : List Frac), false))
 ((impl_FinalPay x0.Store x1 x2).bind fun ag =>
 (impl_IndexRatio x0.Series x0.Member.Joined x1 x2).bind fun a1 =>
 joinP (fun (a0 : Int × Int) =>
 (impl_MonthOfKind x0.Member.Events 3).bind fun a2 =>
 Option.bind (α := Bool)
 (cond (decide (a2 < 0))
 (some true)
 (some (decide (a2 > x1))))
 fun ah =>
 joinP (fun (ai : Int) =>
 (impl_ServiceIn x0.Member.Spells 0 x1).bind fun aj =>
 (impl_reduced aj 100).bind fun a3 =>
 (impl_whole ag.1).bind fun a4 =>
 (impl_AgeAt x0.Member.Birth x1 1).bind fun ak =>
 (impl_whole ak).bind fun a5 =>
 (impl_whole (w64 (x1 - ai))).bind fun a6 =>
 (impl_whole x1).bind fun a7 =>
 (impl_whole 0).bind fun a8 =>
 (impl_whole 0).bind fun a9 =>
 Option.bind (α := Bool)
 (cond (!a3.2)
 (some true)
 ((slices_ContainsFunc_Frac__impl_VarsFor_1 ([a3.1, a4, a5, Frac.mk a0.1 a0.2, a6, a7, a8, a9] : List Frac)).bind fun al =>
 some al))
 fun am =>
 cond am
 (some (([] : List Frac), false))
 (some (([a3.1, a4, a5, Frac.mk a0.1 a0.2, a6, a7, a8, a9] : List Frac), true)))
 (fun aa =>
 cond ah
 (aa x1)
 (aa a2)))
 (fun ab =>
 cond (!a1.2)
 (ab (1, 1))
 (ab (a1.1.Num, a1.1.Den))))
noncomputable def impl_RuleFor (x0 : Book) (x1 : Int) (x2 : Int) (x3 : Int) : Option (Int) :=
 (loopW (ρ := (Int) ⊕ (Int)) (fun (a0 : Int × Int) =>
 cond (decide (a0.1 < (x0.Rules.length : Int)))
 ((idx x0.Rules a0.1).bind fun a1 =>
 Option.bind (α := Bool)
 (cond (a1.Name == x1)
 (cond (decide (a1.From ≤ x2))
 (cond (decide (x2 < a1.To))
 (cond (decide (a1.Joined > x3))
 (cond (decide (a0.2 < 0))
 (some true)
 ((idx x0.Rules a0.2).bind fun a3 =>
 some (decide (a1.Rank > a3.Rank))))
 (some false))
 (some false))
 (some false))
 (some false))
 fun a4 =>
 joinP (fun (a5 : Int) =>
 some (.cont (w64 (a0.1 + 1), a5)))
 (fun a2 =>
 cond a4
 (a2 a0.1)
 (a2 a0.2)))
 (some (.done (.inl a0.2))))
 (0, (-1))).bind fun a6 => brkE a6 (fun (a7 : Int) =>
 (impl_BookOk x0).bind fun a8 =>
 cond (!a8)
 (some (-1))
 (some a7))
 (some)
noncomputable def impl_EvalAll_1 (x0 : Frac) : Option (Bool) :=
 (impl_FracOk x0).bind fun a0 =>
 some (!a0)
noncomputable def slices_IndexFunc_Frac__impl_EvalAll_1 (x0 : List Frac) : Option (Int) :=
 (loopW (ρ := (Unit) ⊕ (Int)) (fun (a0 : Int) =>
 cond (decide (a0 < (x0.length : Int)))
 ((idx x0 a0).bind fun a1 =>
 (impl_EvalAll_1 a1).bind fun a2 =>
 cond a2
 (some (.done (.inr a0)))
 (some (.cont (w64 (a0 + 1)))))
 (some (.done (.inl ()))))
 0).bind fun a3 => brkE a3 (fun (a4 : Unit) =>
 some (-1))
 (some)
noncomputable def slices_ContainsFunc_Frac__impl_EvalAll_1 (x0 : List Frac) : Option (Bool) :=
 (slices_IndexFunc_Frac__impl_EvalAll_1 x0).bind fun a0 =>
 some (decide (a0 ≥ 0))
noncomputable def cmp_isNaN_int (x0 : Int) : Option (Bool) :=
 some (x0 != x0)
noncomputable def cmp_Compare_int (x0 : Int) (x1 : Int) : Option (Int) :=
 (cmp_isNaN_int x0).bind fun a1 =>
 (cmp_isNaN_int x1).bind fun a0 =>
 cond a1
 (cond a0
 (some 0)
 (some (-1)))
 (cond a0
 (some 1)
 (cond (decide (x0 < x1))
 (some (-1))
 (cond (decide (x0 > x1))
 (some 1)
 (some 0))))
noncomputable def impl_FracCmp (x0 : Frac) (x1 : Frac) : Option (Int) :=
 Option.bind (α := Bool)
 ((impl_FracOk x0).bind fun a0 =>
 cond (!a0)
 (some true)
 ((impl_FracOk x1).bind fun a1 =>
 some (!a1)))
 fun a2 =>
 cond a2
 (some 2)
 ((cmp_Compare_int (w64 (x0.Num * x1.Den)) (w64 (x1.Num * x0.Den))).bind fun a3 =>
 some a3)
noncomputable def impl_FracAdd (x0 : Frac) (x1 : Frac) : Option (Frac × Bool) :=
 Option.bind (α := Bool)
 ((impl_FracOk x0).bind fun a1 =>
 cond (!a1)
 (some true)
 ((impl_FracOk x1).bind fun a2 =>
 some (!a2)))
 fun a3 =>
 cond a3
 (some (Frac.mk 0 0, false))
 ((impl_reduced (w64 ((w64 (x0.Num * x1.Den)) + (w64 (x1.Num * x0.Den)))) (w64 (x0.Den * x1.Den))).bind fun a0 =>
 some (a0.1, a0.2))
noncomputable def impl_FracSub (x0 : Frac) (x1 : Frac) : Option (Frac × Bool) :=
 Option.bind (α := Bool)
 ((impl_FracOk x0).bind fun a1 =>
 cond (!a1)
 (some true)
 ((impl_FracOk x1).bind fun a2 =>
 some (!a2)))
 fun a3 =>
 cond a3
 (some (Frac.mk 0 0, false))
 ((impl_reduced (w64 ((w64 (x0.Num * x1.Den)) - (w64 (x1.Num * x0.Den)))) (w64 (x0.Den * x1.Den))).bind fun a0 =>
 some (a0.1, a0.2))
noncomputable def impl_areFactors (x0 : Frac) (x1 : Frac) : Option (Bool) :=
 Option.bind (α := Bool)
 ((impl_FracOk x0).bind fun a0 =>
 cond a0
 ((impl_FracOk x1).bind fun a1 =>
 cond a1
 ((impl_within x0.Num (-1000000) 1000000).bind fun a2 =>
 cond a2
 ((impl_within x1.Num (-1000000) 1000000).bind fun a3 =>
 some a3)
 (some false))
 (some false))
 (some false))
 fun a4 =>
 some a4
noncomputable def impl_FracMul (x0 : Frac) (x1 : Frac) : Option (Frac × Bool) :=
 (impl_areFactors x0 x1).bind fun a1 =>
 cond (!a1)
 (some (Frac.mk 0 0, false))
 ((impl_reduced (w64 (x0.Num * x1.Num)) (w64 (x0.Den * x1.Den))).bind fun a0 =>
 some (a0.1, a0.2))
noncomputable def impl_FracDiv (x0 : Frac) (x1 : Frac) : Option (Frac × Bool) :=
 Option.bind (α := Bool)
 ((impl_areFactors x0 x1).bind fun a1 =>
 cond (!a1)
 (some true)
 (some (x1.Num == 0)))
 fun a2 =>
 cond a2
 (some (Frac.mk 0 0, false))
 ((impl_reduced (w64 (x0.Num * x1.Den)) (w64 (x0.Den * x1.Num))).bind fun a0 =>
 some (a0.1, a0.2))
noncomputable def impl_evalNode (x0 : Node) (x1 : List Frac) (x2 : List Frac) : Option (Frac × Bool) :=
 cond (x0.Kind == 1)
 (some (x0.Value, true))
 (cond (x0.Kind == 2)
 ((idx x2 x0.A).bind fun a7 =>
 some (a7, true))
 ((idx x1 x0.A).bind fun a0 =>
 (idx x1 x0.B).bind fun a1 =>
 (impl_FracCmp a0 a1).bind fun a8 =>
 joinP (fun (ac : Unit) =>
 cond (decide (a0.Num > 0))
 (some (a1, true))
 ((idx x1 x0.C).bind fun a9 =>
 some (a9, true)))
 (fun aa =>
 cond (x0.Kind == 3)
 ((impl_FracAdd a0 a1).bind fun a2 =>
 some (a2.1, a2.2))
 (cond (x0.Kind == 4)
 ((impl_FracSub a0 a1).bind fun a3 =>
 some (a3.1, a3.2))
 (cond (x0.Kind == 5)
 ((impl_FracMul a0 a1).bind fun a4 =>
 some (a4.1, a4.2))
 (cond (x0.Kind == 6)
 ((impl_FracDiv a0 a1).bind fun a5 =>
 some (a5.1, a5.2))
 (joinP (fun (ab : Bool) =>
 cond ab
 (cond ((decide (a8 ≤ 0)) == (x0.Kind == 7))
 (some (a0, true))
 (some (a1, true)))
 (aa ()))
 (fun a6 =>
 cond (x0.Kind == 7)
 (a6 (x0.Kind == 7))
 (a6 (x0.Kind == 8))))))))))
noncomputable def impl_EvalAll (x0 : List Node) (x1 : List Frac) : Option ((List Frac) × Bool) :=
 Option.bind (α := Bool)
 ((impl_FormulaOk x0).bind fun a2 =>
 cond (!a2)
 (some true)
 (cond ((x1.length : Int) != 8)
 (some true)
 ((slices_ContainsFunc_Frac__impl_EvalAll_1 x1).bind fun a3 =>
 some a3)))
 fun a4 =>
 cond a4
 (some (([] : List Frac), false))
 ((loopW (ρ := ((List Frac)) ⊕ ((List Frac) × Bool)) (fun (a0 : Int × (List Frac)) =>
 cond (decide (a0.1 < (x0.length : Int)))
 ((idx x0 a0.1).bind fun a5 =>
 (impl_evalNode a5 a0.2 x1).bind fun a1 =>
 cond (!a1.2)
 (some (.done (.inr (([] : List Frac), false))))
 ((appC a0.2 ([a1.1] : List Frac)).bind fun a6 =>
 some (.cont (w64 (a0.1 + 1), a6))))
 (some (.done (.inl a0.2))))
 (0, ([] : List Frac))).bind fun a7 => brkE a7 (fun (a8 : (List Frac)) =>
 some (a8, true))
 (some))
noncomputable def impl_Eval (x0 : List Node) (x1 : List Frac) : Option (Frac × Bool) :=
 (impl_EvalAll x0 x1).bind fun a0 =>
 cond (!a0.2)
 (some (Frac.mk 0 0, false))
 ((idx a0.1 (w64 ((a0.1.length : Int) - 1))).bind fun a1 =>
 some (a1, true))
noncomputable def impl_floorDiv (x0 : Int) (x1 : Int) : Option (Int) :=
 (nz x1).bind fun _ =>
 (nz x1).bind fun _ =>
 joinP (fun (a1 : Int) =>
 some a1)
 (fun a0 =>
 cond (decide ((Int.tmod x0 x1) < 0))
 (a0 (w64 ((w64 (Int.tdiv x0 x1)) - 1)))
 (a0 (w64 (Int.tdiv x0 x1))))
noncomputable def impl_RoundFrac (x0 : Frac) (x1 : Int) : Option (Int × Bool) :=
 Option.bind (α := Bool)
 ((impl_FracOk x0).bind fun a3 =>
 cond (!a3)
 (some true)
 ((impl_within x1 1 4).bind fun a4 =>
 some (!a4)))
 fun a5 =>
 cond a5
 (some (0, false))
 ((impl_floorDiv x0.Num x0.Den).bind fun a0 =>
 joinP (fun (a6 : Bool) =>
 joinP (fun (a7 : Int) =>
 some (a7, true))
 (fun a2 =>
 cond a6
 (a2 (w64 (a0 + 1)))
 (a2 a0)))
 (fun a1 =>
 cond (x1 == 2)
 (a1 (decide ((w64 (x0.Num - (w64 (a0 * x0.Den)))) > 0)))
 (cond (x1 == 3)
 (a1 (decide ((w64 (2 * (w64 (x0.Num - (w64 (a0 * x0.Den)))))) ≥ x0.Den)))
 (cond (x1 == 4)
 (Option.bind (α := Bool)
 (cond (decide ((w64 (2 * (w64 (x0.Num - (w64 (a0 * x0.Den)))))) > x0.Den))
 (some true)
 (cond ((w64 (2 * (w64 (x0.Num - (w64 (a0 * x0.Den)))))) == x0.Den)
 (some ((Int.tmod a0 2) != 0))
 (some false)))
 fun a8 =>
 a1 a8)
 (a1 false)))))
noncomputable def impl_Figure (x0 : Book) (x1 : Int) (x2 : Int) (x3 : Int) (x4 : List Frac) : Option (Int × Int × Bool) :=
 (impl_RuleFor x0 x1 x2 x3).bind fun a0 =>
 cond (decide (a0 < 0))
 (some (0, 0, false))
 ((idx x0.Rules a0).bind fun a3 =>
 (impl_Eval a3.Nodes x4).bind fun a1 =>
 (idx x0.Rules a0).bind fun a4 =>
 (impl_RoundFrac a1.1 a4.Mode).bind fun a2 =>
 Option.bind (α := Bool)
 (cond (!a1.2)
 (some true)
 (some (!a2.2)))
 fun a5 =>
 cond a5
 (some (0, 0, false))
 (some (a2.1, a0, true)))
noncomputable def impl_EntitlementAt (x0 : Case) (x1 : Int) (x2 : Int) : Option (Int) :=
 Option.bind (α := Bool)
 ((impl_CaseOk x0).bind fun a2 =>
 cond (!a2)
 (some true)
 ((impl_StatusAt x0.Member.Events x1).bind fun a3 =>
 some (a3 != 3)))
 fun a4 =>
 cond a4
 (some 0)
 ((impl_VarsFor x0 x1 x2).bind fun a0 =>
 (impl_Figure x0.Book 1 x1 x0.Member.Joined a0.1).bind fun a1 =>
 Option.bind (α := Bool)
 (cond (!a0.2)
 (some true)
 (some (!a1.2.2)))
 fun a5 =>
 cond a5
 (some 0)
 (some (imax 0 (imin a1.1 10000000))))
noncomputable def impl_DueNow (x0 : Office) : Option (Int) :=
 (impl_OfficeOk x0).bind fun a1 =>
 cond (!a1)
 (some 0)
 ((impl_total x0.Paid).bind fun a2 =>
 (loopW (ρ := (Int × Int × Int × Int) ⊕ (Int)) (fun (a0 : Int × Int) =>
 (impl_now x0).bind fun a3 =>
 cond (decide (a0.1 ≤ a3))
 ((impl_now x0).bind fun a4 =>
 (impl_EntitlementAt x0.Case a0.1 a4).bind fun a5 =>
 some (.cont (w64 (a0.1 + 1), w64 (a0.2 + a5))))
 (some (.done (.inl (a0.2, x0.Case.Member.Birth, x0.Case.Member.Joined, x0.Start)))))
 (x0.Start, w64 (0 - a2))).bind fun a6 => brkE a6 (fun (a7 : Int × Int × Int × Int) =>
 some a7.1)
 (some))
noncomputable def impl_PayMonth (x0 : Office) : Option (Office × Int × Bool) :=
 (impl_copyOffice x0).bind fun a0 =>
 (impl_DueNow x0).bind fun a1 =>
 (appC a0.Paid ([imax 0 a1] : List Int)).bind fun a2 =>
 Option.bind (α := Bool)
 ((impl_OfficeOk x0).bind fun a3 =>
 cond (!a3)
 (some true)
 ((impl_OfficeOk (Office.mk a0.Case a0.Start a2)).bind fun a4 =>
 some (!a4)))
 fun a5 =>
 cond a5
 ((impl_copyOffice x0).bind fun a6 =>
 some (a6, 0, false))
 (some (Office.mk a0.Case a0.Start a2, imax 0 a1, true))
noncomputable def impl_DoAct (x0 : Office) (x1 : Act) : Option (Office × Int) :=
 (impl_copyOffice x0).bind fun a2 =>
 Option.bind (α := Bool)
 ((impl_OfficeOk x0).bind fun a8 =>
 cond (!a8)
 (some true)
 ((impl_ActOk x1).bind fun a9 =>
 some (!a9)))
 fun aa =>
 cond aa
 (some (a2, (-1)))
 (joinP (fun (a1 : Bool × (List Rule) × (List Fact) × (List Point) × Int × Int × (List Spell) × (List Event) × Int × (List Int)) =>
 cond a1.1
 (some (Office.mk (Case.mk (Book.mk a1.2.1) (Store.mk a1.2.2.1) (Series.mk a1.2.2.2.1) (Member.mk a1.2.2.2.2.1 a1.2.2.2.2.2.1 a1.2.2.2.2.2.2.1 a1.2.2.2.2.2.2.2.1)) a1.2.2.2.2.2.2.2.2.1 a1.2.2.2.2.2.2.2.2.2, 1))
 (some (Office.mk (Case.mk (Book.mk a1.2.1) (Store.mk a1.2.2.1) (Series.mk a1.2.2.2.1) (Member.mk a1.2.2.2.2.1 a1.2.2.2.2.2.1 a1.2.2.2.2.2.2.1 a1.2.2.2.2.2.2.2.1)) a1.2.2.2.2.2.2.2.2.1 a1.2.2.2.2.2.2.2.2.2, 0)))
 (fun a7 =>
 cond (x1.Kind == 1)
 ((impl_LearnFact x0 x1.Fact).bind fun a3 =>
 a7 (a3.2, a3.1.Case.Book.Rules, a3.1.Case.Store.Facts, a3.1.Case.Series.Points, a3.1.Case.Member.Birth, a3.1.Case.Member.Joined, a3.1.Case.Member.Spells, a3.1.Case.Member.Events, a3.1.Start, a3.1.Paid))
 (cond (x1.Kind == 2)
 ((impl_LearnPoint x0 x1.Point).bind fun a4 =>
 a7 (a4.2, a4.1.Case.Book.Rules, a4.1.Case.Store.Facts, a4.1.Case.Series.Points, a4.1.Case.Member.Birth, a4.1.Case.Member.Joined, a4.1.Case.Member.Spells, a4.1.Case.Member.Events, a4.1.Start, a4.1.Paid))
 ((loopW (ρ := (Int × (List Rule) × (List Fact) × (List Point) × Int × Int × (List Spell) × (List Event) × Int × (List Int)) ⊕ (Office × Int)) (fun (a0 : Int × Int × (List Rule) × (List Fact) × (List Point) × Int × Int × (List Spell) × (List Event) × Int × (List Int)) =>
 cond (decide (a0.1 < x1.N))
 ((impl_PayMonth (Office.mk (Case.mk (Book.mk a0.2.2.1) (Store.mk a0.2.2.2.1) (Series.mk a0.2.2.2.2.1) (Member.mk a0.2.2.2.2.2.1 a0.2.2.2.2.2.2.1 a0.2.2.2.2.2.2.2.1 a0.2.2.2.2.2.2.2.2.1)) a0.2.2.2.2.2.2.2.2.2.1 a0.2.2.2.2.2.2.2.2.2.2)).bind fun a5 =>
 some (.cont (w64 (a0.1 + 1), w64 (a0.2.1 + a5.2.1), a5.1.Case.Book.Rules, a5.1.Case.Store.Facts, a5.1.Case.Series.Points, a5.1.Case.Member.Birth, a5.1.Case.Member.Joined, a5.1.Case.Member.Spells, a5.1.Case.Member.Events, a5.1.Start, a5.1.Paid)))
 (some (.done (.inl (a0.2.1, a0.2.2.1, a0.2.2.2.1, a0.2.2.2.2.1, a0.2.2.2.2.2.1, a0.2.2.2.2.2.2.1, a0.2.2.2.2.2.2.2.1, a0.2.2.2.2.2.2.2.2.1, a0.2.2.2.2.2.2.2.2.2.1, a0.2.2.2.2.2.2.2.2.2.2)))))
 (0, 0, a2.Case.Book.Rules, a2.Case.Store.Facts, a2.Case.Series.Points, a2.Case.Member.Birth, a2.Case.Member.Joined, a2.Case.Member.Spells, a2.Case.Member.Events, a2.Start, a2.Paid)).bind fun ab => brkE ab (fun (a6 : Int × (List Rule) × (List Fact) × (List Point) × Int × Int × (List Spell) × (List Event) × Int × (List Int)) =>
 some (Office.mk (Case.mk (Book.mk a6.2.1) (Store.mk a6.2.2.1) (Series.mk a6.2.2.2.1) (Member.mk a6.2.2.2.2.1 a6.2.2.2.2.2.1 a6.2.2.2.2.2.2.1 a6.2.2.2.2.2.2.2.1)) a6.2.2.2.2.2.2.2.2.1 a6.2.2.2.2.2.2.2.2.2, a6.1))
 (some)))))
noncomputable def impl_RunActs (x0 : Case) (x1 : Int) (x2 : List Act) : Option (Office × (List Int)) :=
 (impl_OfficeNew x0 x1).bind fun a1 =>
 Option.bind (α := Bool)
 (cond (!a1.2)
 (some true)
 (some (decide ((x2.length : Int) > 60))))
 fun a4 =>
 cond a4
 (some (Office.mk (Case.mk (Book.mk ([] : List Rule)) (Store.mk ([] : List Fact)) (Series.mk ([] : List Point)) (Member.mk 0 0 ([] : List Spell) ([] : List Event))) 0 ([] : List Int), ([] : List Int)))
 ((loopW (ρ := ((List Int) × Int × Int × Int × Int × Int × (List Rule) × (List Fact) × (List Point) × Int × Int × (List Spell) × (List Event) × Int × (List Int)) ⊕ (Office × (List Int))) (fun (a0 : Int × (List Int) × (List Rule) × (List Fact) × (List Point) × Int × Int × (List Spell) × (List Event) × Int × (List Int)) =>
 cond (decide (a0.1 < (x2.length : Int)))
 ((idx x2 a0.1).bind fun a5 =>
 (impl_DoAct (Office.mk (Case.mk (Book.mk a0.2.2.1) (Store.mk a0.2.2.2.1) (Series.mk a0.2.2.2.2.1) (Member.mk a0.2.2.2.2.2.1 a0.2.2.2.2.2.2.1 a0.2.2.2.2.2.2.2.1 a0.2.2.2.2.2.2.2.2.1)) a0.2.2.2.2.2.2.2.2.2.1 a0.2.2.2.2.2.2.2.2.2.2) a5).bind fun a2 =>
 (appC a0.2.1 ([a2.2] : List Int)).bind fun a6 =>
 some (.cont (w64 (a0.1 + 1), a6, a2.1.Case.Book.Rules, a2.1.Case.Store.Facts, a2.1.Case.Series.Points, a2.1.Case.Member.Birth, a2.1.Case.Member.Joined, a2.1.Case.Member.Spells, a2.1.Case.Member.Events, a2.1.Start, a2.1.Paid)))
 (some (.done (.inl (a0.2.1, x0.Member.Birth, x0.Member.Joined, 0, 0, 0, a0.2.2.1, a0.2.2.2.1, a0.2.2.2.2.1, a0.2.2.2.2.2.1, a0.2.2.2.2.2.2.1, a0.2.2.2.2.2.2.2.1, a0.2.2.2.2.2.2.2.2.1, a0.2.2.2.2.2.2.2.2.2.1, a0.2.2.2.2.2.2.2.2.2.2)))))
 (0, ([] : List Int), a1.1.Case.Book.Rules, a1.1.Case.Store.Facts, a1.1.Case.Series.Points, a1.1.Case.Member.Birth, a1.1.Case.Member.Joined, a1.1.Case.Member.Spells, a1.1.Case.Member.Events, a1.1.Start, a1.1.Paid)).bind fun a7 => brkE a7 (fun (a3 : (List Int) × Int × Int × Int × Int × Int × (List Rule) × (List Fact) × (List Point) × Int × Int × (List Spell) × (List Event) × Int × (List Int)) =>
 some (Office.mk (Case.mk (Book.mk a3.2.2.2.2.2.2.1) (Store.mk a3.2.2.2.2.2.2.2.1) (Series.mk a3.2.2.2.2.2.2.2.2.1) (Member.mk a3.2.2.2.2.2.2.2.2.2.1 a3.2.2.2.2.2.2.2.2.2.2.1 a3.2.2.2.2.2.2.2.2.2.2.2.1 a3.2.2.2.2.2.2.2.2.2.2.2.2.1)) a3.2.2.2.2.2.2.2.2.2.2.2.2.2.1 a3.2.2.2.2.2.2.2.2.2.2.2.2.2.2, a3.1))
 (some))
noncomputable def laws_eqFrac (x0 : Frac) (x1 : Frac) : Option (Bool) :=
 cond (x0.Num != x1.Num)
 (some false)
 (cond (x0.Den != x1.Den)
 (some false)
 (some true))
noncomputable def laws_eqNode (x0 : Node) (x1 : Node) : Option (Bool) :=
 cond (x0.Kind != x1.Kind)
 (some false)
 (cond (x0.A != x1.A)
 (some false)
 (cond (x0.B != x1.B)
 (some false)
 (cond (x0.C != x1.C)
 (some false)
 ((laws_eqFrac x0.Value x1.Value).bind fun a0 =>
 cond (!a0)
 (some false)
 (some true)))))
noncomputable def laws_eqNodeS (x0 : List Node) (x1 : List Node) : Option (Bool) :=
 cond ((x0.length : Int) != (x1.length : Int))
 (some false)
 ((loopW (ρ := (Unit) ⊕ (Bool)) (fun (a0 : Int) =>
 cond (decide (a0 < (x0.length : Int)))
 ((idx x0 a0).bind fun a1 =>
 (idx x1 a0).bind fun a2 =>
 (laws_eqNode a1 a2).bind fun a3 =>
 cond (!a3)
 (some (.done (.inr false)))
 (some (.cont (w64 (a0 + 1)))))
 (some (.done (.inl ()))))
 0).bind fun a4 => brkE a4 (fun (a5 : Unit) =>
 some true)
 (some))
noncomputable def laws_eqRule (x0 : Rule) (x1 : Rule) : Option (Bool) :=
 cond (x0.Name != x1.Name)
 (some false)
 (cond (x0.From != x1.From)
 (some false)
 (cond (x0.To != x1.To)
 (some false)
 (cond (x0.Joined != x1.Joined)
 (some false)
 (cond (x0.Rank != x1.Rank)
 (some false)
 (cond (x0.Mode != x1.Mode)
 (some false)
 ((laws_eqNodeS x0.Nodes x1.Nodes).bind fun a0 =>
 cond (!a0)
 (some false)
 (some true)))))))
noncomputable def laws_eqRuleS (x0 : List Rule) (x1 : List Rule) : Option (Bool) :=
 cond ((x0.length : Int) != (x1.length : Int))
 (some false)
 ((loopW (ρ := (Unit) ⊕ (Bool)) (fun (a0 : Int) =>
 cond (decide (a0 < (x0.length : Int)))
 ((idx x0 a0).bind fun a1 =>
 (idx x1 a0).bind fun a2 =>
 (laws_eqRule a1 a2).bind fun a3 =>
 cond (!a3)
 (some (.done (.inr false)))
 (some (.cont (w64 (a0 + 1)))))
 (some (.done (.inl ()))))
 0).bind fun a4 => brkE a4 (fun (a5 : Unit) =>
 some true)
 (some))
noncomputable def laws_eqBook (x0 : Book) (x1 : Book) : Option (Bool) :=
 (laws_eqRuleS x0.Rules x1.Rules).bind fun a0 =>
 cond (!a0)
 (some false)
 (some true)
noncomputable def laws_eqFact (x0 : Fact) (x1 : Fact) : Option (Bool) :=
 cond (x0.Key != x1.Key)
 (some false)
 (cond (x0.From != x1.From)
 (some false)
 (cond (x0.To != x1.To)
 (some false)
 (cond (x0.Known != x1.Known)
 (some false)
 (cond (x0.Value != x1.Value)
 (some false)
 (some true)))))
noncomputable def laws_eqFactS (x0 : List Fact) (x1 : List Fact) : Option (Bool) :=
 cond ((x0.length : Int) != (x1.length : Int))
 (some false)
 ((loopW (ρ := (Unit) ⊕ (Bool)) (fun (a0 : Int) =>
 cond (decide (a0 < (x0.length : Int)))
 ((idx x0 a0).bind fun a1 =>
 (idx x1 a0).bind fun a2 =>
 (laws_eqFact a1 a2).bind fun a3 =>
 cond (!a3)
 (some (.done (.inr false)))
 (some (.cont (w64 (a0 + 1)))))
 (some (.done (.inl ()))))
 0).bind fun a4 => brkE a4 (fun (a5 : Unit) =>
 some true)
 (some))
noncomputable def laws_eqStore (x0 : Store) (x1 : Store) : Option (Bool) :=
 (laws_eqFactS x0.Facts x1.Facts).bind fun a0 =>
 cond (!a0)
 (some false)
 (some true)
noncomputable def laws_eqPoint (x0 : Point) (x1 : Point) : Option (Bool) :=
 cond (x0.Month != x1.Month)
 (some false)
 (cond (x0.Known != x1.Known)
 (some false)
 (cond (x0.Value != x1.Value)
 (some false)
 (some true)))
noncomputable def laws_eqPointS (x0 : List Point) (x1 : List Point) : Option (Bool) :=
 cond ((x0.length : Int) != (x1.length : Int))
 (some false)
 ((loopW (ρ := (Unit) ⊕ (Bool)) (fun (a0 : Int) =>
 cond (decide (a0 < (x0.length : Int)))
 ((idx x0 a0).bind fun a1 =>
 (idx x1 a0).bind fun a2 =>
 (laws_eqPoint a1 a2).bind fun a3 =>
 cond (!a3)
 (some (.done (.inr false)))
 (some (.cont (w64 (a0 + 1)))))
 (some (.done (.inl ()))))
 0).bind fun a4 => brkE a4 (fun (a5 : Unit) =>
 some true)
 (some))
noncomputable def laws_eqSeries (x0 : Series) (x1 : Series) : Option (Bool) :=
 (laws_eqPointS x0.Points x1.Points).bind fun a0 =>
 cond (!a0)
 (some false)
 (some true)
noncomputable def laws_eqSpell (x0 : Spell) (x1 : Spell) : Option (Bool) :=
 cond (x0.From != x1.From)
 (some false)
 (cond (x0.To != x1.To)
 (some false)
 (cond (x0.Percent != x1.Percent)
 (some false)
 (cond (!(x0.Leave == x1.Leave))
 (some false)
 (some true))))
noncomputable def laws_eqSpellS (x0 : List Spell) (x1 : List Spell) : Option (Bool) :=
 cond ((x0.length : Int) != (x1.length : Int))
 (some false)
 ((loopW (ρ := (Unit) ⊕ (Bool)) (fun (a0 : Int) =>
 cond (decide (a0 < (x0.length : Int)))
 ((idx x0 a0).bind fun a1 =>
 (idx x1 a0).bind fun a2 =>
 (laws_eqSpell a1 a2).bind fun a3 =>
 cond (!a3)
 (some (.done (.inr false)))
 (some (.cont (w64 (a0 + 1)))))
 (some (.done (.inl ()))))
 0).bind fun a4 => brkE a4 (fun (a5 : Unit) =>
 some true)
 (some))
noncomputable def laws_eqEvent (x0 : Event) (x1 : Event) : Option (Bool) :=
 cond (x0.Kind != x1.Kind)
 (some false)
 (cond (x0.Month != x1.Month)
 (some false)
 (some true))
noncomputable def laws_eqEventS (x0 : List Event) (x1 : List Event) : Option (Bool) :=
 cond ((x0.length : Int) != (x1.length : Int))
 (some false)
 ((loopW (ρ := (Unit) ⊕ (Bool)) (fun (a0 : Int) =>
 cond (decide (a0 < (x0.length : Int)))
 ((idx x0 a0).bind fun a1 =>
 (idx x1 a0).bind fun a2 =>
 (laws_eqEvent a1 a2).bind fun a3 =>
 cond (!a3)
 (some (.done (.inr false)))
 (some (.cont (w64 (a0 + 1)))))
 (some (.done (.inl ()))))
 0).bind fun a4 => brkE a4 (fun (a5 : Unit) =>
 some true)
 (some))
noncomputable def laws_eqMember (x0 : Member) (x1 : Member) : Option (Bool) :=
 cond (x0.Birth != x1.Birth)
 (some false)
 (cond (x0.Joined != x1.Joined)
 (some false)
 ((laws_eqSpellS x0.Spells x1.Spells).bind fun a0 =>
 cond (!a0)
 (some false)
 ((laws_eqEventS x0.Events x1.Events).bind fun a1 =>
 cond (!a1)
 (some false)
 (some true))))
noncomputable def laws_eqCase (x0 : Case) (x1 : Case) : Option (Bool) :=
 (laws_eqBook x0.Book x1.Book).bind fun a0 =>
 cond (!a0)
 (some false)
 ((laws_eqStore x0.Store x1.Store).bind fun a1 =>
 cond (!a1)
 (some false)
 ((laws_eqSeries x0.Series x1.Series).bind fun a2 =>
 cond (!a2)
 (some false)
 ((laws_eqMember x0.Member x1.Member).bind fun a3 =>
 cond (!a3)
 (some false)
 (some true))))
noncomputable def laws_eqIntS (x0 : List Int) (x1 : List Int) : Option (Bool) :=
 cond ((x0.length : Int) != (x1.length : Int))
 (some false)
 ((loopW (ρ := (Unit) ⊕ (Bool)) (fun (a0 : Int) =>
 cond (decide (a0 < (x0.length : Int)))
 ((idx x0 a0).bind fun a1 =>
 (idx x1 a0).bind fun a2 =>
 cond (a1 != a2)
 (some (.done (.inr false)))
 (some (.cont (w64 (a0 + 1)))))
 (some (.done (.inl ()))))
 0).bind fun a3 => brkE a3 (fun (a4 : Unit) =>
 some true)
 (some))
noncomputable def laws_eqOffice (x0 : Office) (x1 : Office) : Option (Bool) :=
 (laws_eqCase x0.Case x1.Case).bind fun a0 =>
 cond (!a0)
 (some false)
 (cond (x0.Start != x1.Start)
 (some false)
 ((laws_eqIntS x0.Paid x1.Paid).bind fun a1 =>
 cond (!a1)
 (some false)
 (some true)))
noncomputable def laws_eqAct (x0 : Act) (x1 : Act) : Option (Bool) :=
 cond (x0.Kind != x1.Kind)
 (some false)
 ((laws_eqFact x0.Fact x1.Fact).bind fun a0 =>
 cond (!a0)
 (some false)
 ((laws_eqPoint x0.Point x1.Point).bind fun a1 =>
 cond (!a1)
 (some false)
 (cond (x0.N != x1.N)
 (some false)
 (some true))))
noncomputable def laws_eqActS (x0 : List Act) (x1 : List Act) : Option (Bool) :=
 cond ((x0.length : Int) != (x1.length : Int))
 (some false)
 ((loopW (ρ := (Unit) ⊕ (Bool)) (fun (a0 : Int) =>
 cond (decide (a0 < (x0.length : Int)))
 ((idx x0 a0).bind fun a1 =>
 (idx x1 a0).bind fun a2 =>
 (laws_eqAct a1 a2).bind fun a3 =>
 cond (!a3)
 (some (.done (.inr false)))
 (some (.cont (w64 (a0 + 1)))))
 (some (.done (.inl ()))))
 0).bind fun a4 => brkE a4 (fun (a5 : Unit) =>
 some true)
 (some))
noncomputable def laws_markNodeS (x0 : List Node) (x1 : Int) : Option (Int × (List Node)) :=
 (loopW (ρ := ((List Node) × Int) ⊕ (Int × (List Node))) (fun (a0 : Int × (List Node) × Int) =>
 cond (decide (a0.1 < (a0.2.1.length : Int)))
 ((idx a0.2.1 a0.1).bind fun a3 =>
 (some (List.set a0.2.1 (Int.toNat a0.1) (Node.mk a0.2.2 a3.A a3.B a3.C a3.Value))).bind fun a7 =>
 (idx a7 a0.1).bind fun a4 =>
 (some (List.set a7 (Int.toNat a0.1) (Node.mk a4.Kind (w64 (a0.2.2 + 1)) a4.B a4.C a4.Value))).bind fun a8 =>
 (idx a8 a0.1).bind fun a5 =>
 (some (List.set a8 (Int.toNat a0.1) (Node.mk a5.Kind a5.A (w64 ((w64 (a0.2.2 + 1)) + 1)) a5.C a5.Value))).bind fun a9 =>
 (idx a9 a0.1).bind fun a6 =>
 (some (List.set a9 (Int.toNat a0.1) (Node.mk a6.Kind a6.A a6.B (w64 ((w64 ((w64 (a0.2.2 + 1)) + 1)) + 1)) a6.Value))).bind fun aa =>
 (idx aa a0.1).bind fun a1 =>
 (some (List.set aa (Int.toNat a0.1) (Node.mk a1.Kind a1.A a1.B a1.C (Frac.mk (w64 ((w64 ((w64 ((w64 (a0.2.2 + 1)) + 1)) + 1)) + 1)) a1.Value.Den)))).bind fun ab =>
 (idx ab a0.1).bind fun a2 =>
 (some (List.set ab (Int.toNat a0.1) (Node.mk a2.Kind a2.A a2.B a2.C (Frac.mk a2.Value.Num (w64 ((w64 ((w64 ((w64 ((w64 (a0.2.2 + 1)) + 1)) + 1)) + 1)) + 1)))))).bind fun ad =>
 some (.cont (w64 (a0.1 + 1), ad, w64 ((w64 ((w64 ((w64 ((w64 ((w64 (a0.2.2 + 1)) + 1)) + 1)) + 1)) + 1)) + 1))))
 (some (.done (.inl (a0.2.1, a0.2.2)))))
 (0, x0, x1)).bind fun ae => brkE ae (fun (ac : (List Node) × Int) =>
 some (ac.2, ac.1))
 (some)
noncomputable def laws_markRuleS (x0 : List Rule) (x1 : Int) : Option (Int × (List Rule)) :=
 (loopW (ρ := ((List Rule) × Int) ⊕ (Int × (List Rule))) (fun (a0 : Int × (List Rule) × Int) =>
 cond (decide (a0.1 < (a0.2.1.length : Int)))
 ((idx a0.2.1 a0.1).bind fun a2 =>
 (some (List.set a0.2.1 (Int.toNat a0.1) (Rule.mk a0.2.2 a2.From a2.To a2.Joined a2.Rank a2.Mode a2.Nodes))).bind fun a9 =>
 (idx a9 a0.1).bind fun a3 =>
 (some (List.set a9 (Int.toNat a0.1) (Rule.mk a3.Name (w64 (a0.2.2 + 1)) a3.To a3.Joined a3.Rank a3.Mode a3.Nodes))).bind fun aa =>
 (idx aa a0.1).bind fun a4 =>
 (some (List.set aa (Int.toNat a0.1) (Rule.mk a4.Name a4.From (w64 ((w64 (a0.2.2 + 1)) + 1)) a4.Joined a4.Rank a4.Mode a4.Nodes))).bind fun ab =>
 (idx ab a0.1).bind fun a5 =>
 (some (List.set ab (Int.toNat a0.1) (Rule.mk a5.Name a5.From a5.To (w64 ((w64 ((w64 (a0.2.2 + 1)) + 1)) + 1)) a5.Rank a5.Mode a5.Nodes))).bind fun ac =>
 (idx ac a0.1).bind fun a6 =>
 (some (List.set ac (Int.toNat a0.1) (Rule.mk a6.Name a6.From a6.To a6.Joined (w64 ((w64 ((w64 ((w64 (a0.2.2 + 1)) + 1)) + 1)) + 1)) a6.Mode a6.Nodes))).bind fun ad =>
 (idx ad a0.1).bind fun a7 =>
 (some (List.set ad (Int.toNat a0.1) (Rule.mk a7.Name a7.From a7.To a7.Joined a7.Rank (w64 ((w64 ((w64 ((w64 ((w64 (a0.2.2 + 1)) + 1)) + 1)) + 1)) + 1)) a7.Nodes))).bind fun ae =>
 (idx ae a0.1).bind fun a1 =>
 (laws_markNodeS a1.Nodes (w64 ((w64 ((w64 ((w64 ((w64 ((w64 (a0.2.2 + 1)) + 1)) + 1)) + 1)) + 1)) + 1))).bind fun a8 =>
 (sameLen a8.2 a1.Nodes).bind fun _ =>
 (some (List.set ae (Int.toNat a0.1) (Rule.mk a1.Name a1.From a1.To a1.Joined a1.Rank a1.Mode a8.2))).bind fun ag =>
 some (.cont (w64 (a0.1 + 1), ag, a8.1)))
 (some (.done (.inl (a0.2.1, a0.2.2)))))
 (0, x0, x1)).bind fun ah => brkE ah (fun (af : (List Rule) × Int) =>
 some (af.2, af.1))
 (some)
noncomputable def laws_markBook (x0 : Book) (x1 : Int) : Option (Int × (List Rule)) :=
 (laws_markRuleS x0.Rules x1).bind fun a0 =>
 (sameLen a0.2 x0.Rules).bind fun _ =>
 some (a0.1, a0.2)
noncomputable def laws_markFactS (x0 : List Fact) (x1 : Int) : Option (Int × (List Fact)) :=
 (loopW (ρ := ((List Fact) × Int) ⊕ (Int × (List Fact))) (fun (a0 : Int × (List Fact) × Int) =>
 cond (decide (a0.1 < (a0.2.1.length : Int)))
 ((idx a0.2.1 a0.1).bind fun a1 =>
 (some (List.set a0.2.1 (Int.toNat a0.1) (Fact.mk a0.2.2 a1.From a1.To a1.Known a1.Value))).bind fun a6 =>
 (idx a6 a0.1).bind fun a2 =>
 (some (List.set a6 (Int.toNat a0.1) (Fact.mk a2.Key (w64 (a0.2.2 + 1)) a2.To a2.Known a2.Value))).bind fun a7 =>
 (idx a7 a0.1).bind fun a3 =>
 (some (List.set a7 (Int.toNat a0.1) (Fact.mk a3.Key a3.From (w64 ((w64 (a0.2.2 + 1)) + 1)) a3.Known a3.Value))).bind fun a8 =>
 (idx a8 a0.1).bind fun a4 =>
 (some (List.set a8 (Int.toNat a0.1) (Fact.mk a4.Key a4.From a4.To (w64 ((w64 ((w64 (a0.2.2 + 1)) + 1)) + 1)) a4.Value))).bind fun a9 =>
 (idx a9 a0.1).bind fun a5 =>
 (some (List.set a9 (Int.toNat a0.1) (Fact.mk a5.Key a5.From a5.To a5.Known (w64 ((w64 ((w64 ((w64 (a0.2.2 + 1)) + 1)) + 1)) + 1))))).bind fun ab =>
 some (.cont (w64 (a0.1 + 1), ab, w64 ((w64 ((w64 ((w64 ((w64 (a0.2.2 + 1)) + 1)) + 1)) + 1)) + 1))))
 (some (.done (.inl (a0.2.1, a0.2.2)))))
 (0, x0, x1)).bind fun ac => brkE ac (fun (aa : (List Fact) × Int) =>
 some (aa.2, aa.1))
 (some)
noncomputable def laws_markStore (x0 : Store) (x1 : Int) : Option (Int × (List Fact)) :=
 (laws_markFactS x0.Facts x1).bind fun a0 =>
 (sameLen a0.2 x0.Facts).bind fun _ =>
 some (a0.1, a0.2)
noncomputable def laws_markPointS (x0 : List Point) (x1 : Int) : Option (Int × (List Point)) :=
 (loopW (ρ := ((List Point) × Int) ⊕ (Int × (List Point))) (fun (a0 : Int × (List Point) × Int) =>
 cond (decide (a0.1 < (a0.2.1.length : Int)))
 ((idx a0.2.1 a0.1).bind fun a1 =>
 (some (List.set a0.2.1 (Int.toNat a0.1) (Point.mk a0.2.2 a1.Known a1.Value))).bind fun a2 =>
 (idx a2 a0.1).bind fun a3 =>
 (some (List.set a2 (Int.toNat a0.1) (Point.mk a3.Month (w64 (a0.2.2 + 1)) a3.Value))).bind fun a4 =>
 (idx a4 a0.1).bind fun a5 =>
 (some (List.set a4 (Int.toNat a0.1) (Point.mk a5.Month a5.Known (w64 ((w64 (a0.2.2 + 1)) + 1))))).bind fun a7 =>
 some (.cont (w64 (a0.1 + 1), a7, w64 ((w64 ((w64 (a0.2.2 + 1)) + 1)) + 1))))
 (some (.done (.inl (a0.2.1, a0.2.2)))))
 (0, x0, x1)).bind fun a8 => brkE a8 (fun (a6 : (List Point) × Int) =>
 some (a6.2, a6.1))
 (some)
noncomputable def laws_markSeries (x0 : Series) (x1 : Int) : Option (Int × (List Point)) :=
 (laws_markPointS x0.Points x1).bind fun a0 =>
 (sameLen a0.2 x0.Points).bind fun _ =>
 some (a0.1, a0.2)
noncomputable def laws_markSpellS (x0 : List Spell) (x1 : Int) : Option (Int × (List Spell)) :=
 (loopW (ρ := ((List Spell) × Int) ⊕ (Int × (List Spell))) (fun (a0 : Int × (List Spell) × Int) =>
 cond (decide (a0.1 < (a0.2.1.length : Int)))
 ((idx a0.2.1 a0.1).bind fun a1 =>
 (some (List.set a0.2.1 (Int.toNat a0.1) (Spell.mk a0.2.2 a1.To a1.Percent a1.Leave))).bind fun a5 =>
 (idx a5 a0.1).bind fun a2 =>
 (some (List.set a5 (Int.toNat a0.1) (Spell.mk a2.From (w64 (a0.2.2 + 1)) a2.Percent a2.Leave))).bind fun a6 =>
 (idx a6 a0.1).bind fun a3 =>
 (some (List.set a6 (Int.toNat a0.1) (Spell.mk a3.From a3.To (w64 ((w64 (a0.2.2 + 1)) + 1)) a3.Leave))).bind fun a7 =>
 (idx a7 a0.1).bind fun a4 =>
 (some (List.set a7 (Int.toNat a0.1) (Spell.mk a4.From a4.To a4.Percent ((Int.tmod (w64 ((w64 ((w64 (a0.2.2 + 1)) + 1)) + 1)) 3) == 0)))).bind fun a9 =>
 some (.cont (w64 (a0.1 + 1), a9, w64 ((w64 ((w64 ((w64 (a0.2.2 + 1)) + 1)) + 1)) + 1))))
 (some (.done (.inl (a0.2.1, a0.2.2)))))
 (0, x0, x1)).bind fun aa => brkE aa (fun (a8 : (List Spell) × Int) =>
 some (a8.2, a8.1))
 (some)
noncomputable def laws_markEventS (x0 : List Event) (x1 : Int) : Option (Int × (List Event)) :=
 (loopW (ρ := ((List Event) × Int) ⊕ (Int × (List Event))) (fun (a0 : Int × (List Event) × Int) =>
 cond (decide (a0.1 < (a0.2.1.length : Int)))
 ((idx a0.2.1 a0.1).bind fun a3 =>
 (some (List.set a0.2.1 (Int.toNat a0.1) (Event.mk a0.2.2 a3.Month))).bind fun a1 =>
 (idx a1 a0.1).bind fun a4 =>
 (some (List.set a1 (Int.toNat a0.1) (Event.mk a4.Kind (w64 (a0.2.2 + 1))))).bind fun a5 =>
 some (.cont (w64 (a0.1 + 1), a5, w64 ((w64 (a0.2.2 + 1)) + 1))))
 (some (.done (.inl (a0.2.1, a0.2.2)))))
 (0, x0, x1)).bind fun a6 => brkE a6 (fun (a2 : (List Event) × Int) =>
 some (a2.2, a2.1))
 (some)
noncomputable def laws_markMember (x0 : Member) (x1 : Int) : Option (Int × (List Spell) × (List Event)) :=
 (laws_markSpellS x0.Spells x1).bind fun a0 =>
 (sameLen a0.2 x0.Spells).bind fun _ =>
 (laws_markEventS x0.Events a0.1).bind fun a1 =>
 (sameLen a1.2 x0.Events).bind fun _ =>
 some (a1.1, a0.2, a1.2)
noncomputable def laws_markCase (x0 : Case) (x1 : Int) : Option (Int × (List Rule) × (List Fact) × (List Point) × (List Spell) × (List Event)) :=
 (laws_markBook x0.Book x1).bind fun a1 =>
 (sameLen a1.2 x0.Book.Rules).bind fun _ =>
 (laws_markStore x0.Store a1.1).bind fun a2 =>
 (sameLen a2.2 x0.Store.Facts).bind fun _ =>
 (laws_markSeries x0.Series a2.1).bind fun a3 =>
 (sameLen a3.2 x0.Series.Points).bind fun _ =>
 (laws_markMember x0.Member a3.1).bind fun a0 =>
 (sameLen a0.2.1 x0.Member.Spells).bind fun _ =>
 (sameLen a0.2.2 x0.Member.Events).bind fun _ =>
 some (a0.1, a1.2, a2.2, a3.2, a0.2.1, a0.2.2)
noncomputable def laws_markActS (x0 : List Act) (x1 : Int) : Option (Int × (List Act)) :=
 (loopW (ρ := ((List Act) × Int) ⊕ (Int × (List Act))) (fun (a0 : Int × (List Act) × Int) =>
 cond (decide (a0.1 < (a0.2.1.length : Int)))
 ((idx a0.2.1 a0.1).bind fun a9 =>
 (some (List.set a0.2.1 (Int.toNat a0.1) (Act.mk a0.2.2 a9.Fact a9.Point a9.N))).bind fun ab =>
 (idx ab a0.1).bind fun a1 =>
 (some (List.set ab (Int.toNat a0.1) (Act.mk a1.Kind (Fact.mk (w64 (a0.2.2 + 1)) a1.Fact.From a1.Fact.To a1.Fact.Known a1.Fact.Value) a1.Point a1.N))).bind fun ac =>
 (idx ac a0.1).bind fun a2 =>
 (some (List.set ac (Int.toNat a0.1) (Act.mk a2.Kind (Fact.mk a2.Fact.Key (w64 ((w64 (a0.2.2 + 1)) + 1)) a2.Fact.To a2.Fact.Known a2.Fact.Value) a2.Point a2.N))).bind fun ad =>
 (idx ad a0.1).bind fun a3 =>
 (some (List.set ad (Int.toNat a0.1) (Act.mk a3.Kind (Fact.mk a3.Fact.Key a3.Fact.From (w64 ((w64 ((w64 (a0.2.2 + 1)) + 1)) + 1)) a3.Fact.Known a3.Fact.Value) a3.Point a3.N))).bind fun ae =>
 (idx ae a0.1).bind fun a4 =>
 (some (List.set ae (Int.toNat a0.1) (Act.mk a4.Kind (Fact.mk a4.Fact.Key a4.Fact.From a4.Fact.To (w64 ((w64 ((w64 ((w64 (a0.2.2 + 1)) + 1)) + 1)) + 1)) a4.Fact.Value) a4.Point a4.N))).bind fun af =>
 (idx af a0.1).bind fun a5 =>
 (some (List.set af (Int.toNat a0.1) (Act.mk a5.Kind (Fact.mk a5.Fact.Key a5.Fact.From a5.Fact.To a5.Fact.Known (w64 ((w64 ((w64 ((w64 ((w64 (a0.2.2 + 1)) + 1)) + 1)) + 1)) + 1))) a5.Point a5.N))).bind fun ag =>
 (idx ag a0.1).bind fun a6 =>
 (some (List.set ag (Int.toNat a0.1) (Act.mk a6.Kind a6.Fact (Point.mk (w64 ((w64 ((w64 ((w64 ((w64 ((w64 (a0.2.2 + 1)) + 1)) + 1)) + 1)) + 1)) + 1)) a6.Point.Known a6.Point.Value) a6.N))).bind fun ah =>
 (idx ah a0.1).bind fun a7 =>
 (some (List.set ah (Int.toNat a0.1) (Act.mk a7.Kind a7.Fact (Point.mk a7.Point.Month (w64 ((w64 ((w64 ((w64 ((w64 ((w64 ((w64 (a0.2.2 + 1)) + 1)) + 1)) + 1)) + 1)) + 1)) + 1)) a7.Point.Value) a7.N))).bind fun ai =>
 (idx ai a0.1).bind fun a8 =>
 (some (List.set ai (Int.toNat a0.1) (Act.mk a8.Kind a8.Fact (Point.mk a8.Point.Month a8.Point.Known (w64 ((w64 ((w64 ((w64 ((w64 ((w64 ((w64 ((w64 (a0.2.2 + 1)) + 1)) + 1)) + 1)) + 1)) + 1)) + 1)) + 1))) a8.N))).bind fun aj =>
 (idx aj a0.1).bind fun aa =>
 (some (List.set aj (Int.toNat a0.1) (Act.mk aa.Kind aa.Fact aa.Point (w64 ((w64 ((w64 ((w64 ((w64 ((w64 ((w64 ((w64 ((w64 (a0.2.2 + 1)) + 1)) + 1)) + 1)) + 1)) + 1)) + 1)) + 1)) + 1))))).bind fun al =>
 some (.cont (w64 (a0.1 + 1), al, w64 ((w64 ((w64 ((w64 ((w64 ((w64 ((w64 ((w64 ((w64 ((w64 (a0.2.2 + 1)) + 1)) + 1)) + 1)) + 1)) + 1)) + 1)) + 1)) + 1)) + 1))))
 (some (.done (.inl (a0.2.1, a0.2.2)))))
 (0, x0, x1)).bind fun am => brkE am (fun (ak : (List Act) × Int) =>
 some (ak.2, ak.1))
 (some)
noncomputable def laws_markIntS (x0 : List Int) (x1 : Int) : Option (Int × (List Int)) :=
 (loopW (ρ := ((List Int) × Int) ⊕ (Int × (List Int))) (fun (a0 : Int × (List Int) × Int) =>
 cond (decide (a0.1 < (a0.2.1.length : Int)))
 ((idx a0.2.1 a0.1).bind fun a4 =>
 (some (List.set a0.2.1 (Int.toNat a0.1) a0.2.2)).bind fun a2 =>
 some (.cont (w64 (a0.1 + 1), a2, w64 (a0.2.2 + 1))))
 (some (.done (.inl (a0.2.1, a0.2.2)))))
 (0, x0, x1)).bind fun a3 => brkE a3 (fun (a1 : (List Int) × Int) =>
 some (a1.2, a1.1))
 (some)
noncomputable def laws_markOffice (x0 : Office) (x1 : Int) : Option (Int × (List Rule) × (List Fact) × (List Point) × (List Spell) × (List Event) × (List Int)) :=
 (laws_markCase x0.Case x1).bind fun a0 =>
 (sameLen a0.2.1 x0.Case.Book.Rules).bind fun _ =>
 (sameLen a0.2.2.1 x0.Case.Store.Facts).bind fun _ =>
 (sameLen a0.2.2.2.1 x0.Case.Series.Points).bind fun _ =>
 (sameLen a0.2.2.2.2.1 x0.Case.Member.Spells).bind fun _ =>
 (sameLen a0.2.2.2.2.2 x0.Case.Member.Events).bind fun _ =>
 (laws_markIntS x0.Paid a0.1).bind fun a1 =>
 (sameLen a1.2 x0.Paid).bind fun _ =>
 some (a1.1, a0.2.1, a0.2.2.1, a0.2.2.2.1, a0.2.2.2.2.1, a0.2.2.2.2.2, a1.2)
noncomputable def laws_heldNodeS (x0 : List Node) (x1 : Int) : Option (Int) :=
 (loopW (ρ := (Int) ⊕ (Int)) (fun (a0 : Int × Int) =>
 cond (decide (a0.1 < (x0.length : Int)))
 ((idx x0 a0.1).bind fun a1 =>
 cond (a1.Kind != a0.2)
 (some (.done (.inr (-1))))
 ((idx x0 a0.1).bind fun a2 =>
 cond (a2.A != (w64 (a0.2 + 1)))
 (some (.done (.inr (-1))))
 ((idx x0 a0.1).bind fun a3 =>
 cond (a3.B != (w64 ((w64 (a0.2 + 1)) + 1)))
 (some (.done (.inr (-1))))
 ((idx x0 a0.1).bind fun a4 =>
 cond (a4.C != (w64 ((w64 ((w64 (a0.2 + 1)) + 1)) + 1)))
 (some (.done (.inr (-1))))
 ((idx x0 a0.1).bind fun a5 =>
 cond (a5.Value.Num != (w64 ((w64 ((w64 ((w64 (a0.2 + 1)) + 1)) + 1)) + 1)))
 (some (.done (.inr (-1))))
 ((idx x0 a0.1).bind fun a6 =>
 cond (a6.Value.Den != (w64 ((w64 ((w64 ((w64 ((w64 (a0.2 + 1)) + 1)) + 1)) + 1)) + 1)))
 (some (.done (.inr (-1))))
 (some (.cont (w64 (a0.1 + 1), w64 ((w64 ((w64 ((w64 ((w64 ((w64 (a0.2 + 1)) + 1)) + 1)) + 1)) + 1)) + 1))))))))))
 (some (.done (.inl a0.2))))
 (0, x1)).bind fun a7 => brkE a7 (fun (a8 : Int) =>
 some a8)
 (some)
noncomputable def laws_heldRuleS (x0 : List Rule) (x1 : Int) : Option (Int) :=
 (loopW (ρ := (Int) ⊕ (Int)) (fun (a0 : Int × Int) =>
 cond (decide (a0.1 < (x0.length : Int)))
 ((idx x0 a0.1).bind fun a2 =>
 cond (a2.Name != a0.2)
 (some (.done (.inr (-1))))
 ((idx x0 a0.1).bind fun a3 =>
 cond (a3.From != (w64 (a0.2 + 1)))
 (some (.done (.inr (-1))))
 ((idx x0 a0.1).bind fun a4 =>
 cond (a4.To != (w64 ((w64 (a0.2 + 1)) + 1)))
 (some (.done (.inr (-1))))
 ((idx x0 a0.1).bind fun a5 =>
 cond (a5.Joined != (w64 ((w64 ((w64 (a0.2 + 1)) + 1)) + 1)))
 (some (.done (.inr (-1))))
 ((idx x0 a0.1).bind fun a6 =>
 cond (a6.Rank != (w64 ((w64 ((w64 ((w64 (a0.2 + 1)) + 1)) + 1)) + 1)))
 (some (.done (.inr (-1))))
 ((idx x0 a0.1).bind fun a7 =>
 cond (a7.Mode != (w64 ((w64 ((w64 ((w64 ((w64 (a0.2 + 1)) + 1)) + 1)) + 1)) + 1)))
 (some (.done (.inr (-1))))
 ((idx x0 a0.1).bind fun a8 =>
 (laws_heldNodeS a8.Nodes (w64 ((w64 ((w64 ((w64 ((w64 ((w64 (a0.2 + 1)) + 1)) + 1)) + 1)) + 1)) + 1))).bind fun a1 =>
 cond (decide (a1 < 0))
 (some (.done (.inr (-1))))
 (some (.cont (w64 (a0.1 + 1), a1))))))))))
 (some (.done (.inl a0.2))))
 (0, x1)).bind fun a9 => brkE a9 (fun (aa : Int) =>
 some aa)
 (some)
noncomputable def laws_heldBook (x0 : Book) (x1 : Int) : Option (Int) :=
 (laws_heldRuleS x0.Rules x1).bind fun a0 =>
 cond (decide (a0 < 0))
 (some (-1))
 (some a0)
noncomputable def laws_heldFactS (x0 : List Fact) (x1 : Int) : Option (Int) :=
 (loopW (ρ := (Int) ⊕ (Int)) (fun (a0 : Int × Int) =>
 cond (decide (a0.1 < (x0.length : Int)))
 ((idx x0 a0.1).bind fun a1 =>
 cond (a1.Key != a0.2)
 (some (.done (.inr (-1))))
 ((idx x0 a0.1).bind fun a2 =>
 cond (a2.From != (w64 (a0.2 + 1)))
 (some (.done (.inr (-1))))
 ((idx x0 a0.1).bind fun a3 =>
 cond (a3.To != (w64 ((w64 (a0.2 + 1)) + 1)))
 (some (.done (.inr (-1))))
 ((idx x0 a0.1).bind fun a4 =>
 cond (a4.Known != (w64 ((w64 ((w64 (a0.2 + 1)) + 1)) + 1)))
 (some (.done (.inr (-1))))
 ((idx x0 a0.1).bind fun a5 =>
 cond (a5.Value != (w64 ((w64 ((w64 ((w64 (a0.2 + 1)) + 1)) + 1)) + 1)))
 (some (.done (.inr (-1))))
 (some (.cont (w64 (a0.1 + 1), w64 ((w64 ((w64 ((w64 ((w64 (a0.2 + 1)) + 1)) + 1)) + 1)) + 1)))))))))
 (some (.done (.inl a0.2))))
 (0, x1)).bind fun a6 => brkE a6 (fun (a7 : Int) =>
 some a7)
 (some)
noncomputable def laws_heldStore (x0 : Store) (x1 : Int) : Option (Int) :=
 (laws_heldFactS x0.Facts x1).bind fun a0 =>
 cond (decide (a0 < 0))
 (some (-1))
 (some a0)
noncomputable def laws_heldPointS (x0 : List Point) (x1 : Int) : Option (Int) :=
 (loopW (ρ := (Int) ⊕ (Int)) (fun (a0 : Int × Int) =>
 cond (decide (a0.1 < (x0.length : Int)))
 ((idx x0 a0.1).bind fun a1 =>
 cond (a1.Month != a0.2)
 (some (.done (.inr (-1))))
 ((idx x0 a0.1).bind fun a2 =>
 cond (a2.Known != (w64 (a0.2 + 1)))
 (some (.done (.inr (-1))))
 ((idx x0 a0.1).bind fun a3 =>
 cond (a3.Value != (w64 ((w64 (a0.2 + 1)) + 1)))
 (some (.done (.inr (-1))))
 (some (.cont (w64 (a0.1 + 1), w64 ((w64 ((w64 (a0.2 + 1)) + 1)) + 1)))))))
 (some (.done (.inl a0.2))))
 (0, x1)).bind fun a4 => brkE a4 (fun (a5 : Int) =>
 some a5)
 (some)
noncomputable def laws_heldSeries (x0 : Series) (x1 : Int) : Option (Int) :=
 (laws_heldPointS x0.Points x1).bind fun a0 =>
 cond (decide (a0 < 0))
 (some (-1))
 (some a0)
noncomputable def laws_heldSpellS (x0 : List Spell) (x1 : Int) : Option (Int) :=
 (loopW (ρ := (Int) ⊕ (Int)) (fun (a0 : Int × Int) =>
 cond (decide (a0.1 < (x0.length : Int)))
 ((idx x0 a0.1).bind fun a1 =>
 cond (a1.From != a0.2)
 (some (.done (.inr (-1))))
 ((idx x0 a0.1).bind fun a2 =>
 cond (a2.To != (w64 (a0.2 + 1)))
 (some (.done (.inr (-1))))
 ((idx x0 a0.1).bind fun a3 =>
 cond (a3.Percent != (w64 ((w64 (a0.2 + 1)) + 1)))
 (some (.done (.inr (-1))))
 ((idx x0 a0.1).bind fun a4 =>
 cond (!(a4.Leave == ((Int.tmod (w64 ((w64 ((w64 (a0.2 + 1)) + 1)) + 1)) 3) == 0)))
 (some (.done (.inr (-1))))
 (some (.cont (w64 (a0.1 + 1), w64 ((w64 ((w64 ((w64 (a0.2 + 1)) + 1)) + 1)) + 1))))))))
 (some (.done (.inl a0.2))))
 (0, x1)).bind fun a5 => brkE a5 (fun (a6 : Int) =>
 some a6)
 (some)
noncomputable def laws_heldEventS (x0 : List Event) (x1 : Int) : Option (Int) :=
 (loopW (ρ := (Int) ⊕ (Int)) (fun (a0 : Int × Int) =>
 cond (decide (a0.1 < (x0.length : Int)))
 ((idx x0 a0.1).bind fun a1 =>
 cond (a1.Kind != a0.2)
 (some (.done (.inr (-1))))
 ((idx x0 a0.1).bind fun a2 =>
 cond (a2.Month != (w64 (a0.2 + 1)))
 (some (.done (.inr (-1))))
 (some (.cont (w64 (a0.1 + 1), w64 ((w64 (a0.2 + 1)) + 1))))))
 (some (.done (.inl a0.2))))
 (0, x1)).bind fun a3 => brkE a3 (fun (a4 : Int) =>
 some a4)
 (some)
noncomputable def laws_heldMember (x0 : Member) (x1 : Int) : Option (Int) :=
 (laws_heldSpellS x0.Spells x1).bind fun a0 =>
 cond (decide (a0 < 0))
 (some (-1))
 ((laws_heldEventS x0.Events a0).bind fun a1 =>
 cond (decide (a1 < 0))
 (some (-1))
 (some a1))
noncomputable def laws_heldCase (x0 : Case) (x1 : Int) : Option (Int) :=
 (laws_heldBook x0.Book x1).bind fun a0 =>
 cond (decide (a0 < 0))
 (some (-1))
 ((laws_heldStore x0.Store a0).bind fun a1 =>
 cond (decide (a1 < 0))
 (some (-1))
 ((laws_heldSeries x0.Series a1).bind fun a2 =>
 cond (decide (a2 < 0))
 (some (-1))
 ((laws_heldMember x0.Member a2).bind fun a3 =>
 cond (decide (a3 < 0))
 (some (-1))
 (some a3))))
noncomputable def laws_heldIntS (x0 : List Int) (x1 : Int) : Option (Int) :=
 (loopW (ρ := (Int) ⊕ (Int)) (fun (a0 : Int × Int) =>
 cond (decide (a0.1 < (x0.length : Int)))
 ((idx x0 a0.1).bind fun a1 =>
 cond (a1 != a0.2)
 (some (.done (.inr (-1))))
 (some (.cont (w64 (a0.1 + 1), w64 (a0.2 + 1)))))
 (some (.done (.inl a0.2))))
 (0, x1)).bind fun a2 => brkE a2 (fun (a3 : Int) =>
 some a3)
 (some)
noncomputable def laws_heldOffice (x0 : Office) (x1 : Int) : Option (Int) :=
 (laws_heldCase x0.Case x1).bind fun a0 =>
 cond (decide (a0 < 0))
 (some (-1))
 ((laws_heldIntS x0.Paid a0).bind fun a1 =>
 cond (decide (a1 < 0))
 (some (-1))
 (some a1))
noncomputable def laws_FnExactRunActs (x0 : Case) (x1 : Int) (x2 : List Act) : Option (Bool) :=
 (laws_szCase x0 1048576).bind fun a7 =>
 cond (decide (a7 < 0))
 (some true)
 ((laws_szActS x2 a7).bind fun ae =>
 cond (decide (ae < 0))
 (some true)
 ((laws_toCase x0).bind fun af =>
 (laws_toActS x2).bind fun ag =>
 (spec_RunActs af x1 ag).bind fun a3 =>
 (laws_toCase x0).bind fun a2 =>
 (laws_toActS x2).bind fun a6 =>
 (impl_RunActs a2 x1 a6).bind fun a0 =>
 Option.bind (α := Bool)
 ((laws_eqOffice a0.1 a3.1).bind fun ah =>
 cond (!ah)
 (some true)
 ((laws_eqIntS a0.2 a3.2).bind fun ai =>
 some (!ai)))
 fun aj =>
 cond aj
 (some false)
 ((laws_toCase x0).bind fun ak =>
 (laws_eqCase a2 ak).bind fun al =>
 cond (!al)
 (some false)
 ((laws_toActS x2).bind fun am =>
 (laws_eqActS a6 am).bind fun an =>
 cond (!an)
 (some false)
 ((laws_markCase a2 1).bind fun a4 =>
 (sameLen a4.2.1 a2.Book.Rules).bind fun _ =>
 (sameLen a4.2.2.1 a2.Store.Facts).bind fun _ =>
 (sameLen a4.2.2.2.1 a2.Series.Points).bind fun _ =>
 (sameLen a4.2.2.2.2.1 a2.Member.Spells).bind fun _ =>
 (sameLen a4.2.2.2.2.2 a2.Member.Events).bind fun _ =>
 (laws_markActS a6 a4.1).bind fun a8 =>
 (sameLen a8.2 a6).bind fun _ =>
 Option.bind (α := Bool)
 (cond (decide (a8.1 < 0))
 (some true)
 ((laws_eqOffice a0.1 a3.1).bind fun ao =>
 cond (!ao)
 (some true)
 ((laws_eqIntS a0.2 a3.2).bind fun ap =>
 some (!ap))))
 fun aq =>
 cond aq
 (some false)
 ((laws_markOffice a0.1 1).bind fun a1 =>
 (sameLen a1.2.1 a0.1.Case.Book.Rules).bind fun _ =>
 (sameLen a1.2.2.1 a0.1.Case.Store.Facts).bind fun _ =>
 (sameLen a1.2.2.2.1 a0.1.Case.Series.Points).bind fun _ =>
 (sameLen a1.2.2.2.2.1 a0.1.Case.Member.Spells).bind fun _ =>
 (sameLen a1.2.2.2.2.2.1 a0.1.Case.Member.Events).bind fun _ =>
 (sameLen a1.2.2.2.2.2.2 a0.1.Paid).bind fun _ =>
 (laws_markIntS a0.2 a1.1).bind fun a5 =>
 (sameLen a5.2 a0.2).bind fun _ =>
 (laws_heldOffice (Office.mk (Case.mk (Book.mk a1.2.1) (Store.mk a1.2.2.1) (Series.mk a1.2.2.2.1) (Member.mk a0.1.Case.Member.Birth a0.1.Case.Member.Joined a1.2.2.2.2.1 a1.2.2.2.2.2.1)) a0.1.Start a1.2.2.2.2.2.2) 1).bind fun a9 =>
 cond (decide (a9 < 0))
 (some false)
 ((laws_heldIntS a5.2 a9).bind fun aa =>
 cond (decide (aa < 0))
 (some false)
 (cond (aa != a5.1)
 (some false)
 ((laws_toCase x0).bind fun ar =>
 (laws_toActS x2).bind fun au =>
 (impl_RunActs ar x1 au).bind fun ab =>
 Option.bind (α := Bool)
 ((laws_eqOffice ab.1 a3.1).bind fun av =>
 cond (!av)
 (some true)
 ((laws_eqIntS ab.2 a3.2).bind fun aw =>
 some (!aw)))
 fun ax =>
 cond ax
 (some false)
 ((laws_heldOffice (Office.mk (Case.mk (Book.mk a1.2.1) (Store.mk a1.2.2.1) (Series.mk a1.2.2.2.1) (Member.mk a0.1.Case.Member.Birth a0.1.Case.Member.Joined a1.2.2.2.2.1 a1.2.2.2.2.2.1)) a0.1.Start a1.2.2.2.2.2.2) 1).bind fun ac =>
 cond (decide (ac < 0))
 (some false)
 ((laws_heldIntS a5.2 ac).bind fun ad =>
 cond (decide (ad < 0))
 (some false)
 (cond (ad != a5.1)
 (some false)
 (some true)))))))))))))
end Go.Pen
