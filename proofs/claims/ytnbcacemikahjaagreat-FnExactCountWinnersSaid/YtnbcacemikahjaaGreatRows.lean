/-
  No cell of these rows narrows 'for every input' (looked for: loops, veiled, ifaces, maps, wideKeys, modest, calm, conditions, laid).
  DERIVED. THE GIVEN ROWS OF THIS SEAT. 11 by the template 'for every input the law returns true; each argument reads behind the call as it read before'; 0 by the template 'total and deterministic' (their statements: YtnbcacemikahjaaGreatTotals.lean).
  GIVEN WITH THE SEED: the statements are not yours to turn. If you find one false, say at which input.
  Laid BY PROGRAM, IN A SANDBOX (cutbox-rows.mjs): the forced cells as the released guide's own fill.sh prints them over the translation 5b2d96f86852fb7c… (all of the seat's roots in one cut). By AI agents, Wed Nov 11 2026. No macro, syntax, notation, axiom, sorry.
-/
import Derived.Test.YtnbcacemikahjaaGreatChecked
import GoSem.Claim
import GoSem.ClaimJoined
import GoSem.ClaimMapViews
import Derived.JoinedTies
import Derived.KernelRfl
namespace Go.Proofs.YtnbcacemikahjaaGreat
/- THE CELL 'sum', in the pinned program and in every row, IS THE sha256 OF THE DUMP (.gsa) THAT YtnbcacemikahjaaGreatProg.lean LOADS. Nothing in Lean hashes anything: it is a label: what it is worth is what the hold of that sum in a sandbox is worth. -/
noncomputable def Tryz.pinned : Pinned := { name := "ytnbcacemikahjaagreat", sum := "5b2d96f86852fb7c15c6eb84e39564a943428252669b22b4ab8a63f68445c3af", checked := Tryz.checked }
namespace Rows
def none {H : Type} : Left H := { results := [], args := [] }

/-- 'laws.FnExactRuleInputs': WHATEVER THE INPUT: true; the input reads as it did. -/
def fnExactRuleInputsSpec : ChangeSpec := { name := "fnExactRuleInputs", fn := fun _ => fun
  | [d1, d2] => { results := [.lit (.bool true)], args := [d1, d2] }
  | _ => none }
def fnExactRuleInputsRow : OpenClaim := { program := "ytnbcacemikahjaagreat", sum := "5b2d96f86852fb7c15c6eb84e39564a943428252669b22b4ab8a63f68445c3af", func := "loop.example/g00980/laws.FnExactRuleInputs", spec := "fnExactRuleInputs", apart := false }
def FnExactRuleInputsSaid : Prop := fnExactRuleInputsRow.holds Tryz.pinned (OpenSpec.ofChange fnExactRuleInputsSpec)

/-- ITS FALSE NEIGHBOUR: 'it returns false'. Refute it at one input. -/
def fnExactRuleInputsWrong : ChangeSpec := { name := "fnExactRuleInputs", fn := fun _ => fun
  | [d1, d2] => { results := [.lit (.bool false)], args := [d1, d2] }
  | _ => none }
def FnExactRuleInputsWrongFalsely : Prop := fnExactRuleInputsRow.holds Tryz.pinned (OpenSpec.ofChange fnExactRuleInputsWrong)

/-- 'laws.FnExactWithRule': WHATEVER THE INPUT: true; the input reads as it did. -/
def fnExactWithRuleSpec : ChangeSpec := { name := "fnExactWithRule", fn := fun _ => fun
  | [d1, d2] => { results := [.lit (.bool true)], args := [d1, d2] }
  | _ => none }
def fnExactWithRuleRow : OpenClaim := { program := "ytnbcacemikahjaagreat", sum := "5b2d96f86852fb7c15c6eb84e39564a943428252669b22b4ab8a63f68445c3af", func := "loop.example/g00980/laws.FnExactWithRule", spec := "fnExactWithRule", apart := false }
def FnExactWithRuleSaid : Prop := fnExactWithRuleRow.holds Tryz.pinned (OpenSpec.ofChange fnExactWithRuleSpec)

/-- ITS FALSE NEIGHBOUR: 'it returns false'. Refute it at one input. -/
def fnExactWithRuleWrong : ChangeSpec := { name := "fnExactWithRule", fn := fun _ => fun
  | [d1, d2] => { results := [.lit (.bool false)], args := [d1, d2] }
  | _ => none }
def FnExactWithRuleWrongFalsely : Prop := fnExactWithRuleRow.holds Tryz.pinned (OpenSpec.ofChange fnExactWithRuleWrong)

/-- 'laws.FnExactInputsChanged': WHATEVER THE INPUT: true; the input reads as it did. -/
def fnExactInputsChangedSpec : ChangeSpec := { name := "fnExactInputsChanged", fn := fun _ => fun
  | [d1, d2, d3, d4] => { results := [.lit (.bool true)], args := [d1, d2, d3, d4] }
  | _ => none }
def fnExactInputsChangedRow : OpenClaim := { program := "ytnbcacemikahjaagreat", sum := "5b2d96f86852fb7c15c6eb84e39564a943428252669b22b4ab8a63f68445c3af", func := "loop.example/g00980/laws.FnExactInputsChanged", spec := "fnExactInputsChanged", unfollowed := true, recurses := true, apart := false }
def FnExactInputsChangedSaid : Prop := fnExactInputsChangedRow.holds Tryz.pinned (OpenSpec.ofChange fnExactInputsChangedSpec)

/-- ITS FALSE NEIGHBOUR: 'it returns false'. Refute it at one input. -/
def fnExactInputsChangedWrong : ChangeSpec := { name := "fnExactInputsChanged", fn := fun _ => fun
  | [d1, d2, d3, d4] => { results := [.lit (.bool false)], args := [d1, d2, d3, d4] }
  | _ => none }
def FnExactInputsChangedWrongFalsely : Prop := fnExactInputsChangedRow.holds Tryz.pinned (OpenSpec.ofChange fnExactInputsChangedWrong)

/-- 'laws.FnExactNeededChanged': WHATEVER THE INPUT: true; the input reads as it did. -/
def fnExactNeededChangedSpec : ChangeSpec := { name := "fnExactNeededChanged", fn := fun _ => fun
  | [d1, d2, d3, d4] => { results := [.lit (.bool true)], args := [d1, d2, d3, d4] }
  | _ => none }
def fnExactNeededChangedRow : OpenClaim := { program := "ytnbcacemikahjaagreat", sum := "5b2d96f86852fb7c15c6eb84e39564a943428252669b22b4ab8a63f68445c3af", func := "loop.example/g00980/laws.FnExactNeededChanged", spec := "fnExactNeededChanged", unfollowed := true, recurses := true, apart := false }
def FnExactNeededChangedSaid : Prop := fnExactNeededChangedRow.holds Tryz.pinned (OpenSpec.ofChange fnExactNeededChangedSpec)

/-- ITS FALSE NEIGHBOUR: 'it returns false'. Refute it at one input. -/
def fnExactNeededChangedWrong : ChangeSpec := { name := "fnExactNeededChanged", fn := fun _ => fun
  | [d1, d2, d3, d4] => { results := [.lit (.bool false)], args := [d1, d2, d3, d4] }
  | _ => none }
def FnExactNeededChangedWrongFalsely : Prop := fnExactNeededChangedRow.holds Tryz.pinned (OpenSpec.ofChange fnExactNeededChangedWrong)

/-- 'laws.FnExactStatementFor': WHATEVER THE INPUT: true; the input reads as it did. -/
def fnExactStatementForSpec : ChangeSpec := { name := "fnExactStatementFor", fn := fun _ => fun
  | [d1, d2, d3] => { results := [.lit (.bool true)], args := [d1, d2, d3] }
  | _ => none }
def fnExactStatementForRow : OpenClaim := { program := "ytnbcacemikahjaagreat", sum := "5b2d96f86852fb7c15c6eb84e39564a943428252669b22b4ab8a63f68445c3af", func := "loop.example/g00980/laws.FnExactStatementFor", spec := "fnExactStatementFor", unfollowed := true, recurses := true, apart := false }
def FnExactStatementForSaid : Prop := fnExactStatementForRow.holds Tryz.pinned (OpenSpec.ofChange fnExactStatementForSpec)

/-- ITS FALSE NEIGHBOUR: 'it returns false'. Refute it at one input. -/
def fnExactStatementForWrong : ChangeSpec := { name := "fnExactStatementFor", fn := fun _ => fun
  | [d1, d2, d3] => { results := [.lit (.bool false)], args := [d1, d2, d3] }
  | _ => none }
def FnExactStatementForWrongFalsely : Prop := fnExactStatementForRow.holds Tryz.pinned (OpenSpec.ofChange fnExactStatementForWrong)

/-- 'laws.FnExactAuditStatement': WHATEVER THE INPUT: true; the input reads as it did. -/
def fnExactAuditStatementSpec : ChangeSpec := { name := "fnExactAuditStatement", fn := fun _ => fun
  | [d1, d2] => { results := [.lit (.bool true)], args := [d1, d2] }
  | _ => none }
def fnExactAuditStatementRow : OpenClaim := { program := "ytnbcacemikahjaagreat", sum := "5b2d96f86852fb7c15c6eb84e39564a943428252669b22b4ab8a63f68445c3af", func := "loop.example/g00980/laws.FnExactAuditStatement", spec := "fnExactAuditStatement", unfollowed := true, recurses := true, apart := false }
def FnExactAuditStatementSaid : Prop := fnExactAuditStatementRow.holds Tryz.pinned (OpenSpec.ofChange fnExactAuditStatementSpec)

/-- ITS FALSE NEIGHBOUR: 'it returns false'. Refute it at one input. -/
def fnExactAuditStatementWrong : ChangeSpec := { name := "fnExactAuditStatement", fn := fun _ => fun
  | [d1, d2] => { results := [.lit (.bool false)], args := [d1, d2] }
  | _ => none }
def FnExactAuditStatementWrongFalsely : Prop := fnExactAuditStatementRow.holds Tryz.pinned (OpenSpec.ofChange fnExactAuditStatementWrong)

/-- 'laws.FnExactWrongStatements': WHATEVER THE INPUT: true; the input reads as it did. -/
def fnExactWrongStatementsSpec : ChangeSpec := { name := "fnExactWrongStatements", fn := fun _ => fun
  | [d1, d2] => { results := [.lit (.bool true)], args := [d1, d2] }
  | _ => none }
def fnExactWrongStatementsRow : OpenClaim := { program := "ytnbcacemikahjaagreat", sum := "5b2d96f86852fb7c15c6eb84e39564a943428252669b22b4ab8a63f68445c3af", func := "loop.example/g00980/laws.FnExactWrongStatements", spec := "fnExactWrongStatements", unfollowed := true, recurses := true, apart := false }
def FnExactWrongStatementsSaid : Prop := fnExactWrongStatementsRow.holds Tryz.pinned (OpenSpec.ofChange fnExactWrongStatementsSpec)

/-- ITS FALSE NEIGHBOUR: 'it returns false'. Refute it at one input. -/
def fnExactWrongStatementsWrong : ChangeSpec := { name := "fnExactWrongStatements", fn := fun _ => fun
  | [d1, d2] => { results := [.lit (.bool false)], args := [d1, d2] }
  | _ => none }
def FnExactWrongStatementsWrongFalsely : Prop := fnExactWrongStatementsRow.holds Tryz.pinned (OpenSpec.ofChange fnExactWrongStatementsWrong)

/-- 'laws.FnExactAffectedMonths': WHATEVER THE INPUT: true; the input reads as it did. -/
def fnExactAffectedMonthsSpec : ChangeSpec := { name := "fnExactAffectedMonths", fn := fun _ => fun
  | [d1, d2, d3, d4, d5] => { results := [.lit (.bool true)], args := [d1, d2, d3, d4, d5] }
  | _ => none }
def fnExactAffectedMonthsRow : OpenClaim := { program := "ytnbcacemikahjaagreat", sum := "5b2d96f86852fb7c15c6eb84e39564a943428252669b22b4ab8a63f68445c3af", func := "loop.example/g00980/laws.FnExactAffectedMonths", spec := "fnExactAffectedMonths", unfollowed := true, recurses := true, apart := false }
def FnExactAffectedMonthsSaid : Prop := fnExactAffectedMonthsRow.holds Tryz.pinned (OpenSpec.ofChange fnExactAffectedMonthsSpec)

/-- ITS FALSE NEIGHBOUR: 'it returns false'. Refute it at one input. -/
def fnExactAffectedMonthsWrong : ChangeSpec := { name := "fnExactAffectedMonths", fn := fun _ => fun
  | [d1, d2, d3, d4, d5] => { results := [.lit (.bool false)], args := [d1, d2, d3, d4, d5] }
  | _ => none }
def FnExactAffectedMonthsWrongFalsely : Prop := fnExactAffectedMonthsRow.holds Tryz.pinned (OpenSpec.ofChange fnExactAffectedMonthsWrong)

/-- 'laws.FnExactCostOf': WHATEVER THE INPUT: true; the input reads as it did. -/
def fnExactCostOfSpec : ChangeSpec := { name := "fnExactCostOf", fn := fun _ => fun
  | [d1, d2, d3, d4, d5] => { results := [.lit (.bool true)], args := [d1, d2, d3, d4, d5] }
  | _ => none }
def fnExactCostOfRow : OpenClaim := { program := "ytnbcacemikahjaagreat", sum := "5b2d96f86852fb7c15c6eb84e39564a943428252669b22b4ab8a63f68445c3af", func := "loop.example/g00980/laws.FnExactCostOf", spec := "fnExactCostOf", unfollowed := true, recurses := true, apart := false }
def FnExactCostOfSaid : Prop := fnExactCostOfRow.holds Tryz.pinned (OpenSpec.ofChange fnExactCostOfSpec)

/-- ITS FALSE NEIGHBOUR: 'it returns false'. Refute it at one input. -/
def fnExactCostOfWrong : ChangeSpec := { name := "fnExactCostOf", fn := fun _ => fun
  | [d1, d2, d3, d4, d5] => { results := [.lit (.bool false)], args := [d1, d2, d3, d4, d5] }
  | _ => none }
def FnExactCostOfWrongFalsely : Prop := fnExactCostOfRow.holds Tryz.pinned (OpenSpec.ofChange fnExactCostOfWrong)

/-- 'laws.FnExactCountWinners': WHATEVER THE INPUT: true; the input reads as it did. -/
def fnExactCountWinnersSpec : ChangeSpec := { name := "fnExactCountWinners", fn := fun _ => fun
  | [d1, d2, d3, d4, d5] => { results := [.lit (.bool true)], args := [d1, d2, d3, d4, d5] }
  | _ => none }
def fnExactCountWinnersRow : OpenClaim := { program := "ytnbcacemikahjaagreat", sum := "5b2d96f86852fb7c15c6eb84e39564a943428252669b22b4ab8a63f68445c3af", func := "loop.example/g00980/laws.FnExactCountWinners", spec := "fnExactCountWinners", unfollowed := true, recurses := true, apart := false }
def FnExactCountWinnersSaid : Prop := fnExactCountWinnersRow.holds Tryz.pinned (OpenSpec.ofChange fnExactCountWinnersSpec)

/-- ITS FALSE NEIGHBOUR: 'it returns false'. Refute it at one input. -/
def fnExactCountWinnersWrong : ChangeSpec := { name := "fnExactCountWinners", fn := fun _ => fun
  | [d1, d2, d3, d4, d5] => { results := [.lit (.bool false)], args := [d1, d2, d3, d4, d5] }
  | _ => none }
def FnExactCountWinnersWrongFalsely : Prop := fnExactCountWinnersRow.holds Tryz.pinned (OpenSpec.ofChange fnExactCountWinnersWrong)

/-- 'laws.FnExactImpactOf': WHATEVER THE INPUT: true; the input reads as it did. -/
def fnExactImpactOfSpec : ChangeSpec := { name := "fnExactImpactOf", fn := fun _ => fun
  | [d1, d2, d3, d4, d5] => { results := [.lit (.bool true)], args := [d1, d2, d3, d4, d5] }
  | _ => none }
def fnExactImpactOfRow : OpenClaim := { program := "ytnbcacemikahjaagreat", sum := "5b2d96f86852fb7c15c6eb84e39564a943428252669b22b4ab8a63f68445c3af", func := "loop.example/g00980/laws.FnExactImpactOf", spec := "fnExactImpactOf", unfollowed := true, recurses := true, apart := false }
def FnExactImpactOfSaid : Prop := fnExactImpactOfRow.holds Tryz.pinned (OpenSpec.ofChange fnExactImpactOfSpec)

/-- ITS FALSE NEIGHBOUR: 'it returns false'. Refute it at one input. -/
def fnExactImpactOfWrong : ChangeSpec := { name := "fnExactImpactOf", fn := fun _ => fun
  | [d1, d2, d3, d4, d5] => { results := [.lit (.bool false)], args := [d1, d2, d3, d4, d5] }
  | _ => none }
def FnExactImpactOfWrongFalsely : Prop := fnExactImpactOfRow.holds Tryz.pinned (OpenSpec.ofChange fnExactImpactOfWrong)

/- THE SECOND FORM. 'bulk': how many values and letters a reading holds, each counted each time it is reached (what is shared counts as often as it is met; a slice's spare places count too). A statement '..UptoSaid' is the law's where the arguments, and the package variables that the reading takes, are together of bulk at most 1048576: NARROWER than '..Said'. Prove '..Said' where nothing that the law and all that it calls make is longer than what came in: it says more and counts as full. Else prove '..UptoSaid'. A law counts once. -/
mutual
def uptoBulk {H : Type} : DataW H → Nat
  | .lit (.string bytes) => bytes.length + 1
  | .lit _ => 1
  | .nil => 1
  | .ptr d => uptoBulk d + 1
  | .slice elems spare => uptoBulkAll elems + uptoBulkAll spare + 1
  | .agg parts => uptoBulkAll parts + 1
  | .iface _ d => uptoBulk d + 1
  | .map entries => uptoBulkEntries entries + 1
  | .held _ => 1
def uptoBulkAll {H : Type} : List (DataW H) → Nat
  | [] => 0
  | d :: r => uptoBulk d + uptoBulkAll r
def uptoBulkEntries {H : Type} : List (Lit × DataW H) → Nat
  | [] => 0
  | x :: r => uptoBulkEntry x + uptoBulkEntries r
def uptoBulkEntry {H : Type} : Lit × DataW H → Nat
  | (.string bytes, d) => bytes.length + uptoBulk d + 1
  | (_, d) => uptoBulk d + 1
 end
def uptoSmall : (H : Type) → List (DataW H) → Bool := fun _ ds => decide (uptoBulkAll ds ≤ 1048576)
def OpenSpec.upto (s : _root_.Go.ChangeSpec) : _root_.Go.OpenSpec := { _root_.Go.OpenSpec.ofChange s with cond := some uptoSmall }

/-- 'laws.FnExactRuleInputs', WHERE WHAT IT READS IS OF BULK AT MOST 1048576: true; the input reads as it did. -/
def fnExactRuleInputsUptoRow : OpenClaim := { program := "ytnbcacemikahjaagreat", sum := "5b2d96f86852fb7c15c6eb84e39564a943428252669b22b4ab8a63f68445c3af", func := "loop.example/g00980/laws.FnExactRuleInputs", spec := "fnExactRuleInputs", apart := false, narrowed := true }
def FnExactRuleInputsUptoSaid : Prop := fnExactRuleInputsUptoRow.holds Tryz.pinned (OpenSpec.upto fnExactRuleInputsSpec)

/-- 'laws.FnExactWithRule', WHERE WHAT IT READS IS OF BULK AT MOST 1048576: true; the input reads as it did. -/
def fnExactWithRuleUptoRow : OpenClaim := { program := "ytnbcacemikahjaagreat", sum := "5b2d96f86852fb7c15c6eb84e39564a943428252669b22b4ab8a63f68445c3af", func := "loop.example/g00980/laws.FnExactWithRule", spec := "fnExactWithRule", apart := false, narrowed := true }
def FnExactWithRuleUptoSaid : Prop := fnExactWithRuleUptoRow.holds Tryz.pinned (OpenSpec.upto fnExactWithRuleSpec)

/-- 'laws.FnExactInputsChanged', WHERE WHAT IT READS IS OF BULK AT MOST 1048576: true; the input reads as it did. -/
def fnExactInputsChangedUptoRow : OpenClaim := { program := "ytnbcacemikahjaagreat", sum := "5b2d96f86852fb7c15c6eb84e39564a943428252669b22b4ab8a63f68445c3af", func := "loop.example/g00980/laws.FnExactInputsChanged", spec := "fnExactInputsChanged", unfollowed := true, recurses := true, apart := false, narrowed := true }
def FnExactInputsChangedUptoSaid : Prop := fnExactInputsChangedUptoRow.holds Tryz.pinned (OpenSpec.upto fnExactInputsChangedSpec)

/-- 'laws.FnExactNeededChanged', WHERE WHAT IT READS IS OF BULK AT MOST 1048576: true; the input reads as it did. -/
def fnExactNeededChangedUptoRow : OpenClaim := { program := "ytnbcacemikahjaagreat", sum := "5b2d96f86852fb7c15c6eb84e39564a943428252669b22b4ab8a63f68445c3af", func := "loop.example/g00980/laws.FnExactNeededChanged", spec := "fnExactNeededChanged", unfollowed := true, recurses := true, apart := false, narrowed := true }
def FnExactNeededChangedUptoSaid : Prop := fnExactNeededChangedUptoRow.holds Tryz.pinned (OpenSpec.upto fnExactNeededChangedSpec)

/-- 'laws.FnExactStatementFor', WHERE WHAT IT READS IS OF BULK AT MOST 1048576: true; the input reads as it did. -/
def fnExactStatementForUptoRow : OpenClaim := { program := "ytnbcacemikahjaagreat", sum := "5b2d96f86852fb7c15c6eb84e39564a943428252669b22b4ab8a63f68445c3af", func := "loop.example/g00980/laws.FnExactStatementFor", spec := "fnExactStatementFor", unfollowed := true, recurses := true, apart := false, narrowed := true }
def FnExactStatementForUptoSaid : Prop := fnExactStatementForUptoRow.holds Tryz.pinned (OpenSpec.upto fnExactStatementForSpec)

/-- 'laws.FnExactAuditStatement', WHERE WHAT IT READS IS OF BULK AT MOST 1048576: true; the input reads as it did. -/
def fnExactAuditStatementUptoRow : OpenClaim := { program := "ytnbcacemikahjaagreat", sum := "5b2d96f86852fb7c15c6eb84e39564a943428252669b22b4ab8a63f68445c3af", func := "loop.example/g00980/laws.FnExactAuditStatement", spec := "fnExactAuditStatement", unfollowed := true, recurses := true, apart := false, narrowed := true }
def FnExactAuditStatementUptoSaid : Prop := fnExactAuditStatementUptoRow.holds Tryz.pinned (OpenSpec.upto fnExactAuditStatementSpec)

/-- 'laws.FnExactWrongStatements', WHERE WHAT IT READS IS OF BULK AT MOST 1048576: true; the input reads as it did. -/
def fnExactWrongStatementsUptoRow : OpenClaim := { program := "ytnbcacemikahjaagreat", sum := "5b2d96f86852fb7c15c6eb84e39564a943428252669b22b4ab8a63f68445c3af", func := "loop.example/g00980/laws.FnExactWrongStatements", spec := "fnExactWrongStatements", unfollowed := true, recurses := true, apart := false, narrowed := true }
def FnExactWrongStatementsUptoSaid : Prop := fnExactWrongStatementsUptoRow.holds Tryz.pinned (OpenSpec.upto fnExactWrongStatementsSpec)

/-- 'laws.FnExactAffectedMonths', WHERE WHAT IT READS IS OF BULK AT MOST 1048576: true; the input reads as it did. -/
def fnExactAffectedMonthsUptoRow : OpenClaim := { program := "ytnbcacemikahjaagreat", sum := "5b2d96f86852fb7c15c6eb84e39564a943428252669b22b4ab8a63f68445c3af", func := "loop.example/g00980/laws.FnExactAffectedMonths", spec := "fnExactAffectedMonths", unfollowed := true, recurses := true, apart := false, narrowed := true }
def FnExactAffectedMonthsUptoSaid : Prop := fnExactAffectedMonthsUptoRow.holds Tryz.pinned (OpenSpec.upto fnExactAffectedMonthsSpec)

/-- 'laws.FnExactCostOf', WHERE WHAT IT READS IS OF BULK AT MOST 1048576: true; the input reads as it did. -/
def fnExactCostOfUptoRow : OpenClaim := { program := "ytnbcacemikahjaagreat", sum := "5b2d96f86852fb7c15c6eb84e39564a943428252669b22b4ab8a63f68445c3af", func := "loop.example/g00980/laws.FnExactCostOf", spec := "fnExactCostOf", unfollowed := true, recurses := true, apart := false, narrowed := true }
def FnExactCostOfUptoSaid : Prop := fnExactCostOfUptoRow.holds Tryz.pinned (OpenSpec.upto fnExactCostOfSpec)

/-- 'laws.FnExactCountWinners', WHERE WHAT IT READS IS OF BULK AT MOST 1048576: true; the input reads as it did. -/
def fnExactCountWinnersUptoRow : OpenClaim := { program := "ytnbcacemikahjaagreat", sum := "5b2d96f86852fb7c15c6eb84e39564a943428252669b22b4ab8a63f68445c3af", func := "loop.example/g00980/laws.FnExactCountWinners", spec := "fnExactCountWinners", unfollowed := true, recurses := true, apart := false, narrowed := true }
def FnExactCountWinnersUptoSaid : Prop := fnExactCountWinnersUptoRow.holds Tryz.pinned (OpenSpec.upto fnExactCountWinnersSpec)

/-- 'laws.FnExactImpactOf', WHERE WHAT IT READS IS OF BULK AT MOST 1048576: true; the input reads as it did. -/
def fnExactImpactOfUptoRow : OpenClaim := { program := "ytnbcacemikahjaagreat", sum := "5b2d96f86852fb7c15c6eb84e39564a943428252669b22b4ab8a63f68445c3af", func := "loop.example/g00980/laws.FnExactImpactOf", spec := "fnExactImpactOf", unfollowed := true, recurses := true, apart := false, narrowed := true }
def FnExactImpactOfUptoSaid : Prop := fnExactImpactOfUptoRow.holds Tryz.pinned (OpenSpec.upto fnExactImpactOfSpec)

end Rows
end Go.Proofs.YtnbcacemikahjaaGreat
