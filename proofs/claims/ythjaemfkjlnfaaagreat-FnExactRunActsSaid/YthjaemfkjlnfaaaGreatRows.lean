/-
  No cell of these rows narrows 'for every input' (looked for: loops, veiled, ifaces, maps, wideKeys, modest, calm, conditions, laid).
  DERIVED. THE GIVEN ROWS OF THIS SEAT. 10 by the template 'for every input the law returns true; each argument reads behind the call as it read before'; 0 by the template 'total and deterministic' (their statements: YthjaemfkjlnfaaaGreatTotals.lean).
  GIVEN WITH THE SEED: the statements are not yours to turn. If you find one false, say at which input.
  Laid BY PROGRAM, IN A SANDBOX (cutbox-rows.mjs): the forced cells as the released guide's own fill.sh prints them over the translation 10b7cab63a676f8a… (all of the seat's roots in one cut). By AI agents, Wed Nov 11 2026. No macro, syntax, notation, axiom, sorry.
-/
import Derived.Test.YthjaemfkjlnfaaaGreatChecked
import GoSem.Claim
import GoSem.ClaimJoined
import GoSem.ClaimMapViews
import Derived.JoinedTies
import Derived.KernelRfl
namespace Go.Proofs.YthjaemfkjlnfaaaGreat
/- THE CELL 'sum', in the pinned program and in every row, IS THE sha256 OF THE DUMP (.gsa) THAT YthjaemfkjlnfaaaGreatProg.lean LOADS. Nothing in Lean hashes anything: it is a label: what it is worth is what the hold of that sum in a sandbox is worth. -/
noncomputable def Tryz.pinned : Pinned := { name := "ythjaemfkjlnfaaagreat", sum := "10b7cab63a676f8abdc7d599046210583befcaab15f994dbb4a8a26c60025aa0", checked := Tryz.checked }
namespace Rows
def none {H : Type} : Left H := { results := [], args := [] }

/-- 'laws.FnExactRunActs': WHATEVER THE INPUT: true; the input reads as it did. -/
def fnExactRunActsSpec : ChangeSpec := { name := "fnExactRunActs", fn := fun _ => fun
  | [d1, d2, d3] => { results := [.lit (.bool true)], args := [d1, d2, d3] }
  | _ => none }
def fnExactRunActsRow : OpenClaim := { program := "ythjaemfkjlnfaaagreat", sum := "10b7cab63a676f8abdc7d599046210583befcaab15f994dbb4a8a26c60025aa0", func := "loop.example/g00980/laws.FnExactRunActs", spec := "fnExactRunActs", unfollowed := true, recurses := true, apart := false }
def FnExactRunActsSaid : Prop := fnExactRunActsRow.holds Tryz.pinned (OpenSpec.ofChange fnExactRunActsSpec)

/-- ITS FALSE NEIGHBOUR: 'it returns false'. Refute it at one input. -/
def fnExactRunActsWrong : ChangeSpec := { name := "fnExactRunActs", fn := fun _ => fun
  | [d1, d2, d3] => { results := [.lit (.bool false)], args := [d1, d2, d3] }
  | _ => none }
def FnExactRunActsWrongFalsely : Prop := fnExactRunActsRow.holds Tryz.pinned (OpenSpec.ofChange fnExactRunActsWrong)

/-- 'laws.FnExactDoAct': WHATEVER THE INPUT: true; the input reads as it did. -/
def fnExactDoActSpec : ChangeSpec := { name := "fnExactDoAct", fn := fun _ => fun
  | [d1, d2] => { results := [.lit (.bool true)], args := [d1, d2] }
  | _ => none }
def fnExactDoActRow : OpenClaim := { program := "ythjaemfkjlnfaaagreat", sum := "10b7cab63a676f8abdc7d599046210583befcaab15f994dbb4a8a26c60025aa0", func := "loop.example/g00980/laws.FnExactDoAct", spec := "fnExactDoAct", unfollowed := true, recurses := true, apart := false }
def FnExactDoActSaid : Prop := fnExactDoActRow.holds Tryz.pinned (OpenSpec.ofChange fnExactDoActSpec)

/-- ITS FALSE NEIGHBOUR: 'it returns false'. Refute it at one input. -/
def fnExactDoActWrong : ChangeSpec := { name := "fnExactDoAct", fn := fun _ => fun
  | [d1, d2] => { results := [.lit (.bool false)], args := [d1, d2] }
  | _ => none }
def FnExactDoActWrongFalsely : Prop := fnExactDoActRow.holds Tryz.pinned (OpenSpec.ofChange fnExactDoActWrong)

/-- 'laws.FnExactPayMonth': WHATEVER THE INPUT: true; the input reads as it did. -/
def fnExactPayMonthSpec : ChangeSpec := { name := "fnExactPayMonth", fn := fun _ => fun
  | [d] => { results := [.lit (.bool true)], args := [d] }
  | _ => none }
def fnExactPayMonthRow : OpenClaim := { program := "ythjaemfkjlnfaaagreat", sum := "10b7cab63a676f8abdc7d599046210583befcaab15f994dbb4a8a26c60025aa0", func := "loop.example/g00980/laws.FnExactPayMonth", spec := "fnExactPayMonth", unfollowed := true, recurses := true, apart := false }
def FnExactPayMonthSaid : Prop := fnExactPayMonthRow.holds Tryz.pinned (OpenSpec.ofChange fnExactPayMonthSpec)

/-- ITS FALSE NEIGHBOUR: 'it returns false'. Refute it at one input. -/
def fnExactPayMonthWrong : ChangeSpec := { name := "fnExactPayMonth", fn := fun _ => fun
  | [d] => { results := [.lit (.bool false)], args := [d] }
  | _ => none }
def FnExactPayMonthWrongFalsely : Prop := fnExactPayMonthRow.holds Tryz.pinned (OpenSpec.ofChange fnExactPayMonthWrong)

/-- 'laws.FnExactLearnFact': WHATEVER THE INPUT: true; the input reads as it did. -/
def fnExactLearnFactSpec : ChangeSpec := { name := "fnExactLearnFact", fn := fun _ => fun
  | [d1, d2] => { results := [.lit (.bool true)], args := [d1, d2] }
  | _ => none }
def fnExactLearnFactRow : OpenClaim := { program := "ythjaemfkjlnfaaagreat", sum := "10b7cab63a676f8abdc7d599046210583befcaab15f994dbb4a8a26c60025aa0", func := "loop.example/g00980/laws.FnExactLearnFact", spec := "fnExactLearnFact", unfollowed := true, recurses := true, apart := false }
def FnExactLearnFactSaid : Prop := fnExactLearnFactRow.holds Tryz.pinned (OpenSpec.ofChange fnExactLearnFactSpec)

/-- ITS FALSE NEIGHBOUR: 'it returns false'. Refute it at one input. -/
def fnExactLearnFactWrong : ChangeSpec := { name := "fnExactLearnFact", fn := fun _ => fun
  | [d1, d2] => { results := [.lit (.bool false)], args := [d1, d2] }
  | _ => none }
def FnExactLearnFactWrongFalsely : Prop := fnExactLearnFactRow.holds Tryz.pinned (OpenSpec.ofChange fnExactLearnFactWrong)

/-- 'laws.FnExactLearnPoint': WHATEVER THE INPUT: true; the input reads as it did. -/
def fnExactLearnPointSpec : ChangeSpec := { name := "fnExactLearnPoint", fn := fun _ => fun
  | [d1, d2] => { results := [.lit (.bool true)], args := [d1, d2] }
  | _ => none }
def fnExactLearnPointRow : OpenClaim := { program := "ythjaemfkjlnfaaagreat", sum := "10b7cab63a676f8abdc7d599046210583befcaab15f994dbb4a8a26c60025aa0", func := "loop.example/g00980/laws.FnExactLearnPoint", spec := "fnExactLearnPoint", unfollowed := true, recurses := true, apart := false }
def FnExactLearnPointSaid : Prop := fnExactLearnPointRow.holds Tryz.pinned (OpenSpec.ofChange fnExactLearnPointSpec)

/-- ITS FALSE NEIGHBOUR: 'it returns false'. Refute it at one input. -/
def fnExactLearnPointWrong : ChangeSpec := { name := "fnExactLearnPoint", fn := fun _ => fun
  | [d1, d2] => { results := [.lit (.bool false)], args := [d1, d2] }
  | _ => none }
def FnExactLearnPointWrongFalsely : Prop := fnExactLearnPointRow.holds Tryz.pinned (OpenSpec.ofChange fnExactLearnPointWrong)

/-- 'laws.FnExactOfficeNew': WHATEVER THE INPUT: true; the input reads as it did. -/
def fnExactOfficeNewSpec : ChangeSpec := { name := "fnExactOfficeNew", fn := fun _ => fun
  | [d1, d2] => { results := [.lit (.bool true)], args := [d1, d2] }
  | _ => none }
def fnExactOfficeNewRow : OpenClaim := { program := "ythjaemfkjlnfaaagreat", sum := "10b7cab63a676f8abdc7d599046210583befcaab15f994dbb4a8a26c60025aa0", func := "loop.example/g00980/laws.FnExactOfficeNew", spec := "fnExactOfficeNew", unfollowed := true, recurses := true, apart := false }
def FnExactOfficeNewSaid : Prop := fnExactOfficeNewRow.holds Tryz.pinned (OpenSpec.ofChange fnExactOfficeNewSpec)

/-- ITS FALSE NEIGHBOUR: 'it returns false'. Refute it at one input. -/
def fnExactOfficeNewWrong : ChangeSpec := { name := "fnExactOfficeNew", fn := fun _ => fun
  | [d1, d2] => { results := [.lit (.bool false)], args := [d1, d2] }
  | _ => none }
def FnExactOfficeNewWrongFalsely : Prop := fnExactOfficeNewRow.holds Tryz.pinned (OpenSpec.ofChange fnExactOfficeNewWrong)

/-- 'laws.FnExactPaidSum': WHATEVER THE INPUT: true; the input reads as it did. -/
def fnExactPaidSumSpec : ChangeSpec := { name := "fnExactPaidSum", fn := fun _ => fun
  | [d] => { results := [.lit (.bool true)], args := [d] }
  | _ => none }
def fnExactPaidSumRow : OpenClaim := { program := "ythjaemfkjlnfaaagreat", sum := "10b7cab63a676f8abdc7d599046210583befcaab15f994dbb4a8a26c60025aa0", func := "loop.example/g00980/laws.FnExactPaidSum", spec := "fnExactPaidSum", unfollowed := true, recurses := true, apart := false }
def FnExactPaidSumSaid : Prop := fnExactPaidSumRow.holds Tryz.pinned (OpenSpec.ofChange fnExactPaidSumSpec)

/-- ITS FALSE NEIGHBOUR: 'it returns false'. Refute it at one input. -/
def fnExactPaidSumWrong : ChangeSpec := { name := "fnExactPaidSum", fn := fun _ => fun
  | [d] => { results := [.lit (.bool false)], args := [d] }
  | _ => none }
def FnExactPaidSumWrongFalsely : Prop := fnExactPaidSumRow.holds Tryz.pinned (OpenSpec.ofChange fnExactPaidSumWrong)

/-- 'laws.FnExactYearTotals': WHATEVER THE INPUT: true; the input reads as it did. -/
def fnExactYearTotalsSpec : ChangeSpec := { name := "fnExactYearTotals", fn := fun _ => fun
  | [d] => { results := [.lit (.bool true)], args := [d] }
  | _ => none }
def fnExactYearTotalsRow : OpenClaim := { program := "ythjaemfkjlnfaaagreat", sum := "10b7cab63a676f8abdc7d599046210583befcaab15f994dbb4a8a26c60025aa0", func := "loop.example/g00980/laws.FnExactYearTotals", spec := "fnExactYearTotals", unfollowed := true, recurses := true, apart := false }
def FnExactYearTotalsSaid : Prop := fnExactYearTotalsRow.holds Tryz.pinned (OpenSpec.ofChange fnExactYearTotalsSpec)

/-- ITS FALSE NEIGHBOUR: 'it returns false'. Refute it at one input. -/
def fnExactYearTotalsWrong : ChangeSpec := { name := "fnExactYearTotals", fn := fun _ => fun
  | [d] => { results := [.lit (.bool false)], args := [d] }
  | _ => none }
def FnExactYearTotalsWrongFalsely : Prop := fnExactYearTotalsRow.holds Tryz.pinned (OpenSpec.ofChange fnExactYearTotalsWrong)

/-- 'laws.FnExactDueNow': WHATEVER THE INPUT: true; the input reads as it did. -/
def fnExactDueNowSpec : ChangeSpec := { name := "fnExactDueNow", fn := fun _ => fun
  | [d] => { results := [.lit (.bool true)], args := [d] }
  | _ => none }
def fnExactDueNowRow : OpenClaim := { program := "ythjaemfkjlnfaaagreat", sum := "10b7cab63a676f8abdc7d599046210583befcaab15f994dbb4a8a26c60025aa0", func := "loop.example/g00980/laws.FnExactDueNow", spec := "fnExactDueNow", unfollowed := true, recurses := true, apart := false }
def FnExactDueNowSaid : Prop := fnExactDueNowRow.holds Tryz.pinned (OpenSpec.ofChange fnExactDueNowSpec)

/-- ITS FALSE NEIGHBOUR: 'it returns false'. Refute it at one input. -/
def fnExactDueNowWrong : ChangeSpec := { name := "fnExactDueNow", fn := fun _ => fun
  | [d] => { results := [.lit (.bool false)], args := [d] }
  | _ => none }
def FnExactDueNowWrongFalsely : Prop := fnExactDueNowRow.holds Tryz.pinned (OpenSpec.ofChange fnExactDueNowWrong)

/-- 'laws.FnExactStatementsOf': WHATEVER THE INPUT: true; the input reads as it did. -/
def fnExactStatementsOfSpec : ChangeSpec := { name := "fnExactStatementsOf", fn := fun _ => fun
  | [d] => { results := [.lit (.bool true)], args := [d] }
  | _ => none }
def fnExactStatementsOfRow : OpenClaim := { program := "ythjaemfkjlnfaaagreat", sum := "10b7cab63a676f8abdc7d599046210583befcaab15f994dbb4a8a26c60025aa0", func := "loop.example/g00980/laws.FnExactStatementsOf", spec := "fnExactStatementsOf", unfollowed := true, recurses := true, apart := false }
def FnExactStatementsOfSaid : Prop := fnExactStatementsOfRow.holds Tryz.pinned (OpenSpec.ofChange fnExactStatementsOfSpec)

/-- ITS FALSE NEIGHBOUR: 'it returns false'. Refute it at one input. -/
def fnExactStatementsOfWrong : ChangeSpec := { name := "fnExactStatementsOf", fn := fun _ => fun
  | [d] => { results := [.lit (.bool false)], args := [d] }
  | _ => none }
def FnExactStatementsOfWrongFalsely : Prop := fnExactStatementsOfRow.holds Tryz.pinned (OpenSpec.ofChange fnExactStatementsOfWrong)

/- THE SECOND FORM. 'bulk': how many values and letters a reading holds, each counted each time it is reached (what is shared counts as often as it is met; a slice's spare places count too). A statement '..UptoSaid' is the law's where the arguments, and the package variables that the reading takes, are together of bulk at most 1048576: NARROWER than '..Said'. Prove '..Said' where nothing that the law and all that it calls make is longer than what came in: it says more and counts as full. Else prove '..UptoSaid'. A law counts once. -/
mutual
def uptoBulk {H : Type} : DataW H → Nat
  | .lit (.string bytes) => bytes.length + 1
  | .lit _ => 1
  | .nil => 1
  | .ptr d => uptoBulk d + 1
  | .slice elems spare => uptoBulkAll elems + uptoBulkAll spare + 1
  | .agg parts => uptoBulkAll parts + 1
  | .iface _ d => uptoBulk d + 1
  | .map entries => uptoBulkEntries entries + 1
  | .held _ => 1
def uptoBulkAll {H : Type} : List (DataW H) → Nat
  | [] => 0
  | d :: r => uptoBulk d + uptoBulkAll r
def uptoBulkEntries {H : Type} : List (Lit × DataW H) → Nat
  | [] => 0
  | x :: r => uptoBulkEntry x + uptoBulkEntries r
def uptoBulkEntry {H : Type} : Lit × DataW H → Nat
  | (.string bytes, d) => bytes.length + uptoBulk d + 1
  | (_, d) => uptoBulk d + 1
 end
def uptoSmall : (H : Type) → List (DataW H) → Bool := fun _ ds => decide (uptoBulkAll ds ≤ 1048576)
def OpenSpec.upto (s : _root_.Go.ChangeSpec) : _root_.Go.OpenSpec := { _root_.Go.OpenSpec.ofChange s with cond := some uptoSmall }

/-- 'laws.FnExactRunActs', WHERE WHAT IT READS IS OF BULK AT MOST 1048576: true; the input reads as it did. -/
def fnExactRunActsUptoRow : OpenClaim := { program := "ythjaemfkjlnfaaagreat", sum := "10b7cab63a676f8abdc7d599046210583befcaab15f994dbb4a8a26c60025aa0", func := "loop.example/g00980/laws.FnExactRunActs", spec := "fnExactRunActs", unfollowed := true, recurses := true, apart := false, narrowed := true }
def FnExactRunActsUptoSaid : Prop := fnExactRunActsUptoRow.holds Tryz.pinned (OpenSpec.upto fnExactRunActsSpec)

/-- 'laws.FnExactDoAct', WHERE WHAT IT READS IS OF BULK AT MOST 1048576: true; the input reads as it did. -/
def fnExactDoActUptoRow : OpenClaim := { program := "ythjaemfkjlnfaaagreat", sum := "10b7cab63a676f8abdc7d599046210583befcaab15f994dbb4a8a26c60025aa0", func := "loop.example/g00980/laws.FnExactDoAct", spec := "fnExactDoAct", unfollowed := true, recurses := true, apart := false, narrowed := true }
def FnExactDoActUptoSaid : Prop := fnExactDoActUptoRow.holds Tryz.pinned (OpenSpec.upto fnExactDoActSpec)

/-- 'laws.FnExactPayMonth', WHERE WHAT IT READS IS OF BULK AT MOST 1048576: true; the input reads as it did. -/
def fnExactPayMonthUptoRow : OpenClaim := { program := "ythjaemfkjlnfaaagreat", sum := "10b7cab63a676f8abdc7d599046210583befcaab15f994dbb4a8a26c60025aa0", func := "loop.example/g00980/laws.FnExactPayMonth", spec := "fnExactPayMonth", unfollowed := true, recurses := true, apart := false, narrowed := true }
def FnExactPayMonthUptoSaid : Prop := fnExactPayMonthUptoRow.holds Tryz.pinned (OpenSpec.upto fnExactPayMonthSpec)

/-- 'laws.FnExactLearnFact', WHERE WHAT IT READS IS OF BULK AT MOST 1048576: true; the input reads as it did. -/
def fnExactLearnFactUptoRow : OpenClaim := { program := "ythjaemfkjlnfaaagreat", sum := "10b7cab63a676f8abdc7d599046210583befcaab15f994dbb4a8a26c60025aa0", func := "loop.example/g00980/laws.FnExactLearnFact", spec := "fnExactLearnFact", unfollowed := true, recurses := true, apart := false, narrowed := true }
def FnExactLearnFactUptoSaid : Prop := fnExactLearnFactUptoRow.holds Tryz.pinned (OpenSpec.upto fnExactLearnFactSpec)

/-- 'laws.FnExactLearnPoint', WHERE WHAT IT READS IS OF BULK AT MOST 1048576: true; the input reads as it did. -/
def fnExactLearnPointUptoRow : OpenClaim := { program := "ythjaemfkjlnfaaagreat", sum := "10b7cab63a676f8abdc7d599046210583befcaab15f994dbb4a8a26c60025aa0", func := "loop.example/g00980/laws.FnExactLearnPoint", spec := "fnExactLearnPoint", unfollowed := true, recurses := true, apart := false, narrowed := true }
def FnExactLearnPointUptoSaid : Prop := fnExactLearnPointUptoRow.holds Tryz.pinned (OpenSpec.upto fnExactLearnPointSpec)

/-- 'laws.FnExactOfficeNew', WHERE WHAT IT READS IS OF BULK AT MOST 1048576: true; the input reads as it did. -/
def fnExactOfficeNewUptoRow : OpenClaim := { program := "ythjaemfkjlnfaaagreat", sum := "10b7cab63a676f8abdc7d599046210583befcaab15f994dbb4a8a26c60025aa0", func := "loop.example/g00980/laws.FnExactOfficeNew", spec := "fnExactOfficeNew", unfollowed := true, recurses := true, apart := false, narrowed := true }
def FnExactOfficeNewUptoSaid : Prop := fnExactOfficeNewUptoRow.holds Tryz.pinned (OpenSpec.upto fnExactOfficeNewSpec)

/-- 'laws.FnExactPaidSum', WHERE WHAT IT READS IS OF BULK AT MOST 1048576: true; the input reads as it did. -/
def fnExactPaidSumUptoRow : OpenClaim := { program := "ythjaemfkjlnfaaagreat", sum := "10b7cab63a676f8abdc7d599046210583befcaab15f994dbb4a8a26c60025aa0", func := "loop.example/g00980/laws.FnExactPaidSum", spec := "fnExactPaidSum", unfollowed := true, recurses := true, apart := false, narrowed := true }
def FnExactPaidSumUptoSaid : Prop := fnExactPaidSumUptoRow.holds Tryz.pinned (OpenSpec.upto fnExactPaidSumSpec)

/-- 'laws.FnExactYearTotals', WHERE WHAT IT READS IS OF BULK AT MOST 1048576: true; the input reads as it did. -/
def fnExactYearTotalsUptoRow : OpenClaim := { program := "ythjaemfkjlnfaaagreat", sum := "10b7cab63a676f8abdc7d599046210583befcaab15f994dbb4a8a26c60025aa0", func := "loop.example/g00980/laws.FnExactYearTotals", spec := "fnExactYearTotals", unfollowed := true, recurses := true, apart := false, narrowed := true }
def FnExactYearTotalsUptoSaid : Prop := fnExactYearTotalsUptoRow.holds Tryz.pinned (OpenSpec.upto fnExactYearTotalsSpec)

/-- 'laws.FnExactDueNow', WHERE WHAT IT READS IS OF BULK AT MOST 1048576: true; the input reads as it did. -/
def fnExactDueNowUptoRow : OpenClaim := { program := "ythjaemfkjlnfaaagreat", sum := "10b7cab63a676f8abdc7d599046210583befcaab15f994dbb4a8a26c60025aa0", func := "loop.example/g00980/laws.FnExactDueNow", spec := "fnExactDueNow", unfollowed := true, recurses := true, apart := false, narrowed := true }
def FnExactDueNowUptoSaid : Prop := fnExactDueNowUptoRow.holds Tryz.pinned (OpenSpec.upto fnExactDueNowSpec)

/-- 'laws.FnExactStatementsOf', WHERE WHAT IT READS IS OF BULK AT MOST 1048576: true; the input reads as it did. -/
def fnExactStatementsOfUptoRow : OpenClaim := { program := "ythjaemfkjlnfaaagreat", sum := "10b7cab63a676f8abdc7d599046210583befcaab15f994dbb4a8a26c60025aa0", func := "loop.example/g00980/laws.FnExactStatementsOf", spec := "fnExactStatementsOf", unfollowed := true, recurses := true, apart := false, narrowed := true }
def FnExactStatementsOfUptoSaid : Prop := fnExactStatementsOfUptoRow.holds Tryz.pinned (OpenSpec.upto fnExactStatementsOfSpec)

end Rows
end Go.Proofs.YthjaemfkjlnfaaaGreat
