/-
  No cell of these rows narrows 'for every input' (looked for: loops, veiled, ifaces, maps, wideKeys, modest, calm, conditions, laid).
  DERIVED. THE GIVEN ROWS OF THIS SEAT. 9 by the template 'for every input the law returns true; each argument reads behind the call as it read before'; 0 by the template 'total and deterministic' (their statements: YtagenkhjchiigaaGreatTotals.lean).
  GIVEN WITH THE SEED: the statements are not yours to turn. If you find one false, say at which input.
  Laid BY PROGRAM, IN A SANDBOX (cutbox-rows.mjs): the forced cells as the released guide's own fill.sh prints them over the translation 00d7f510262c66b9… (all of the seat's roots in one cut). By AI agents, Wed Nov 11 2026. No macro, syntax, notation, axiom, sorry.
-/
import Derived.Test.YtagenkhjchiigaaGreatChecked
import GoSem.Claim
import GoSem.ClaimJoined
import GoSem.ClaimMapViews
import Derived.JoinedTies
import Derived.KernelRfl
namespace Go.Proofs.YtagenkhjchiigaaGreat
/- THE CELL 'sum', in the pinned program and in every row, IS THE sha256 OF THE DUMP (.gsa) THAT YtagenkhjchiigaaGreatProg.lean LOADS. Nothing in Lean hashes anything: it is a label: what it is worth is what the hold of that sum in a sandbox is worth. -/
noncomputable def Tryz.pinned : Pinned := { name := "ytagenkhjchiigaagreat", sum := "00d7f510262c66b954c7bae5b2c42921ea70c2915727da248f469897d1b1c326", checked := Tryz.checked }
namespace Rows
def none {H : Type} : Left H := { results := [], args := [] }

/-- 'laws.FnLearned': WHATEVER THE INPUT: true; the input reads as it did. -/
def fnLearnedSpec : ChangeSpec := { name := "fnLearned", fn := fun _ => fun
  | [d] => { results := [.lit (.bool true)], args := [d] }
  | _ => none }
def fnLearnedRow : OpenClaim := { program := "ytagenkhjchiigaagreat", sum := "00d7f510262c66b954c7bae5b2c42921ea70c2915727da248f469897d1b1c326", func := "loop.example/g00980/laws.FnLearned", spec := "fnLearned", unfollowed := true, recurses := true, apart := false }
def FnLearnedSaid : Prop := fnLearnedRow.holds Tryz.pinned (OpenSpec.ofChange fnLearnedSpec)

/-- ITS FALSE NEIGHBOUR: 'it returns false'. Refute it at one input. -/
def fnLearnedWrong : ChangeSpec := { name := "fnLearned", fn := fun _ => fun
  | [d] => { results := [.lit (.bool false)], args := [d] }
  | _ => none }
def FnLearnedWrongFalsely : Prop := fnLearnedRow.holds Tryz.pinned (OpenSpec.ofChange fnLearnedWrong)

/-- 'laws.FnStatements': WHATEVER THE INPUT: true; the input reads as it did. -/
def fnStatementsSpec : ChangeSpec := { name := "fnStatements", fn := fun _ => fun
  | [d] => { results := [.lit (.bool true)], args := [d] }
  | _ => none }
def fnStatementsRow : OpenClaim := { program := "ytagenkhjchiigaagreat", sum := "00d7f510262c66b954c7bae5b2c42921ea70c2915727da248f469897d1b1c326", func := "loop.example/g00980/laws.FnStatements", spec := "fnStatements", unfollowed := true, recurses := true, apart := false }
def FnStatementsSaid : Prop := fnStatementsRow.holds Tryz.pinned (OpenSpec.ofChange fnStatementsSpec)

/-- ITS FALSE NEIGHBOUR: 'it returns false'. Refute it at one input. -/
def fnStatementsWrong : ChangeSpec := { name := "fnStatements", fn := fun _ => fun
  | [d] => { results := [.lit (.bool false)], args := [d] }
  | _ => none }
def FnStatementsWrongFalsely : Prop := fnStatementsRow.holds Tryz.pinned (OpenSpec.ofChange fnStatementsWrong)

/-- 'laws.FnPrefixes': WHATEVER THE INPUT: true; the input reads as it did. -/
def fnPrefixesSpec : ChangeSpec := { name := "fnPrefixes", fn := fun _ => fun
  | [d] => { results := [.lit (.bool true)], args := [d] }
  | _ => none }
def fnPrefixesRow : OpenClaim := { program := "ytagenkhjchiigaagreat", sum := "00d7f510262c66b954c7bae5b2c42921ea70c2915727da248f469897d1b1c326", func := "loop.example/g00980/laws.FnPrefixes", spec := "fnPrefixes", unfollowed := true, recurses := true, apart := false }
def FnPrefixesSaid : Prop := fnPrefixesRow.holds Tryz.pinned (OpenSpec.ofChange fnPrefixesSpec)

/-- ITS FALSE NEIGHBOUR: 'it returns false'. Refute it at one input. -/
def fnPrefixesWrong : ChangeSpec := { name := "fnPrefixes", fn := fun _ => fun
  | [d] => { results := [.lit (.bool false)], args := [d] }
  | _ => none }
def FnPrefixesWrongFalsely : Prop := fnPrefixesRow.holds Tryz.pinned (OpenSpec.ofChange fnPrefixesWrong)

/-- 'laws.FnNothingNew': WHATEVER THE INPUT: true; the input reads as it did. -/
def fnNothingNewSpec : ChangeSpec := { name := "fnNothingNew", fn := fun _ => fun
  | [d] => { results := [.lit (.bool true)], args := [d] }
  | _ => none }
def fnNothingNewRow : OpenClaim := { program := "ytagenkhjchiigaagreat", sum := "00d7f510262c66b954c7bae5b2c42921ea70c2915727da248f469897d1b1c326", func := "loop.example/g00980/laws.FnNothingNew", spec := "fnNothingNew", unfollowed := true, recurses := true, apart := false }
def FnNothingNewSaid : Prop := fnNothingNewRow.holds Tryz.pinned (OpenSpec.ofChange fnNothingNewSpec)

/-- ITS FALSE NEIGHBOUR: 'it returns false'. Refute it at one input. -/
def fnNothingNewWrong : ChangeSpec := { name := "fnNothingNew", fn := fun _ => fun
  | [d] => { results := [.lit (.bool false)], args := [d] }
  | _ => none }
def FnNothingNewWrongFalsely : Prop := fnNothingNewRow.holds Tryz.pinned (OpenSpec.ofChange fnNothingNewWrong)

/-- 'laws.FnSimulated': WHATEVER THE INPUT: true; the input reads as it did. -/
def fnSimulatedSpec : ChangeSpec := { name := "fnSimulated", fn := fun _ => fun
  | [d] => { results := [.lit (.bool true)], args := [d] }
  | _ => none }
def fnSimulatedRow : OpenClaim := { program := "ytagenkhjchiigaagreat", sum := "00d7f510262c66b954c7bae5b2c42921ea70c2915727da248f469897d1b1c326", func := "loop.example/g00980/laws.FnSimulated", spec := "fnSimulated", unfollowed := true, recurses := true, apart := false }
def FnSimulatedSaid : Prop := fnSimulatedRow.holds Tryz.pinned (OpenSpec.ofChange fnSimulatedSpec)

/-- ITS FALSE NEIGHBOUR: 'it returns false'. Refute it at one input. -/
def fnSimulatedWrong : ChangeSpec := { name := "fnSimulated", fn := fun _ => fun
  | [d] => { results := [.lit (.bool false)], args := [d] }
  | _ => none }
def FnSimulatedWrongFalsely : Prop := fnSimulatedRow.holds Tryz.pinned (OpenSpec.ofChange fnSimulatedWrong)

/-- 'laws.FnPaidUp': WHATEVER THE INPUT: true; the input reads as it did. -/
def fnPaidUpSpec : ChangeSpec := { name := "fnPaidUp", fn := fun _ => fun
  | [d] => { results := [.lit (.bool true)], args := [d] }
  | _ => none }
def fnPaidUpRow : OpenClaim := { program := "ytagenkhjchiigaagreat", sum := "00d7f510262c66b954c7bae5b2c42921ea70c2915727da248f469897d1b1c326", func := "loop.example/g00980/laws.FnPaidUp", spec := "fnPaidUp", unfollowed := true, recurses := true, apart := false }
def FnPaidUpSaid : Prop := fnPaidUpRow.holds Tryz.pinned (OpenSpec.ofChange fnPaidUpSpec)

/-- ITS FALSE NEIGHBOUR: 'it returns false'. Refute it at one input. -/
def fnPaidUpWrong : ChangeSpec := { name := "fnPaidUp", fn := fun _ => fun
  | [d] => { results := [.lit (.bool false)], args := [d] }
  | _ => none }
def FnPaidUpWrongFalsely : Prop := fnPaidUpRow.holds Tryz.pinned (OpenSpec.ofChange fnPaidUpWrong)

/-- 'laws.FnAudited': WHATEVER THE INPUT: true; the input reads as it did. -/
def fnAuditedSpec : ChangeSpec := { name := "fnAudited", fn := fun _ => fun
  | [d] => { results := [.lit (.bool true)], args := [d] }
  | _ => none }
def fnAuditedRow : OpenClaim := { program := "ytagenkhjchiigaagreat", sum := "00d7f510262c66b954c7bae5b2c42921ea70c2915727da248f469897d1b1c326", func := "loop.example/g00980/laws.FnAudited", spec := "fnAudited", unfollowed := true, recurses := true, apart := false }
def FnAuditedSaid : Prop := fnAuditedRow.holds Tryz.pinned (OpenSpec.ofChange fnAuditedSpec)

/-- ITS FALSE NEIGHBOUR: 'it returns false'. Refute it at one input. -/
def fnAuditedWrong : ChangeSpec := { name := "fnAudited", fn := fun _ => fun
  | [d] => { results := [.lit (.bool false)], args := [d] }
  | _ => none }
def FnAuditedWrongFalsely : Prop := fnAuditedRow.holds Tryz.pinned (OpenSpec.ofChange fnAuditedWrong)

/-- 'laws.FnAffected': WHATEVER THE INPUT: true; the input reads as it did. -/
def fnAffectedSpec : ChangeSpec := { name := "fnAffected", fn := fun _ => fun
  | [d] => { results := [.lit (.bool true)], args := [d] }
  | _ => none }
def fnAffectedRow : OpenClaim := { program := "ytagenkhjchiigaagreat", sum := "00d7f510262c66b954c7bae5b2c42921ea70c2915727da248f469897d1b1c326", func := "loop.example/g00980/laws.FnAffected", spec := "fnAffected", unfollowed := true, recurses := true, apart := false }
def FnAffectedSaid : Prop := fnAffectedRow.holds Tryz.pinned (OpenSpec.ofChange fnAffectedSpec)

/-- ITS FALSE NEIGHBOUR: 'it returns false'. Refute it at one input. -/
def fnAffectedWrong : ChangeSpec := { name := "fnAffected", fn := fun _ => fun
  | [d] => { results := [.lit (.bool false)], args := [d] }
  | _ => none }
def FnAffectedWrongFalsely : Prop := fnAffectedRow.holds Tryz.pinned (OpenSpec.ofChange fnAffectedWrong)

/-- 'laws.FnTop': WHATEVER THE INPUT: true; the input reads as it did. -/
def fnTopSpec : ChangeSpec := { name := "fnTop", fn := fun _ => fun
  | [d] => { results := [.lit (.bool true)], args := [d] }
  | _ => none }
def fnTopRow : OpenClaim := { program := "ytagenkhjchiigaagreat", sum := "00d7f510262c66b954c7bae5b2c42921ea70c2915727da248f469897d1b1c326", func := "loop.example/g00980/laws.FnTop", spec := "fnTop", unfollowed := true, recurses := true, apart := false }
def FnTopSaid : Prop := fnTopRow.holds Tryz.pinned (OpenSpec.ofChange fnTopSpec)

/-- ITS FALSE NEIGHBOUR: 'it returns false'. Refute it at one input. -/
def fnTopWrong : ChangeSpec := { name := "fnTop", fn := fun _ => fun
  | [d] => { results := [.lit (.bool false)], args := [d] }
  | _ => none }
def FnTopWrongFalsely : Prop := fnTopRow.holds Tryz.pinned (OpenSpec.ofChange fnTopWrong)

/- THE SECOND FORM. 'bulk': how many values and letters a reading holds, each counted each time it is reached (what is shared counts as often as it is met; a slice's spare places count too). A statement '..UptoSaid' is the law's where the arguments, and the package variables that the reading takes, are together of bulk at most 1048576: NARROWER than '..Said'. Prove '..Said' where nothing that the law and all that it calls make is longer than what came in: it says more and counts as full. Else prove '..UptoSaid'. A law counts once. -/
mutual
def uptoBulk {H : Type} : DataW H → Nat
  | .lit (.string bytes) => bytes.length + 1
  | .lit _ => 1
  | .nil => 1
  | .ptr d => uptoBulk d + 1
  | .slice elems spare => uptoBulkAll elems + uptoBulkAll spare + 1
  | .agg parts => uptoBulkAll parts + 1
  | .iface _ d => uptoBulk d + 1
  | .map entries => uptoBulkEntries entries + 1
  | .held _ => 1
def uptoBulkAll {H : Type} : List (DataW H) → Nat
  | [] => 0
  | d :: r => uptoBulk d + uptoBulkAll r
def uptoBulkEntries {H : Type} : List (Lit × DataW H) → Nat
  | [] => 0
  | x :: r => uptoBulkEntry x + uptoBulkEntries r
def uptoBulkEntry {H : Type} : Lit × DataW H → Nat
  | (.string bytes, d) => bytes.length + uptoBulk d + 1
  | (_, d) => uptoBulk d + 1
 end
def uptoSmall : (H : Type) → List (DataW H) → Bool := fun _ ds => decide (uptoBulkAll ds ≤ 1048576)
def OpenSpec.upto (s : _root_.Go.ChangeSpec) : _root_.Go.OpenSpec := { _root_.Go.OpenSpec.ofChange s with cond := some uptoSmall }

/-- 'laws.FnLearned', WHERE WHAT IT READS IS OF BULK AT MOST 1048576: true; the input reads as it did. -/
def fnLearnedUptoRow : OpenClaim := { program := "ytagenkhjchiigaagreat", sum := "00d7f510262c66b954c7bae5b2c42921ea70c2915727da248f469897d1b1c326", func := "loop.example/g00980/laws.FnLearned", spec := "fnLearned", unfollowed := true, recurses := true, apart := false, narrowed := true }
def FnLearnedUptoSaid : Prop := fnLearnedUptoRow.holds Tryz.pinned (OpenSpec.upto fnLearnedSpec)

/-- 'laws.FnStatements', WHERE WHAT IT READS IS OF BULK AT MOST 1048576: true; the input reads as it did. -/
def fnStatementsUptoRow : OpenClaim := { program := "ytagenkhjchiigaagreat", sum := "00d7f510262c66b954c7bae5b2c42921ea70c2915727da248f469897d1b1c326", func := "loop.example/g00980/laws.FnStatements", spec := "fnStatements", unfollowed := true, recurses := true, apart := false, narrowed := true }
def FnStatementsUptoSaid : Prop := fnStatementsUptoRow.holds Tryz.pinned (OpenSpec.upto fnStatementsSpec)

/-- 'laws.FnPrefixes', WHERE WHAT IT READS IS OF BULK AT MOST 1048576: true; the input reads as it did. -/
def fnPrefixesUptoRow : OpenClaim := { program := "ytagenkhjchiigaagreat", sum := "00d7f510262c66b954c7bae5b2c42921ea70c2915727da248f469897d1b1c326", func := "loop.example/g00980/laws.FnPrefixes", spec := "fnPrefixes", unfollowed := true, recurses := true, apart := false, narrowed := true }
def FnPrefixesUptoSaid : Prop := fnPrefixesUptoRow.holds Tryz.pinned (OpenSpec.upto fnPrefixesSpec)

/-- 'laws.FnNothingNew', WHERE WHAT IT READS IS OF BULK AT MOST 1048576: true; the input reads as it did. -/
def fnNothingNewUptoRow : OpenClaim := { program := "ytagenkhjchiigaagreat", sum := "00d7f510262c66b954c7bae5b2c42921ea70c2915727da248f469897d1b1c326", func := "loop.example/g00980/laws.FnNothingNew", spec := "fnNothingNew", unfollowed := true, recurses := true, apart := false, narrowed := true }
def FnNothingNewUptoSaid : Prop := fnNothingNewUptoRow.holds Tryz.pinned (OpenSpec.upto fnNothingNewSpec)

/-- 'laws.FnSimulated', WHERE WHAT IT READS IS OF BULK AT MOST 1048576: true; the input reads as it did. -/
def fnSimulatedUptoRow : OpenClaim := { program := "ytagenkhjchiigaagreat", sum := "00d7f510262c66b954c7bae5b2c42921ea70c2915727da248f469897d1b1c326", func := "loop.example/g00980/laws.FnSimulated", spec := "fnSimulated", unfollowed := true, recurses := true, apart := false, narrowed := true }
def FnSimulatedUptoSaid : Prop := fnSimulatedUptoRow.holds Tryz.pinned (OpenSpec.upto fnSimulatedSpec)

/-- 'laws.FnPaidUp', WHERE WHAT IT READS IS OF BULK AT MOST 1048576: true; the input reads as it did. -/
def fnPaidUpUptoRow : OpenClaim := { program := "ytagenkhjchiigaagreat", sum := "00d7f510262c66b954c7bae5b2c42921ea70c2915727da248f469897d1b1c326", func := "loop.example/g00980/laws.FnPaidUp", spec := "fnPaidUp", unfollowed := true, recurses := true, apart := false, narrowed := true }
def FnPaidUpUptoSaid : Prop := fnPaidUpUptoRow.holds Tryz.pinned (OpenSpec.upto fnPaidUpSpec)

/-- 'laws.FnAudited', WHERE WHAT IT READS IS OF BULK AT MOST 1048576: true; the input reads as it did. -/
def fnAuditedUptoRow : OpenClaim := { program := "ytagenkhjchiigaagreat", sum := "00d7f510262c66b954c7bae5b2c42921ea70c2915727da248f469897d1b1c326", func := "loop.example/g00980/laws.FnAudited", spec := "fnAudited", unfollowed := true, recurses := true, apart := false, narrowed := true }
def FnAuditedUptoSaid : Prop := fnAuditedUptoRow.holds Tryz.pinned (OpenSpec.upto fnAuditedSpec)

/-- 'laws.FnAffected', WHERE WHAT IT READS IS OF BULK AT MOST 1048576: true; the input reads as it did. -/
def fnAffectedUptoRow : OpenClaim := { program := "ytagenkhjchiigaagreat", sum := "00d7f510262c66b954c7bae5b2c42921ea70c2915727da248f469897d1b1c326", func := "loop.example/g00980/laws.FnAffected", spec := "fnAffected", unfollowed := true, recurses := true, apart := false, narrowed := true }
def FnAffectedUptoSaid : Prop := fnAffectedUptoRow.holds Tryz.pinned (OpenSpec.upto fnAffectedSpec)

/-- 'laws.FnTop', WHERE WHAT IT READS IS OF BULK AT MOST 1048576: true; the input reads as it did. -/
def fnTopUptoRow : OpenClaim := { program := "ytagenkhjchiigaagreat", sum := "00d7f510262c66b954c7bae5b2c42921ea70c2915727da248f469897d1b1c326", func := "loop.example/g00980/laws.FnTop", spec := "fnTop", unfollowed := true, recurses := true, apart := false, narrowed := true }
def FnTopUptoSaid : Prop := fnTopUptoRow.holds Tryz.pinned (OpenSpec.upto fnTopSpec)

end Rows
end Go.Proofs.YtagenkhjchiigaaGreat
