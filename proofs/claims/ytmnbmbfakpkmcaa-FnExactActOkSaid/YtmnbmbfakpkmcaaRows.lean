/-
  No cell of these rows narrows 'for every input' (looked for: loops, veiled, ifaces, maps, wideKeys, modest, calm, conditions, laid).
  DERIVED. THE GIVEN ROWS OF THIS SEAT. 6 by the template 'for every input the law returns true; each argument reads behind the call as it read before'; 0 by the template 'total and deterministic' (their statements: YtmnbmbfakpkmcaaTotals.lean).
  GIVEN WITH THE SEED: the statements are not yours to turn. If you find one false, say at which input.
  Laid BY PROGRAM, IN A SANDBOX (cutbox-rows.mjs): the forced cells as the released guide's own fill.sh prints them over the translation c9418f7a0574cba5… (all of the seat's roots in one cut). By AI agents, Wed Nov 11 2026. No macro, syntax, notation, axiom, sorry.
-/
import Derived.Test.YtmnbmbfakpkmcaaChecked
import GoSem.Claim
import GoSem.ClaimJoined
import GoSem.ClaimMapViews
import Derived.JoinedTies
import Derived.KernelRfl
namespace Go.Proofs.Ytmnbmbfakpkmcaa
/- THE CELL 'sum', in the pinned program and in every row, IS THE sha256 OF THE DUMP (.gsa) THAT YtmnbmbfakpkmcaaProg.lean LOADS. Nothing in Lean hashes anything: it is a label: what it is worth is what the hold of that sum in a sandbox is worth. -/
noncomputable def Try.pinned : Pinned := { name := "ytmnbmbfakpkmcaa", sum := "c9418f7a0574cba54d6cd9d16f971d30713e59922469cc950efebf978f7e4660", checked := Try.checked }
namespace Rows
def none {H : Type} : Left H := { results := [], args := [] }

/-- 'laws.FnExactAssetsNeeded': WHATEVER THE INPUT: true; the input reads as it did. -/
def fnExactAssetsNeededSpec : ChangeSpec := { name := "fnExactAssetsNeeded", fn := fun _ => fun
  | [d1, d2] => { results := [.lit (.bool true)], args := [d1, d2] }
  | _ => none }
def fnExactAssetsNeededRow : OpenClaim := { program := "ytmnbmbfakpkmcaa", sum := "c9418f7a0574cba54d6cd9d16f971d30713e59922469cc950efebf978f7e4660", func := "loop.example/g00980/laws.FnExactAssetsNeeded", spec := "fnExactAssetsNeeded", apart := false }
def FnExactAssetsNeededSaid : Prop := fnExactAssetsNeededRow.holds Try.pinned (OpenSpec.ofChange fnExactAssetsNeededSpec)

/-- ITS FALSE NEIGHBOUR: 'it returns false'. Refute it at one input. -/
def fnExactAssetsNeededWrong : ChangeSpec := { name := "fnExactAssetsNeeded", fn := fun _ => fun
  | [d1, d2] => { results := [.lit (.bool false)], args := [d1, d2] }
  | _ => none }
def FnExactAssetsNeededWrongFalsely : Prop := fnExactAssetsNeededRow.holds Try.pinned (OpenSpec.ofChange fnExactAssetsNeededWrong)

/-- 'laws.FnExactSolvencyOf': WHATEVER THE INPUT: true; the input reads as it did. -/
def fnExactSolvencyOfSpec : ChangeSpec := { name := "fnExactSolvencyOf", fn := fun _ => fun
  | [d] => { results := [.lit (.bool true)], args := [d] }
  | _ => none }
def fnExactSolvencyOfRow : OpenClaim := { program := "ytmnbmbfakpkmcaa", sum := "c9418f7a0574cba54d6cd9d16f971d30713e59922469cc950efebf978f7e4660", func := "loop.example/g00980/laws.FnExactSolvencyOf", spec := "fnExactSolvencyOf", apart := false }
def FnExactSolvencyOfSaid : Prop := fnExactSolvencyOfRow.holds Try.pinned (OpenSpec.ofChange fnExactSolvencyOfSpec)

/-- ITS FALSE NEIGHBOUR: 'it returns false'. Refute it at one input. -/
def fnExactSolvencyOfWrong : ChangeSpec := { name := "fnExactSolvencyOf", fn := fun _ => fun
  | [d] => { results := [.lit (.bool false)], args := [d] }
  | _ => none }
def FnExactSolvencyOfWrongFalsely : Prop := fnExactSolvencyOfRow.holds Try.pinned (OpenSpec.ofChange fnExactSolvencyOfWrong)

/-- 'laws.FnExactAdjustRate': WHATEVER THE INPUT: true; the input reads as it did. -/
def fnExactAdjustRateSpec : ChangeSpec := { name := "fnExactAdjustRate", fn := fun _ => fun
  | [d1, d2] => { results := [.lit (.bool true)], args := [d1, d2] }
  | _ => none }
def fnExactAdjustRateRow : OpenClaim := { program := "ytmnbmbfakpkmcaa", sum := "c9418f7a0574cba54d6cd9d16f971d30713e59922469cc950efebf978f7e4660", func := "loop.example/g00980/laws.FnExactAdjustRate", spec := "fnExactAdjustRate", apart := false }
def FnExactAdjustRateSaid : Prop := fnExactAdjustRateRow.holds Try.pinned (OpenSpec.ofChange fnExactAdjustRateSpec)

/-- ITS FALSE NEIGHBOUR: 'it returns false'. Refute it at one input. -/
def fnExactAdjustRateWrong : ChangeSpec := { name := "fnExactAdjustRate", fn := fun _ => fun
  | [d1, d2] => { results := [.lit (.bool false)], args := [d1, d2] }
  | _ => none }
def FnExactAdjustRateWrongFalsely : Prop := fnExactAdjustRateRow.holds Try.pinned (OpenSpec.ofChange fnExactAdjustRateWrong)

/-- 'laws.FnExactCoverageOf': WHATEVER THE INPUT: true; the input reads as it did. -/
def fnExactCoverageOfSpec : ChangeSpec := { name := "fnExactCoverageOf", fn := fun _ => fun
  | [d1, d2] => { results := [.lit (.bool true)], args := [d1, d2] }
  | _ => none }
def fnExactCoverageOfRow : OpenClaim := { program := "ytmnbmbfakpkmcaa", sum := "c9418f7a0574cba54d6cd9d16f971d30713e59922469cc950efebf978f7e4660", func := "loop.example/g00980/laws.FnExactCoverageOf", spec := "fnExactCoverageOf", apart := false }
def FnExactCoverageOfSaid : Prop := fnExactCoverageOfRow.holds Try.pinned (OpenSpec.ofChange fnExactCoverageOfSpec)

/-- ITS FALSE NEIGHBOUR: 'it returns false'. Refute it at one input. -/
def fnExactCoverageOfWrong : ChangeSpec := { name := "fnExactCoverageOf", fn := fun _ => fun
  | [d1, d2] => { results := [.lit (.bool false)], args := [d1, d2] }
  | _ => none }
def FnExactCoverageOfWrongFalsely : Prop := fnExactCoverageOfRow.holds Try.pinned (OpenSpec.ofChange fnExactCoverageOfWrong)

/-- 'laws.FnExactActOk': WHATEVER THE INPUT: true; the input reads as it did. -/
def fnExactActOkSpec : ChangeSpec := { name := "fnExactActOk", fn := fun _ => fun
  | [d] => { results := [.lit (.bool true)], args := [d] }
  | _ => none }
def fnExactActOkRow : OpenClaim := { program := "ytmnbmbfakpkmcaa", sum := "c9418f7a0574cba54d6cd9d16f971d30713e59922469cc950efebf978f7e4660", func := "loop.example/g00980/laws.FnExactActOk", spec := "fnExactActOk", apart := false }
def FnExactActOkSaid : Prop := fnExactActOkRow.holds Try.pinned (OpenSpec.ofChange fnExactActOkSpec)

/-- ITS FALSE NEIGHBOUR: 'it returns false'. Refute it at one input. -/
def fnExactActOkWrong : ChangeSpec := { name := "fnExactActOk", fn := fun _ => fun
  | [d] => { results := [.lit (.bool false)], args := [d] }
  | _ => none }
def FnExactActOkWrongFalsely : Prop := fnExactActOkRow.holds Try.pinned (OpenSpec.ofChange fnExactActOkWrong)

/-- 'laws.FnCoverage': WHATEVER THE INPUT: true; the input reads as it did. -/
def fnCoverageSpec : ChangeSpec := { name := "fnCoverage", fn := fun _ => fun
  | [d] => { results := [.lit (.bool true)], args := [d] }
  | _ => none }
def fnCoverageRow : OpenClaim := { program := "ytmnbmbfakpkmcaa", sum := "c9418f7a0574cba54d6cd9d16f971d30713e59922469cc950efebf978f7e4660", func := "loop.example/g00980/laws.FnCoverage", spec := "fnCoverage", apart := false }
def FnCoverageSaid : Prop := fnCoverageRow.holds Try.pinned (OpenSpec.ofChange fnCoverageSpec)

/-- ITS FALSE NEIGHBOUR: 'it returns false'. Refute it at one input. -/
def fnCoverageWrong : ChangeSpec := { name := "fnCoverage", fn := fun _ => fun
  | [d] => { results := [.lit (.bool false)], args := [d] }
  | _ => none }
def FnCoverageWrongFalsely : Prop := fnCoverageRow.holds Try.pinned (OpenSpec.ofChange fnCoverageWrong)

/- THE SECOND FORM. 'bulk': how many values and letters a reading holds, each counted each time it is reached (what is shared counts as often as it is met; a slice's spare places count too). A statement '..UptoSaid' is the law's where the arguments, and the package variables that the reading takes, are together of bulk at most 1048576: NARROWER than '..Said'. Prove '..Said' where nothing that the law and all that it calls make is longer than what came in: it says more and counts as full. Else prove '..UptoSaid'. A law counts once. -/
mutual
def uptoBulk {H : Type} : DataW H → Nat
  | .lit (.string bytes) => bytes.length + 1
  | .lit _ => 1
  | .nil => 1
  | .ptr d => uptoBulk d + 1
  | .slice elems spare => uptoBulkAll elems + uptoBulkAll spare + 1
  | .agg parts => uptoBulkAll parts + 1
  | .iface _ d => uptoBulk d + 1
  | .map entries => uptoBulkEntries entries + 1
  | .held _ => 1
def uptoBulkAll {H : Type} : List (DataW H) → Nat
  | [] => 0
  | d :: r => uptoBulk d + uptoBulkAll r
def uptoBulkEntries {H : Type} : List (Lit × DataW H) → Nat
  | [] => 0
  | x :: r => uptoBulkEntry x + uptoBulkEntries r
def uptoBulkEntry {H : Type} : Lit × DataW H → Nat
  | (.string bytes, d) => bytes.length + uptoBulk d + 1
  | (_, d) => uptoBulk d + 1
 end
def uptoSmall : (H : Type) → List (DataW H) → Bool := fun _ ds => decide (uptoBulkAll ds ≤ 1048576)
def OpenSpec.upto (s : _root_.Go.ChangeSpec) : _root_.Go.OpenSpec := { _root_.Go.OpenSpec.ofChange s with cond := some uptoSmall }

/-- 'laws.FnExactAssetsNeeded', WHERE WHAT IT READS IS OF BULK AT MOST 1048576: true; the input reads as it did. -/
def fnExactAssetsNeededUptoRow : OpenClaim := { program := "ytmnbmbfakpkmcaa", sum := "c9418f7a0574cba54d6cd9d16f971d30713e59922469cc950efebf978f7e4660", func := "loop.example/g00980/laws.FnExactAssetsNeeded", spec := "fnExactAssetsNeeded", apart := false, narrowed := true }
def FnExactAssetsNeededUptoSaid : Prop := fnExactAssetsNeededUptoRow.holds Try.pinned (OpenSpec.upto fnExactAssetsNeededSpec)

/-- 'laws.FnExactSolvencyOf', WHERE WHAT IT READS IS OF BULK AT MOST 1048576: true; the input reads as it did. -/
def fnExactSolvencyOfUptoRow : OpenClaim := { program := "ytmnbmbfakpkmcaa", sum := "c9418f7a0574cba54d6cd9d16f971d30713e59922469cc950efebf978f7e4660", func := "loop.example/g00980/laws.FnExactSolvencyOf", spec := "fnExactSolvencyOf", apart := false, narrowed := true }
def FnExactSolvencyOfUptoSaid : Prop := fnExactSolvencyOfUptoRow.holds Try.pinned (OpenSpec.upto fnExactSolvencyOfSpec)

/-- 'laws.FnExactAdjustRate', WHERE WHAT IT READS IS OF BULK AT MOST 1048576: true; the input reads as it did. -/
def fnExactAdjustRateUptoRow : OpenClaim := { program := "ytmnbmbfakpkmcaa", sum := "c9418f7a0574cba54d6cd9d16f971d30713e59922469cc950efebf978f7e4660", func := "loop.example/g00980/laws.FnExactAdjustRate", spec := "fnExactAdjustRate", apart := false, narrowed := true }
def FnExactAdjustRateUptoSaid : Prop := fnExactAdjustRateUptoRow.holds Try.pinned (OpenSpec.upto fnExactAdjustRateSpec)

/-- 'laws.FnExactCoverageOf', WHERE WHAT IT READS IS OF BULK AT MOST 1048576: true; the input reads as it did. -/
def fnExactCoverageOfUptoRow : OpenClaim := { program := "ytmnbmbfakpkmcaa", sum := "c9418f7a0574cba54d6cd9d16f971d30713e59922469cc950efebf978f7e4660", func := "loop.example/g00980/laws.FnExactCoverageOf", spec := "fnExactCoverageOf", apart := false, narrowed := true }
def FnExactCoverageOfUptoSaid : Prop := fnExactCoverageOfUptoRow.holds Try.pinned (OpenSpec.upto fnExactCoverageOfSpec)

/-- 'laws.FnExactActOk', WHERE WHAT IT READS IS OF BULK AT MOST 1048576: true; the input reads as it did. -/
def fnExactActOkUptoRow : OpenClaim := { program := "ytmnbmbfakpkmcaa", sum := "c9418f7a0574cba54d6cd9d16f971d30713e59922469cc950efebf978f7e4660", func := "loop.example/g00980/laws.FnExactActOk", spec := "fnExactActOk", apart := false, narrowed := true }
def FnExactActOkUptoSaid : Prop := fnExactActOkUptoRow.holds Try.pinned (OpenSpec.upto fnExactActOkSpec)

/-- 'laws.FnCoverage', WHERE WHAT IT READS IS OF BULK AT MOST 1048576: true; the input reads as it did. -/
def fnCoverageUptoRow : OpenClaim := { program := "ytmnbmbfakpkmcaa", sum := "c9418f7a0574cba54d6cd9d16f971d30713e59922469cc950efebf978f7e4660", func := "loop.example/g00980/laws.FnCoverage", spec := "fnCoverage", apart := false, narrowed := true }
def FnCoverageUptoSaid : Prop := fnCoverageUptoRow.holds Try.pinned (OpenSpec.upto fnCoverageSpec)

end Rows
end Go.Proofs.Ytmnbmbfakpkmcaa
