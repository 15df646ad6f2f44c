/-
  No cell of these rows narrows 'for every input' (looked for: loops, veiled, ifaces, maps, wideKeys, modest, calm, conditions, laid).
  DERIVED. THE GIVEN ROWS OF THIS SEAT. 12 by the template 'for every input the law returns true; each argument reads behind the call as it read before'; 0 by the template 'total and deterministic' (their statements: YtdmclmbdghcacaaTotals.lean).
  GIVEN WITH THE SEED: the statements are not yours to turn. If you find one false, say at which input.
  Laid BY PROGRAM, IN A SANDBOX (cutbox-rows.mjs): the forced cells as the released guide's own fill.sh prints them over the translation f4916e83b1a62e9d… (all of the seat's roots in one cut). By AI agents, Wed Nov 11 2026. No macro, syntax, notation, axiom, sorry.
-/
import Derived.Test.YtdmclmbdghcacaaChecked
import GoSem.Claim
import GoSem.ClaimJoined
import GoSem.ClaimMapViews
import Derived.JoinedTies
import Derived.KernelRfl
namespace Go.Proofs.Ytdmclmbdghcacaa
/- THE CELL 'sum', in the pinned program and in every row, IS THE sha256 OF THE DUMP (.gsa) THAT YtdmclmbdghcacaaProg.lean LOADS. Nothing in Lean hashes anything: it is a label: what it is worth is what the hold of that sum in a sandbox is worth. -/
noncomputable def Try.pinned : Pinned := { name := "ytdmclmbdghcacaa", sum := "f4916e83b1a62e9d2f7daa0397a730b812e4688a1374d44b812ede806cb1a875", checked := Try.checked }
namespace Rows
def none {H : Type} : Left H := { results := [], args := [] }

/-- 'laws.FnExactRaiseAll': WHATEVER THE INPUT: true; the input reads as it did. -/
def fnExactRaiseAllSpec : ChangeSpec := { name := "fnExactRaiseAll", fn := fun _ => fun
  | [d1, d2] => { results := [.lit (.bool true)], args := [d1, d2] }
  | _ => none }
def fnExactRaiseAllRow : OpenClaim := { program := "ytdmclmbdghcacaa", sum := "f4916e83b1a62e9d2f7daa0397a730b812e4688a1374d44b812ede806cb1a875", func := "loop.example/g00980/laws.FnExactRaiseAll", spec := "fnExactRaiseAll", unfollowed := true, recurses := true, apart := false }
def FnExactRaiseAllSaid : Prop := fnExactRaiseAllRow.holds Try.pinned (OpenSpec.ofChange fnExactRaiseAllSpec)

/-- ITS FALSE NEIGHBOUR: 'it returns false'. Refute it at one input. -/
def fnExactRaiseAllWrong : ChangeSpec := { name := "fnExactRaiseAll", fn := fun _ => fun
  | [d1, d2] => { results := [.lit (.bool false)], args := [d1, d2] }
  | _ => none }
def FnExactRaiseAllWrongFalsely : Prop := fnExactRaiseAllRow.holds Try.pinned (OpenSpec.ofChange fnExactRaiseAllWrong)

/-- 'laws.FnRaised': WHATEVER THE INPUT: true; the input reads as it did. -/
def fnRaisedSpec : ChangeSpec := { name := "fnRaised", fn := fun _ => fun
  | [d] => { results := [.lit (.bool true)], args := [d] }
  | _ => none }
def fnRaisedRow : OpenClaim := { program := "ytdmclmbdghcacaa", sum := "f4916e83b1a62e9d2f7daa0397a730b812e4688a1374d44b812ede806cb1a875", func := "loop.example/g00980/laws.FnRaised", spec := "fnRaised", unfollowed := true, recurses := true, apart := false }
def FnRaisedSaid : Prop := fnRaisedRow.holds Try.pinned (OpenSpec.ofChange fnRaisedSpec)

/-- ITS FALSE NEIGHBOUR: 'it returns false'. Refute it at one input. -/
def fnRaisedWrong : ChangeSpec := { name := "fnRaised", fn := fun _ => fun
  | [d] => { results := [.lit (.bool false)], args := [d] }
  | _ => none }
def FnRaisedWrongFalsely : Prop := fnRaisedRow.holds Try.pinned (OpenSpec.ofChange fnRaisedWrong)

/-- 'laws.FnLiabilities': WHATEVER THE INPUT: true; the input reads as it did. -/
def fnLiabilitiesSpec : ChangeSpec := { name := "fnLiabilities", fn := fun _ => fun
  | [d] => { results := [.lit (.bool true)], args := [d] }
  | _ => none }
def fnLiabilitiesRow : OpenClaim := { program := "ytdmclmbdghcacaa", sum := "f4916e83b1a62e9d2f7daa0397a730b812e4688a1374d44b812ede806cb1a875", func := "loop.example/g00980/laws.FnLiabilities", spec := "fnLiabilities", apart := false }
def FnLiabilitiesSaid : Prop := fnLiabilitiesRow.holds Try.pinned (OpenSpec.ofChange fnLiabilitiesSpec)

/-- ITS FALSE NEIGHBOUR: 'it returns false'. Refute it at one input. -/
def fnLiabilitiesWrong : ChangeSpec := { name := "fnLiabilities", fn := fun _ => fun
  | [d] => { results := [.lit (.bool false)], args := [d] }
  | _ => none }
def FnLiabilitiesWrongFalsely : Prop := fnLiabilitiesRow.holds Try.pinned (OpenSpec.ofChange fnLiabilitiesWrong)

/-- 'laws.FnExactDiffLines': WHATEVER THE INPUT: true; the input reads as it did. -/
def fnExactDiffLinesSpec : ChangeSpec := { name := "fnExactDiffLines", fn := fun _ => fun
  | [d1, d2] => { results := [.lit (.bool true)], args := [d1, d2] }
  | _ => none }
def fnExactDiffLinesRow : OpenClaim := { program := "ytdmclmbdghcacaa", sum := "f4916e83b1a62e9d2f7daa0397a730b812e4688a1374d44b812ede806cb1a875", func := "loop.example/g00980/laws.FnExactDiffLines", spec := "fnExactDiffLines", apart := false }
def FnExactDiffLinesSaid : Prop := fnExactDiffLinesRow.holds Try.pinned (OpenSpec.ofChange fnExactDiffLinesSpec)

/-- ITS FALSE NEIGHBOUR: 'it returns false'. Refute it at one input. -/
def fnExactDiffLinesWrong : ChangeSpec := { name := "fnExactDiffLines", fn := fun _ => fun
  | [d1, d2] => { results := [.lit (.bool false)], args := [d1, d2] }
  | _ => none }
def FnExactDiffLinesWrongFalsely : Prop := fnExactDiffLinesRow.holds Try.pinned (OpenSpec.ofChange fnExactDiffLinesWrong)

/-- 'laws.FnExactLiabilityOf': WHATEVER THE INPUT: true; the input reads as it did. -/
def fnExactLiabilityOfSpec : ChangeSpec := { name := "fnExactLiabilityOf", fn := fun _ => fun
  | [d1, d2] => { results := [.lit (.bool true)], args := [d1, d2] }
  | _ => none }
def fnExactLiabilityOfRow : OpenClaim := { program := "ytdmclmbdghcacaa", sum := "f4916e83b1a62e9d2f7daa0397a730b812e4688a1374d44b812ede806cb1a875", func := "loop.example/g00980/laws.FnExactLiabilityOf", spec := "fnExactLiabilityOf", apart := false }
def FnExactLiabilityOfSaid : Prop := fnExactLiabilityOfRow.holds Try.pinned (OpenSpec.ofChange fnExactLiabilityOfSpec)

/-- ITS FALSE NEIGHBOUR: 'it returns false'. Refute it at one input. -/
def fnExactLiabilityOfWrong : ChangeSpec := { name := "fnExactLiabilityOf", fn := fun _ => fun
  | [d1, d2] => { results := [.lit (.bool false)], args := [d1, d2] }
  | _ => none }
def FnExactLiabilityOfWrongFalsely : Prop := fnExactLiabilityOfRow.holds Try.pinned (OpenSpec.ofChange fnExactLiabilityOfWrong)

/-- 'laws.FnExactStoreDigest': WHATEVER THE INPUT: true; the input reads as it did. -/
def fnExactStoreDigestSpec : ChangeSpec := { name := "fnExactStoreDigest", fn := fun _ => fun
  | [d] => { results := [.lit (.bool true)], args := [d] }
  | _ => none }
def fnExactStoreDigestRow : OpenClaim := { program := "ytdmclmbdghcacaa", sum := "f4916e83b1a62e9d2f7daa0397a730b812e4688a1374d44b812ede806cb1a875", func := "loop.example/g00980/laws.FnExactStoreDigest", spec := "fnExactStoreDigest", apart := false }
def FnExactStoreDigestSaid : Prop := fnExactStoreDigestRow.holds Try.pinned (OpenSpec.ofChange fnExactStoreDigestSpec)

/-- ITS FALSE NEIGHBOUR: 'it returns false'. Refute it at one input. -/
def fnExactStoreDigestWrong : ChangeSpec := { name := "fnExactStoreDigest", fn := fun _ => fun
  | [d] => { results := [.lit (.bool false)], args := [d] }
  | _ => none }
def FnExactStoreDigestWrongFalsely : Prop := fnExactStoreDigestRow.holds Try.pinned (OpenSpec.ofChange fnExactStoreDigestWrong)

/-- 'laws.FnExactSeriesAsOf': WHATEVER THE INPUT: true; the input reads as it did. -/
def fnExactSeriesAsOfSpec : ChangeSpec := { name := "fnExactSeriesAsOf", fn := fun _ => fun
  | [d1, d2] => { results := [.lit (.bool true)], args := [d1, d2] }
  | _ => none }
def fnExactSeriesAsOfRow : OpenClaim := { program := "ytdmclmbdghcacaa", sum := "f4916e83b1a62e9d2f7daa0397a730b812e4688a1374d44b812ede806cb1a875", func := "loop.example/g00980/laws.FnExactSeriesAsOf", spec := "fnExactSeriesAsOf", unfollowed := true, recurses := true, apart := false }
def FnExactSeriesAsOfSaid : Prop := fnExactSeriesAsOfRow.holds Try.pinned (OpenSpec.ofChange fnExactSeriesAsOfSpec)

/-- ITS FALSE NEIGHBOUR: 'it returns false'. Refute it at one input. -/
def fnExactSeriesAsOfWrong : ChangeSpec := { name := "fnExactSeriesAsOf", fn := fun _ => fun
  | [d1, d2] => { results := [.lit (.bool false)], args := [d1, d2] }
  | _ => none }
def FnExactSeriesAsOfWrongFalsely : Prop := fnExactSeriesAsOfRow.holds Try.pinned (OpenSpec.ofChange fnExactSeriesAsOfWrong)

/-- 'laws.FnExactCloseUpTo': WHATEVER THE INPUT: true; the input reads as it did. -/
def fnExactCloseUpToSpec : ChangeSpec := { name := "fnExactCloseUpTo", fn := fun _ => fun
  | [d1, d2] => { results := [.lit (.bool true)], args := [d1, d2] }
  | _ => none }
def fnExactCloseUpToRow : OpenClaim := { program := "ytdmclmbdghcacaa", sum := "f4916e83b1a62e9d2f7daa0397a730b812e4688a1374d44b812ede806cb1a875", func := "loop.example/g00980/laws.FnExactCloseUpTo", spec := "fnExactCloseUpTo", unfollowed := true, recurses := true, apart := false }
def FnExactCloseUpToSaid : Prop := fnExactCloseUpToRow.holds Try.pinned (OpenSpec.ofChange fnExactCloseUpToSpec)

/-- ITS FALSE NEIGHBOUR: 'it returns false'. Refute it at one input. -/
def fnExactCloseUpToWrong : ChangeSpec := { name := "fnExactCloseUpTo", fn := fun _ => fun
  | [d1, d2] => { results := [.lit (.bool false)], args := [d1, d2] }
  | _ => none }
def FnExactCloseUpToWrongFalsely : Prop := fnExactCloseUpToRow.holds Try.pinned (OpenSpec.ofChange fnExactCloseUpToWrong)

/-- 'laws.FnExactPostOpen': WHATEVER THE INPUT: true; the input reads as it did. -/
def fnExactPostOpenSpec : ChangeSpec := { name := "fnExactPostOpen", fn := fun _ => fun
  | [d1, d2] => { results := [.lit (.bool true)], args := [d1, d2] }
  | _ => none }
def fnExactPostOpenRow : OpenClaim := { program := "ytdmclmbdghcacaa", sum := "f4916e83b1a62e9d2f7daa0397a730b812e4688a1374d44b812ede806cb1a875", func := "loop.example/g00980/laws.FnExactPostOpen", spec := "fnExactPostOpen", unfollowed := true, recurses := true, apart := false }
def FnExactPostOpenSaid : Prop := fnExactPostOpenRow.holds Try.pinned (OpenSpec.ofChange fnExactPostOpenSpec)

/-- ITS FALSE NEIGHBOUR: 'it returns false'. Refute it at one input. -/
def fnExactPostOpenWrong : ChangeSpec := { name := "fnExactPostOpen", fn := fun _ => fun
  | [d1, d2] => { results := [.lit (.bool false)], args := [d1, d2] }
  | _ => none }
def FnExactPostOpenWrongFalsely : Prop := fnExactPostOpenRow.holds Try.pinned (OpenSpec.ofChange fnExactPostOpenWrong)

/-- 'laws.FnExactPostLate': WHATEVER THE INPUT: true; the input reads as it did. -/
def fnExactPostLateSpec : ChangeSpec := { name := "fnExactPostLate", fn := fun _ => fun
  | [d1, d2] => { results := [.lit (.bool true)], args := [d1, d2] }
  | _ => none }
def fnExactPostLateRow : OpenClaim := { program := "ytdmclmbdghcacaa", sum := "f4916e83b1a62e9d2f7daa0397a730b812e4688a1374d44b812ede806cb1a875", func := "loop.example/g00980/laws.FnExactPostLate", spec := "fnExactPostLate", unfollowed := true, recurses := true, apart := false }
def FnExactPostLateSaid : Prop := fnExactPostLateRow.holds Try.pinned (OpenSpec.ofChange fnExactPostLateSpec)

/-- ITS FALSE NEIGHBOUR: 'it returns false'. Refute it at one input. -/
def fnExactPostLateWrong : ChangeSpec := { name := "fnExactPostLate", fn := fun _ => fun
  | [d1, d2] => { results := [.lit (.bool false)], args := [d1, d2] }
  | _ => none }
def FnExactPostLateWrongFalsely : Prop := fnExactPostLateRow.holds Try.pinned (OpenSpec.ofChange fnExactPostLateWrong)

/-- 'laws.FnExactCutAll': WHATEVER THE INPUT: true; the input reads as it did. -/
def fnExactCutAllSpec : ChangeSpec := { name := "fnExactCutAll", fn := fun _ => fun
  | [d1, d2] => { results := [.lit (.bool true)], args := [d1, d2] }
  | _ => none }
def fnExactCutAllRow : OpenClaim := { program := "ytdmclmbdghcacaa", sum := "f4916e83b1a62e9d2f7daa0397a730b812e4688a1374d44b812ede806cb1a875", func := "loop.example/g00980/laws.FnExactCutAll", spec := "fnExactCutAll", unfollowed := true, recurses := true, apart := false }
def FnExactCutAllSaid : Prop := fnExactCutAllRow.holds Try.pinned (OpenSpec.ofChange fnExactCutAllSpec)

/-- ITS FALSE NEIGHBOUR: 'it returns false'. Refute it at one input. -/
def fnExactCutAllWrong : ChangeSpec := { name := "fnExactCutAll", fn := fun _ => fun
  | [d1, d2] => { results := [.lit (.bool false)], args := [d1, d2] }
  | _ => none }
def FnExactCutAllWrongFalsely : Prop := fnExactCutAllRow.holds Try.pinned (OpenSpec.ofChange fnExactCutAllWrong)

/-- 'laws.FnCut': WHATEVER THE INPUT: true; the input reads as it did. -/
def fnCutSpec : ChangeSpec := { name := "fnCut", fn := fun _ => fun
  | [d] => { results := [.lit (.bool true)], args := [d] }
  | _ => none }
def fnCutRow : OpenClaim := { program := "ytdmclmbdghcacaa", sum := "f4916e83b1a62e9d2f7daa0397a730b812e4688a1374d44b812ede806cb1a875", func := "loop.example/g00980/laws.FnCut", spec := "fnCut", unfollowed := true, recurses := true, apart := false }
def FnCutSaid : Prop := fnCutRow.holds Try.pinned (OpenSpec.ofChange fnCutSpec)

/-- ITS FALSE NEIGHBOUR: 'it returns false'. Refute it at one input. -/
def fnCutWrong : ChangeSpec := { name := "fnCut", fn := fun _ => fun
  | [d] => { results := [.lit (.bool false)], args := [d] }
  | _ => none }
def FnCutWrongFalsely : Prop := fnCutRow.holds Try.pinned (OpenSpec.ofChange fnCutWrong)

/- THE SECOND FORM. 'bulk': how many values and letters a reading holds, each counted each time it is reached (what is shared counts as often as it is met; a slice's spare places count too). A statement '..UptoSaid' is the law's where the arguments, and the package variables that the reading takes, are together of bulk at most 1048576: NARROWER than '..Said'. Prove '..Said' where nothing that the law and all that it calls make is longer than what came in: it says more and counts as full. Else prove '..UptoSaid'. A law counts once. -/
mutual
def uptoBulk {H : Type} : DataW H → Nat
  | .lit (.string bytes) => bytes.length + 1
  | .lit _ => 1
  | .nil => 1
  | .ptr d => uptoBulk d + 1
  | .slice elems spare => uptoBulkAll elems + uptoBulkAll spare + 1
  | .agg parts => uptoBulkAll parts + 1
  | .iface _ d => uptoBulk d + 1
  | .map entries => uptoBulkEntries entries + 1
  | .held _ => 1
def uptoBulkAll {H : Type} : List (DataW H) → Nat
  | [] => 0
  | d :: r => uptoBulk d + uptoBulkAll r
def uptoBulkEntries {H : Type} : List (Lit × DataW H) → Nat
  | [] => 0
  | x :: r => uptoBulkEntry x + uptoBulkEntries r
def uptoBulkEntry {H : Type} : Lit × DataW H → Nat
  | (.string bytes, d) => bytes.length + uptoBulk d + 1
  | (_, d) => uptoBulk d + 1
 end
def uptoSmall : (H : Type) → List (DataW H) → Bool := fun _ ds => decide (uptoBulkAll ds ≤ 1048576)
def OpenSpec.upto (s : _root_.Go.ChangeSpec) : _root_.Go.OpenSpec := { _root_.Go.OpenSpec.ofChange s with cond := some uptoSmall }

/-- 'laws.FnExactRaiseAll', WHERE WHAT IT READS IS OF BULK AT MOST 1048576: true; the input reads as it did. -/
def fnExactRaiseAllUptoRow : OpenClaim := { program := "ytdmclmbdghcacaa", sum := "f4916e83b1a62e9d2f7daa0397a730b812e4688a1374d44b812ede806cb1a875", func := "loop.example/g00980/laws.FnExactRaiseAll", spec := "fnExactRaiseAll", unfollowed := true, recurses := true, apart := false, narrowed := true }
def FnExactRaiseAllUptoSaid : Prop := fnExactRaiseAllUptoRow.holds Try.pinned (OpenSpec.upto fnExactRaiseAllSpec)

/-- 'laws.FnRaised', WHERE WHAT IT READS IS OF BULK AT MOST 1048576: true; the input reads as it did. -/
def fnRaisedUptoRow : OpenClaim := { program := "ytdmclmbdghcacaa", sum := "f4916e83b1a62e9d2f7daa0397a730b812e4688a1374d44b812ede806cb1a875", func := "loop.example/g00980/laws.FnRaised", spec := "fnRaised", unfollowed := true, recurses := true, apart := false, narrowed := true }
def FnRaisedUptoSaid : Prop := fnRaisedUptoRow.holds Try.pinned (OpenSpec.upto fnRaisedSpec)

/-- 'laws.FnLiabilities', WHERE WHAT IT READS IS OF BULK AT MOST 1048576: true; the input reads as it did. -/
def fnLiabilitiesUptoRow : OpenClaim := { program := "ytdmclmbdghcacaa", sum := "f4916e83b1a62e9d2f7daa0397a730b812e4688a1374d44b812ede806cb1a875", func := "loop.example/g00980/laws.FnLiabilities", spec := "fnLiabilities", apart := false, narrowed := true }
def FnLiabilitiesUptoSaid : Prop := fnLiabilitiesUptoRow.holds Try.pinned (OpenSpec.upto fnLiabilitiesSpec)

/-- 'laws.FnExactDiffLines', WHERE WHAT IT READS IS OF BULK AT MOST 1048576: true; the input reads as it did. -/
def fnExactDiffLinesUptoRow : OpenClaim := { program := "ytdmclmbdghcacaa", sum := "f4916e83b1a62e9d2f7daa0397a730b812e4688a1374d44b812ede806cb1a875", func := "loop.example/g00980/laws.FnExactDiffLines", spec := "fnExactDiffLines", apart := false, narrowed := true }
def FnExactDiffLinesUptoSaid : Prop := fnExactDiffLinesUptoRow.holds Try.pinned (OpenSpec.upto fnExactDiffLinesSpec)

/-- 'laws.FnExactLiabilityOf', WHERE WHAT IT READS IS OF BULK AT MOST 1048576: true; the input reads as it did. -/
def fnExactLiabilityOfUptoRow : OpenClaim := { program := "ytdmclmbdghcacaa", sum := "f4916e83b1a62e9d2f7daa0397a730b812e4688a1374d44b812ede806cb1a875", func := "loop.example/g00980/laws.FnExactLiabilityOf", spec := "fnExactLiabilityOf", apart := false, narrowed := true }
def FnExactLiabilityOfUptoSaid : Prop := fnExactLiabilityOfUptoRow.holds Try.pinned (OpenSpec.upto fnExactLiabilityOfSpec)

/-- 'laws.FnExactStoreDigest', WHERE WHAT IT READS IS OF BULK AT MOST 1048576: true; the input reads as it did. -/
def fnExactStoreDigestUptoRow : OpenClaim := { program := "ytdmclmbdghcacaa", sum := "f4916e83b1a62e9d2f7daa0397a730b812e4688a1374d44b812ede806cb1a875", func := "loop.example/g00980/laws.FnExactStoreDigest", spec := "fnExactStoreDigest", apart := false, narrowed := true }
def FnExactStoreDigestUptoSaid : Prop := fnExactStoreDigestUptoRow.holds Try.pinned (OpenSpec.upto fnExactStoreDigestSpec)

/-- 'laws.FnExactSeriesAsOf', WHERE WHAT IT READS IS OF BULK AT MOST 1048576: true; the input reads as it did. -/
def fnExactSeriesAsOfUptoRow : OpenClaim := { program := "ytdmclmbdghcacaa", sum := "f4916e83b1a62e9d2f7daa0397a730b812e4688a1374d44b812ede806cb1a875", func := "loop.example/g00980/laws.FnExactSeriesAsOf", spec := "fnExactSeriesAsOf", unfollowed := true, recurses := true, apart := false, narrowed := true }
def FnExactSeriesAsOfUptoSaid : Prop := fnExactSeriesAsOfUptoRow.holds Try.pinned (OpenSpec.upto fnExactSeriesAsOfSpec)

/-- 'laws.FnExactCloseUpTo', WHERE WHAT IT READS IS OF BULK AT MOST 1048576: true; the input reads as it did. -/
def fnExactCloseUpToUptoRow : OpenClaim := { program := "ytdmclmbdghcacaa", sum := "f4916e83b1a62e9d2f7daa0397a730b812e4688a1374d44b812ede806cb1a875", func := "loop.example/g00980/laws.FnExactCloseUpTo", spec := "fnExactCloseUpTo", unfollowed := true, recurses := true, apart := false, narrowed := true }
def FnExactCloseUpToUptoSaid : Prop := fnExactCloseUpToUptoRow.holds Try.pinned (OpenSpec.upto fnExactCloseUpToSpec)

/-- 'laws.FnExactPostOpen', WHERE WHAT IT READS IS OF BULK AT MOST 1048576: true; the input reads as it did. -/
def fnExactPostOpenUptoRow : OpenClaim := { program := "ytdmclmbdghcacaa", sum := "f4916e83b1a62e9d2f7daa0397a730b812e4688a1374d44b812ede806cb1a875", func := "loop.example/g00980/laws.FnExactPostOpen", spec := "fnExactPostOpen", unfollowed := true, recurses := true, apart := false, narrowed := true }
def FnExactPostOpenUptoSaid : Prop := fnExactPostOpenUptoRow.holds Try.pinned (OpenSpec.upto fnExactPostOpenSpec)

/-- 'laws.FnExactPostLate', WHERE WHAT IT READS IS OF BULK AT MOST 1048576: true; the input reads as it did. -/
def fnExactPostLateUptoRow : OpenClaim := { program := "ytdmclmbdghcacaa", sum := "f4916e83b1a62e9d2f7daa0397a730b812e4688a1374d44b812ede806cb1a875", func := "loop.example/g00980/laws.FnExactPostLate", spec := "fnExactPostLate", unfollowed := true, recurses := true, apart := false, narrowed := true }
def FnExactPostLateUptoSaid : Prop := fnExactPostLateUptoRow.holds Try.pinned (OpenSpec.upto fnExactPostLateSpec)

/-- 'laws.FnExactCutAll', WHERE WHAT IT READS IS OF BULK AT MOST 1048576: true; the input reads as it did. -/
def fnExactCutAllUptoRow : OpenClaim := { program := "ytdmclmbdghcacaa", sum := "f4916e83b1a62e9d2f7daa0397a730b812e4688a1374d44b812ede806cb1a875", func := "loop.example/g00980/laws.FnExactCutAll", spec := "fnExactCutAll", unfollowed := true, recurses := true, apart := false, narrowed := true }
def FnExactCutAllUptoSaid : Prop := fnExactCutAllUptoRow.holds Try.pinned (OpenSpec.upto fnExactCutAllSpec)

/-- 'laws.FnCut', WHERE WHAT IT READS IS OF BULK AT MOST 1048576: true; the input reads as it did. -/
def fnCutUptoRow : OpenClaim := { program := "ytdmclmbdghcacaa", sum := "f4916e83b1a62e9d2f7daa0397a730b812e4688a1374d44b812ede806cb1a875", func := "loop.example/g00980/laws.FnCut", spec := "fnCut", unfollowed := true, recurses := true, apart := false, narrowed := true }
def FnCutUptoSaid : Prop := fnCutUptoRow.holds Try.pinned (OpenSpec.upto fnCutSpec)

end Rows
end Go.Proofs.Ytdmclmbdghcacaa
