/-
  DERIVED. GIVEN WITH THE SEED: THE CARDS: each row of YtmhjpbpdbdjiaaaDoorRows.lean that lists a variable, with what it lists TIED to the program's text (the seventh form; the later family's looks); each row that meets fmt, with fmt's text TOLD by the authors' own Lean function (tested against real Go, not proved from fmt's source: count such statements apart). THE CARD IS WHAT COUNTS. Prove the row's statement (the work); the ties are given (YtmhjpbpdbdjiaaaDoorTie.lean); close each card by the builder's one call (the guide's Derived/Test/ToyasCard.lean, 'card_holds'). Laid BY PROGRAM, IN A SANDBOX (cutbox-door.mjs). By AI agents, Wed Nov 11 2026. No macro, syntax, notation, axiom, sorry.
-/
import Derived.Test.YtmhjpbpdbdjiaaaDoorRows
import GoSem.ClaimSeven
namespace Go.Proofs.YtmhjpbpdbdjiaaaDoor
namespace Rows

/-- THE TIED CARD OF 'laws.FnExactAmountIn'. -/
def fnExactAmountInCard : Claim7 := { stood := { row := fnExactAmountInRow, standIns := [], harness := (true, "012b8e1499c865201a4cbbe04fdcccaf6193a5cb51215721bf5f2adf70bf8039"), looks := true }, kinds := [], alts := [], laidByText := true, laidKinds := [.data, .data, .data, .sentinel, .sentinel], laidTests := true, laidLooks := .later }
def FnExactAmountInCardSaid : Prop := Claim7.holds Tryd.pinned (.plain (OpenSpec.ofChange fnExactAmountInSpec)) fnExactAmountInCard

/-- THE SECOND FORM's CARD OF 'laws.FnExactAmountIn'. -/
def fnExactAmountInUptoCard : Claim7 := { stood := { row := fnExactAmountInUptoRow, standIns := [], harness := (true, "012b8e1499c865201a4cbbe04fdcccaf6193a5cb51215721bf5f2adf70bf8039"), looks := true }, kinds := [], alts := [], laidByText := true, laidKinds := [.data, .data, .data, .sentinel, .sentinel], laidTests := true, laidLooks := .later }
def FnExactAmountInUptoCardSaid : Prop := Claim7.holds Tryd.pinned (.plain (OpenSpec.upto fnExactAmountInSpec)) fnExactAmountInUptoCard
end Rows
end Go.Proofs.YtmhjpbpdbdjiaaaDoor
