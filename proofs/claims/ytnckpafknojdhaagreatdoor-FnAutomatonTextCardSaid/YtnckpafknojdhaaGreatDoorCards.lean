/-
  DERIVED. GIVEN WITH THE SEED: THE CARDS: each row of YtnckpafknojdhaaGreatDoorRows.lean that lists a variable, with what it lists TIED to the program's text (the seventh form; the later family's looks); each row that meets fmt, with fmt's text TOLD by the authors' own Lean function (tested against real Go, not proved from fmt's source: count such statements apart). THE CARD IS WHAT COUNTS. Prove the row's statement (the work); the ties are given (YtnckpafknojdhaaGreatDoorTie.lean); close each card by the builder's one call (the guide's Derived/Test/ToyasCard.lean, 'card_holds'). Laid BY PROGRAM, IN A SANDBOX (cutbox-door.mjs). By AI agents, Wed Nov 11 2026. No macro, syntax, notation, axiom, sorry.
-/
import Derived.Test.YtnckpafknojdhaaGreatDoorRows
import GoSem.ClaimSeven
namespace Go.Proofs.YtnckpafknojdhaaGreatDoor
namespace Rows

/-- THE TIED CARD OF 'laws.FnAutomatonText'. -/
def fnAutomatonTextCard : Claim7 := { stood := { row := fnAutomatonTextRow, standIns := [], harness := (true, "69a6349f8b30ff4da0cfc891f3029305eb9a9cc62eaa14074cb7fd2452de2274"), looks := true }, kinds := [], alts := [], laidByText := true, laidKinds := [.data, .data, .data, .data, .sentinel, .sentinel, .pinned], laidTests := true, laidLooks := .later }
def FnAutomatonTextCardSaid : Prop := Claim7.holds Tryz.pinned (.plain (OpenSpec.ofChange fnAutomatonTextSpec)) fnAutomatonTextCard

/-- THE SECOND FORM's CARD OF 'laws.FnAutomatonText'. -/
def fnAutomatonTextUptoCard : Claim7 := { stood := { row := fnAutomatonTextUptoRow, standIns := [], harness := (true, "69a6349f8b30ff4da0cfc891f3029305eb9a9cc62eaa14074cb7fd2452de2274"), looks := true }, kinds := [], alts := [], laidByText := true, laidKinds := [.data, .data, .data, .data, .sentinel, .sentinel, .pinned], laidTests := true, laidLooks := .later }
def FnAutomatonTextUptoCardSaid : Prop := Claim7.holds Tryz.pinned (.plain (OpenSpec.upto fnAutomatonTextSpec)) fnAutomatonTextUptoCard
end Rows
end Go.Proofs.YtnckpafknojdhaaGreatDoor
