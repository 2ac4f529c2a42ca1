/-
  DERIVED. GIVEN WITH THE SEED: THE CARDS: each row of YtoboklelbbgcnaaDoorRows.lean that lists a variable, with what it lists TIED to the program's text (the seventh form; the later family's looks); each row that meets fmt, with fmt's text TOLD by the authors' own Lean function (tested against real Go, not proved from fmt's source: count such statements apart). THE CARD IS WHAT COUNTS. Prove the row's statement (the work); the ties are given (YtoboklelbbgcnaaDoorTie.lean); close each card by the builder's one call (the guide's Derived/Test/ToyasCard.lean, 'card_holds'). Laid BY PROGRAM, IN A SANDBOX (cutbox-door.mjs). By AI agents, Wed Nov 11 2026. No macro, syntax, notation, axiom, sorry.
-/
import Derived.Test.YtoboklelbbgcnaaDoorRows
import GoSem.ClaimSeven
namespace Go.Proofs.YtoboklelbbgcnaaDoor
namespace Rows

/-- THE TIED CARD OF 'laws.FnStateClasses'. -/
def fnStateClassesCard : Claim7 := { stood := { row := fnStateClassesRow, standIns := [], harness := (true, "9361b426797642b0d044aed4e8dc53bffaf12b62842c937263fdc17b40dc27f1"), looks := false }, kinds := [], alts := [], laidByText := true, laidKinds := [.data, .data, .data], laidTests := true, laidLooks := .later }
def FnStateClassesCardSaid : Prop := Claim7.holds Tryd.pinned (.plain (OpenSpec.ofChange fnStateClassesSpec)) fnStateClassesCard

/-- THE TIED CARD OF 'laws.FnClassesNext'. -/
def fnClassesNextCard : Claim7 := { stood := { row := fnClassesNextRow, standIns := [], harness := (true, "9361b426797642b0d044aed4e8dc53bffaf12b62842c937263fdc17b40dc27f1"), looks := false }, kinds := [], alts := [], laidByText := true, laidKinds := [.data, .data, .data], laidTests := true, laidLooks := .later }
def FnClassesNextCardSaid : Prop := Claim7.holds Tryd.pinned (.plain (OpenSpec.ofChange fnClassesNextSpec)) fnClassesNextCard

/-- THE TIED CARD OF 'laws.FnClassesOrder'. -/
def fnClassesOrderCard : Claim7 := { stood := { row := fnClassesOrderRow, standIns := [], harness := (true, "9361b426797642b0d044aed4e8dc53bffaf12b62842c937263fdc17b40dc27f1"), looks := false }, kinds := [], alts := [], laidByText := true, laidKinds := [.data, .data, .data], laidTests := true, laidLooks := .later }
def FnClassesOrderCardSaid : Prop := Claim7.holds Tryd.pinned (.plain (OpenSpec.ofChange fnClassesOrderSpec)) fnClassesOrderCard

/-- THE SECOND FORM's CARD OF 'laws.FnStateClasses'. -/
def fnStateClassesUptoCard : Claim7 := { stood := { row := fnStateClassesUptoRow, standIns := [], harness := (true, "9361b426797642b0d044aed4e8dc53bffaf12b62842c937263fdc17b40dc27f1"), looks := false }, kinds := [], alts := [], laidByText := true, laidKinds := [.data, .data, .data], laidTests := true, laidLooks := .later }
def FnStateClassesUptoCardSaid : Prop := Claim7.holds Tryd.pinned (.plain (OpenSpec.upto fnStateClassesSpec)) fnStateClassesUptoCard

/-- THE SECOND FORM's CARD OF 'laws.FnClassesNext'. -/
def fnClassesNextUptoCard : Claim7 := { stood := { row := fnClassesNextUptoRow, standIns := [], harness := (true, "9361b426797642b0d044aed4e8dc53bffaf12b62842c937263fdc17b40dc27f1"), looks := false }, kinds := [], alts := [], laidByText := true, laidKinds := [.data, .data, .data], laidTests := true, laidLooks := .later }
def FnClassesNextUptoCardSaid : Prop := Claim7.holds Tryd.pinned (.plain (OpenSpec.upto fnClassesNextSpec)) fnClassesNextUptoCard

/-- THE SECOND FORM's CARD OF 'laws.FnClassesOrder'. -/
def fnClassesOrderUptoCard : Claim7 := { stood := { row := fnClassesOrderUptoRow, standIns := [], harness := (true, "9361b426797642b0d044aed4e8dc53bffaf12b62842c937263fdc17b40dc27f1"), looks := false }, kinds := [], alts := [], laidByText := true, laidKinds := [.data, .data, .data], laidTests := true, laidLooks := .later }
def FnClassesOrderUptoCardSaid : Prop := Claim7.holds Tryd.pinned (.plain (OpenSpec.upto fnClassesOrderSpec)) fnClassesOrderUptoCard
end Rows
end Go.Proofs.YtoboklelbbgcnaaDoor
