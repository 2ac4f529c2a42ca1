/-
  DERIVED. GIVEN WITH THE SEED: THE CARDS: each row of YtnckpafknojdhaaDoorRows.lean that lists a variable, with what it lists TIED to the program's text (the seventh form; the later family's looks); each row that meets fmt, with fmt's text TOLD by the authors' own Lean function (tested against real Go, not proved from fmt's source: count such statements apart). THE CARD IS WHAT COUNTS. Prove the row's statement (the work); the ties are given (YtnckpafknojdhaaDoorTie.lean); close each card by the builder's one call (the guide's Derived/Test/ToyasCard.lean, 'card_holds'). Laid BY PROGRAM, IN A SANDBOX (cutbox-door.mjs). By AI agents, Wed Nov 11 2026. No macro, syntax, notation, axiom, sorry.
-/
import Derived.Test.YtnckpafknojdhaaDoorRows
import GoSem.ClaimSeven
namespace Go.Proofs.YtnckpafknojdhaaDoor
namespace Rows

/-- THE TIED CARD OF 'laws.FnExactParseAutomaton'. -/
def fnExactParseAutomatonCard : Claim7 := { stood := { row := fnExactParseAutomatonRow, standIns := [], harness := (true, "2e47f3cb8ff4ae23ef1e927b027bdbacd3c9380bd1cc0f0d9fa9a63d1b9aa82d"), looks := true }, kinds := [], alts := [], laidByText := true, laidKinds := [.data, .data, .data, .data, .sentinel, .sentinel, .pinned], laidTests := true, laidLooks := .later }
def FnExactParseAutomatonCardSaid : Prop := Claim7.holds Tryd.pinned (.plain (OpenSpec.ofChange fnExactParseAutomatonSpec)) fnExactParseAutomatonCard

/-- THE TIED CARD OF 'laws.FnExactFormatAutomaton'. -/
def fnExactFormatAutomatonCard : Claim7 := { stood := { row := fnExactFormatAutomatonRow, standIns := [], harness := (true, "2e47f3cb8ff4ae23ef1e927b027bdbacd3c9380bd1cc0f0d9fa9a63d1b9aa82d"), looks := true }, kinds := [], alts := [], laidByText := true, laidKinds := [.data, .data, .data], laidTests := true, laidLooks := .later }
def FnExactFormatAutomatonCardSaid : Prop := Claim7.holds Tryd.pinned (.plain (OpenSpec.ofChange fnExactFormatAutomatonSpec)) fnExactFormatAutomatonCard

/-- THE TIED CARD OF 'laws.FnExactMinimizeAutomaton'. -/
def fnExactMinimizeAutomatonCard : Claim7 := { stood := { row := fnExactMinimizeAutomatonRow, standIns := [], harness := (true, "2e47f3cb8ff4ae23ef1e927b027bdbacd3c9380bd1cc0f0d9fa9a63d1b9aa82d"), looks := true }, kinds := [], alts := [], laidByText := true, laidKinds := [.data, .data, .data], laidTests := true, laidLooks := .later }
def FnExactMinimizeAutomatonCardSaid : Prop := Claim7.holds Tryd.pinned (.plain (OpenSpec.ofChange fnExactMinimizeAutomatonSpec)) fnExactMinimizeAutomatonCard

/-- THE SECOND FORM's CARD OF 'laws.FnExactParseAutomaton'. -/
def fnExactParseAutomatonUptoCard : Claim7 := { stood := { row := fnExactParseAutomatonUptoRow, standIns := [], harness := (true, "2e47f3cb8ff4ae23ef1e927b027bdbacd3c9380bd1cc0f0d9fa9a63d1b9aa82d"), looks := true }, kinds := [], alts := [], laidByText := true, laidKinds := [.data, .data, .data, .data, .sentinel, .sentinel, .pinned], laidTests := true, laidLooks := .later }
def FnExactParseAutomatonUptoCardSaid : Prop := Claim7.holds Tryd.pinned (.plain (OpenSpec.upto fnExactParseAutomatonSpec)) fnExactParseAutomatonUptoCard

/-- THE SECOND FORM's CARD OF 'laws.FnExactFormatAutomaton'. -/
def fnExactFormatAutomatonUptoCard : Claim7 := { stood := { row := fnExactFormatAutomatonUptoRow, standIns := [], harness := (true, "2e47f3cb8ff4ae23ef1e927b027bdbacd3c9380bd1cc0f0d9fa9a63d1b9aa82d"), looks := true }, kinds := [], alts := [], laidByText := true, laidKinds := [.data, .data, .data], laidTests := true, laidLooks := .later }
def FnExactFormatAutomatonUptoCardSaid : Prop := Claim7.holds Tryd.pinned (.plain (OpenSpec.upto fnExactFormatAutomatonSpec)) fnExactFormatAutomatonUptoCard

/-- THE SECOND FORM's CARD OF 'laws.FnExactMinimizeAutomaton'. -/
def fnExactMinimizeAutomatonUptoCard : Claim7 := { stood := { row := fnExactMinimizeAutomatonUptoRow, standIns := [], harness := (true, "2e47f3cb8ff4ae23ef1e927b027bdbacd3c9380bd1cc0f0d9fa9a63d1b9aa82d"), looks := true }, kinds := [], alts := [], laidByText := true, laidKinds := [.data, .data, .data], laidTests := true, laidLooks := .later }
def FnExactMinimizeAutomatonUptoCardSaid : Prop := Claim7.holds Tryd.pinned (.plain (OpenSpec.upto fnExactMinimizeAutomatonSpec)) fnExactMinimizeAutomatonUptoCard
end Rows
end Go.Proofs.YtnckpafknojdhaaDoor
