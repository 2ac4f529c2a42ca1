/-
  DERIVED. GIVEN WITH THE SEED: THE CARDS: each row of YtdkdpmmfebdeaaaDoorRows.lean that lists a variable, with what it lists TIED to the program's text (the seventh form; the later family's looks); each row that meets fmt, with fmt's text TOLD by the authors' own Lean function (tested against real Go, not proved from fmt's source: count such statements apart). THE CARD IS WHAT COUNTS. Prove the row's statement (the work); the ties are given (YtdkdpmmfebdeaaaDoorTie.lean); close each card by the builder's one call (the guide's Derived/Test/ToyasCard.lean, 'card_holds'). Laid BY PROGRAM, IN A SANDBOX (cutbox-door.mjs). By AI agents, Wed Nov 11 2026. No macro, syntax, notation, axiom, sorry.
-/
import Derived.Test.YtdkdpmmfebdeaaaDoorRows
import GoSem.ClaimSeven
namespace Go.Proofs.YtdkdpmmfebdeaaaDoor
namespace Rows

/-- THE TIED CARD OF 'laws.FnExactStateClasses'. -/
def fnExactStateClassesCard : Claim7 := { stood := { row := fnExactStateClassesRow, standIns := [], harness := (true, "3fd534f7f0819dede0cc8db5aa235d6873401e2d6513d0e38e04d5b6d104d5d5"), looks := false }, kinds := [], alts := [], laidByText := true, laidKinds := [.data, .data, .data], laidTests := true, laidLooks := .later }
def FnExactStateClassesCardSaid : Prop := Claim7.holds Tryd.pinned (.plain (OpenSpec.ofChange fnExactStateClassesSpec)) fnExactStateClassesCard

/-- THE TIED CARD OF 'laws.FnExactIsMinimal'. -/
def fnExactIsMinimalCard : Claim7 := { stood := { row := fnExactIsMinimalRow, standIns := [], harness := (true, "3fd534f7f0819dede0cc8db5aa235d6873401e2d6513d0e38e04d5b6d104d5d5"), looks := false }, kinds := [], alts := [], laidByText := true, laidKinds := [.data, .data, .data], laidTests := true, laidLooks := .later }
def FnExactIsMinimalCardSaid : Prop := Claim7.holds Tryd.pinned (.plain (OpenSpec.ofChange fnExactIsMinimalSpec)) fnExactIsMinimalCard

/-- THE SECOND FORM's CARD OF 'laws.FnExactStateClasses'. -/
def fnExactStateClassesUptoCard : Claim7 := { stood := { row := fnExactStateClassesUptoRow, standIns := [], harness := (true, "3fd534f7f0819dede0cc8db5aa235d6873401e2d6513d0e38e04d5b6d104d5d5"), looks := false }, kinds := [], alts := [], laidByText := true, laidKinds := [.data, .data, .data], laidTests := true, laidLooks := .later }
def FnExactStateClassesUptoCardSaid : Prop := Claim7.holds Tryd.pinned (.plain (OpenSpec.upto fnExactStateClassesSpec)) fnExactStateClassesUptoCard

/-- THE SECOND FORM's CARD OF 'laws.FnExactIsMinimal'. -/
def fnExactIsMinimalUptoCard : Claim7 := { stood := { row := fnExactIsMinimalUptoRow, standIns := [], harness := (true, "3fd534f7f0819dede0cc8db5aa235d6873401e2d6513d0e38e04d5b6d104d5d5"), looks := false }, kinds := [], alts := [], laidByText := true, laidKinds := [.data, .data, .data], laidTests := true, laidLooks := .later }
def FnExactIsMinimalUptoCardSaid : Prop := Claim7.holds Tryd.pinned (.plain (OpenSpec.upto fnExactIsMinimalSpec)) fnExactIsMinimalUptoCard
end Rows
end Go.Proofs.YtdkdpmmfebdeaaaDoor
