/-
  No cell of these rows narrows 'for every input' (looked for: loops, veiled, ifaces, maps, wideKeys, modest, calm, conditions, laid).
  DERIVED. THE GIVEN ROWS OF THIS SEAT. 10 by the template 'for every input the law returns true; each argument reads behind the call as it read before'; 0 by the template 'total and deterministic' (their statements: YtdkdpmmfebdeaaaTotals.lean).
  GIVEN WITH THE SEED: the statements are not yours to turn. If you find one false, say at which input.
  Laid BY PROGRAM, IN A SANDBOX (cutbox-rows.mjs): the forced cells as the released guide's own fill.sh prints them over the translation 3301509506276272… (all of the seat's roots in one cut). By AI agents, Wed Nov 11 2026. No macro, syntax, notation, axiom, sorry.
-/
import Derived.Test.YtdkdpmmfebdeaaaChecked
import GoSem.Claim
import GoSem.ClaimJoined
import GoSem.ClaimMapViews
import Derived.JoinedTies
import Derived.KernelRfl
namespace Go.Proofs.Ytdkdpmmfebdeaaa
/- THE CELL 'sum', in the pinned program and in every row, IS THE sha256 OF THE DUMP (.gsa) THAT YtdkdpmmfebdeaaaProg.lean LOADS. Nothing in Lean hashes anything: it is a label: what it is worth is what the hold of that sum in a sandbox is worth. -/
noncomputable def Try.pinned : Pinned := { name := "ytdkdpmmfebdeaaa", sum := "33015095062762724ce93d958dab245cb1130449348265ec5ec33be144da3805", checked := Try.checked }
namespace Rows
def none {H : Type} : Left H := { results := [], args := [] }

/-- 'laws.FnExactTrimAutomaton': WHATEVER THE INPUT: true; the input reads as it did. -/
def fnExactTrimAutomatonSpec : ChangeSpec := { name := "fnExactTrimAutomaton", fn := fun _ => fun
  | [d] => { results := [.lit (.bool true)], args := [d] }
  | _ => none }
def fnExactTrimAutomatonRow : OpenClaim := { program := "ytdkdpmmfebdeaaa", sum := "33015095062762724ce93d958dab245cb1130449348265ec5ec33be144da3805", func := "loop.example/assumeguarantee/laws.FnExactTrimAutomaton", spec := "fnExactTrimAutomaton", unfollowed := true, recurses := true, apart := false }
def FnExactTrimAutomatonSaid : Prop := fnExactTrimAutomatonRow.holds Try.pinned (OpenSpec.ofChange fnExactTrimAutomatonSpec)

/-- ITS FALSE NEIGHBOUR: 'it returns false'. Refute it at one input. -/
def fnExactTrimAutomatonWrong : ChangeSpec := { name := "fnExactTrimAutomaton", fn := fun _ => fun
  | [d] => { results := [.lit (.bool false)], args := [d] }
  | _ => none }
def FnExactTrimAutomatonWrongFalsely : Prop := fnExactTrimAutomatonRow.holds Try.pinned (OpenSpec.ofChange fnExactTrimAutomatonWrong)

/-- 'laws.FnExactProductAutomaton': WHATEVER THE INPUT: true; the input reads as it did. -/
def fnExactProductAutomatonSpec : ChangeSpec := { name := "fnExactProductAutomaton", fn := fun _ => fun
  | [d1, d2, d3] => { results := [.lit (.bool true)], args := [d1, d2, d3] }
  | _ => none }
def fnExactProductAutomatonRow : OpenClaim := { program := "ytdkdpmmfebdeaaa", sum := "33015095062762724ce93d958dab245cb1130449348265ec5ec33be144da3805", func := "loop.example/assumeguarantee/laws.FnExactProductAutomaton", spec := "fnExactProductAutomaton", unfollowed := true, recurses := true, apart := false }
def FnExactProductAutomatonSaid : Prop := fnExactProductAutomatonRow.holds Try.pinned (OpenSpec.ofChange fnExactProductAutomatonSpec)

/-- ITS FALSE NEIGHBOUR: 'it returns false'. Refute it at one input. -/
def fnExactProductAutomatonWrong : ChangeSpec := { name := "fnExactProductAutomaton", fn := fun _ => fun
  | [d1, d2, d3] => { results := [.lit (.bool false)], args := [d1, d2, d3] }
  | _ => none }
def FnExactProductAutomatonWrongFalsely : Prop := fnExactProductAutomatonRow.holds Try.pinned (OpenSpec.ofChange fnExactProductAutomatonWrong)

/-- 'laws.FnExactFirstAccepted': WHATEVER THE INPUT: true; the input reads as it did. -/
def fnExactFirstAcceptedSpec : ChangeSpec := { name := "fnExactFirstAccepted", fn := fun _ => fun
  | [d] => { results := [.lit (.bool true)], args := [d] }
  | _ => none }
def fnExactFirstAcceptedRow : OpenClaim := { program := "ytdkdpmmfebdeaaa", sum := "33015095062762724ce93d958dab245cb1130449348265ec5ec33be144da3805", func := "loop.example/assumeguarantee/laws.FnExactFirstAccepted", spec := "fnExactFirstAccepted", unfollowed := true, recurses := true, apart := false }
def FnExactFirstAcceptedSaid : Prop := fnExactFirstAcceptedRow.holds Try.pinned (OpenSpec.ofChange fnExactFirstAcceptedSpec)

/-- ITS FALSE NEIGHBOUR: 'it returns false'. Refute it at one input. -/
def fnExactFirstAcceptedWrong : ChangeSpec := { name := "fnExactFirstAccepted", fn := fun _ => fun
  | [d] => { results := [.lit (.bool false)], args := [d] }
  | _ => none }
def FnExactFirstAcceptedWrongFalsely : Prop := fnExactFirstAcceptedRow.holds Try.pinned (OpenSpec.ofChange fnExactFirstAcceptedWrong)

/-- 'laws.FnExactAccessWord': WHATEVER THE INPUT: true; the input reads as it did. -/
def fnExactAccessWordSpec : ChangeSpec := { name := "fnExactAccessWord", fn := fun _ => fun
  | [d1, d2] => { results := [.lit (.bool true)], args := [d1, d2] }
  | _ => none }
def fnExactAccessWordRow : OpenClaim := { program := "ytdkdpmmfebdeaaa", sum := "33015095062762724ce93d958dab245cb1130449348265ec5ec33be144da3805", func := "loop.example/assumeguarantee/laws.FnExactAccessWord", spec := "fnExactAccessWord", unfollowed := true, recurses := true, apart := false }
def FnExactAccessWordSaid : Prop := fnExactAccessWordRow.holds Try.pinned (OpenSpec.ofChange fnExactAccessWordSpec)

/-- ITS FALSE NEIGHBOUR: 'it returns false'. Refute it at one input. -/
def fnExactAccessWordWrong : ChangeSpec := { name := "fnExactAccessWord", fn := fun _ => fun
  | [d1, d2] => { results := [.lit (.bool false)], args := [d1, d2] }
  | _ => none }
def FnExactAccessWordWrongFalsely : Prop := fnExactAccessWordRow.holds Try.pinned (OpenSpec.ofChange fnExactAccessWordWrong)

/-- 'laws.FnExactSplitStates': WHATEVER THE INPUT: true; the input reads as it did. -/
def fnExactSplitStatesSpec : ChangeSpec := { name := "fnExactSplitStates", fn := fun _ => fun
  | [d1, d2, d3] => { results := [.lit (.bool true)], args := [d1, d2, d3] }
  | _ => none }
def fnExactSplitStatesRow : OpenClaim := { program := "ytdkdpmmfebdeaaa", sum := "33015095062762724ce93d958dab245cb1130449348265ec5ec33be144da3805", func := "loop.example/assumeguarantee/laws.FnExactSplitStates", spec := "fnExactSplitStates", unfollowed := true, recurses := true, apart := false }
def FnExactSplitStatesSaid : Prop := fnExactSplitStatesRow.holds Try.pinned (OpenSpec.ofChange fnExactSplitStatesSpec)

/-- ITS FALSE NEIGHBOUR: 'it returns false'. Refute it at one input. -/
def fnExactSplitStatesWrong : ChangeSpec := { name := "fnExactSplitStates", fn := fun _ => fun
  | [d1, d2, d3] => { results := [.lit (.bool false)], args := [d1, d2, d3] }
  | _ => none }
def FnExactSplitStatesWrongFalsely : Prop := fnExactSplitStatesRow.holds Try.pinned (OpenSpec.ofChange fnExactSplitStatesWrong)

/-- 'laws.FnExactDifferOf': WHATEVER THE INPUT: true; the input reads as it did. -/
def fnExactDifferOfSpec : ChangeSpec := { name := "fnExactDifferOf", fn := fun _ => fun
  | [d1, d2] => { results := [.lit (.bool true)], args := [d1, d2] }
  | _ => none }
def fnExactDifferOfRow : OpenClaim := { program := "ytdkdpmmfebdeaaa", sum := "33015095062762724ce93d958dab245cb1130449348265ec5ec33be144da3805", func := "loop.example/assumeguarantee/laws.FnExactDifferOf", spec := "fnExactDifferOf", unfollowed := true, recurses := true, apart := false }
def FnExactDifferOfSaid : Prop := fnExactDifferOfRow.holds Try.pinned (OpenSpec.ofChange fnExactDifferOfSpec)

/-- ITS FALSE NEIGHBOUR: 'it returns false'. Refute it at one input. -/
def fnExactDifferOfWrong : ChangeSpec := { name := "fnExactDifferOf", fn := fun _ => fun
  | [d1, d2] => { results := [.lit (.bool false)], args := [d1, d2] }
  | _ => none }
def FnExactDifferOfWrongFalsely : Prop := fnExactDifferOfRow.holds Try.pinned (OpenSpec.ofChange fnExactDifferOfWrong)

/-- 'laws.FnExactFirstOutside': WHATEVER THE INPUT: true; the input reads as it did. -/
def fnExactFirstOutsideSpec : ChangeSpec := { name := "fnExactFirstOutside", fn := fun _ => fun
  | [d1, d2] => { results := [.lit (.bool true)], args := [d1, d2] }
  | _ => none }
def fnExactFirstOutsideRow : OpenClaim := { program := "ytdkdpmmfebdeaaa", sum := "33015095062762724ce93d958dab245cb1130449348265ec5ec33be144da3805", func := "loop.example/assumeguarantee/laws.FnExactFirstOutside", spec := "fnExactFirstOutside", unfollowed := true, recurses := true, apart := false }
def FnExactFirstOutsideSaid : Prop := fnExactFirstOutsideRow.holds Try.pinned (OpenSpec.ofChange fnExactFirstOutsideSpec)

/-- ITS FALSE NEIGHBOUR: 'it returns false'. Refute it at one input. -/
def fnExactFirstOutsideWrong : ChangeSpec := { name := "fnExactFirstOutside", fn := fun _ => fun
  | [d1, d2] => { results := [.lit (.bool false)], args := [d1, d2] }
  | _ => none }
def FnExactFirstOutsideWrongFalsely : Prop := fnExactFirstOutsideRow.holds Try.pinned (OpenSpec.ofChange fnExactFirstOutsideWrong)

/-- 'laws.FnExactLanguageWithin': WHATEVER THE INPUT: true; the input reads as it did. -/
def fnExactLanguageWithinSpec : ChangeSpec := { name := "fnExactLanguageWithin", fn := fun _ => fun
  | [d1, d2] => { results := [.lit (.bool true)], args := [d1, d2] }
  | _ => none }
def fnExactLanguageWithinRow : OpenClaim := { program := "ytdkdpmmfebdeaaa", sum := "33015095062762724ce93d958dab245cb1130449348265ec5ec33be144da3805", func := "loop.example/assumeguarantee/laws.FnExactLanguageWithin", spec := "fnExactLanguageWithin", unfollowed := true, recurses := true, apart := false }
def FnExactLanguageWithinSaid : Prop := fnExactLanguageWithinRow.holds Try.pinned (OpenSpec.ofChange fnExactLanguageWithinSpec)

/-- ITS FALSE NEIGHBOUR: 'it returns false'. Refute it at one input. -/
def fnExactLanguageWithinWrong : ChangeSpec := { name := "fnExactLanguageWithin", fn := fun _ => fun
  | [d1, d2] => { results := [.lit (.bool false)], args := [d1, d2] }
  | _ => none }
def FnExactLanguageWithinWrongFalsely : Prop := fnExactLanguageWithinRow.holds Try.pinned (OpenSpec.ofChange fnExactLanguageWithinWrong)

/-- 'laws.FnExactSameLanguage': WHATEVER THE INPUT: true; the input reads as it did. -/
def fnExactSameLanguageSpec : ChangeSpec := { name := "fnExactSameLanguage", fn := fun _ => fun
  | [d1, d2] => { results := [.lit (.bool true)], args := [d1, d2] }
  | _ => none }
def fnExactSameLanguageRow : OpenClaim := { program := "ytdkdpmmfebdeaaa", sum := "33015095062762724ce93d958dab245cb1130449348265ec5ec33be144da3805", func := "loop.example/assumeguarantee/laws.FnExactSameLanguage", spec := "fnExactSameLanguage", unfollowed := true, recurses := true, apart := false }
def FnExactSameLanguageSaid : Prop := fnExactSameLanguageRow.holds Try.pinned (OpenSpec.ofChange fnExactSameLanguageSpec)

/-- ITS FALSE NEIGHBOUR: 'it returns false'. Refute it at one input. -/
def fnExactSameLanguageWrong : ChangeSpec := { name := "fnExactSameLanguage", fn := fun _ => fun
  | [d1, d2] => { results := [.lit (.bool false)], args := [d1, d2] }
  | _ => none }
def FnExactSameLanguageWrongFalsely : Prop := fnExactSameLanguageRow.holds Try.pinned (OpenSpec.ofChange fnExactSameLanguageWrong)

/-- 'laws.FnExactIsPrefixClosed': WHATEVER THE INPUT: true; the input reads as it did. -/
def fnExactIsPrefixClosedSpec : ChangeSpec := { name := "fnExactIsPrefixClosed", fn := fun _ => fun
  | [d] => { results := [.lit (.bool true)], args := [d] }
  | _ => none }
def fnExactIsPrefixClosedRow : OpenClaim := { program := "ytdkdpmmfebdeaaa", sum := "33015095062762724ce93d958dab245cb1130449348265ec5ec33be144da3805", func := "loop.example/assumeguarantee/laws.FnExactIsPrefixClosed", spec := "fnExactIsPrefixClosed", unfollowed := true, recurses := true, apart := false }
def FnExactIsPrefixClosedSaid : Prop := fnExactIsPrefixClosedRow.holds Try.pinned (OpenSpec.ofChange fnExactIsPrefixClosedSpec)

/-- ITS FALSE NEIGHBOUR: 'it returns false'. Refute it at one input. -/
def fnExactIsPrefixClosedWrong : ChangeSpec := { name := "fnExactIsPrefixClosed", fn := fun _ => fun
  | [d] => { results := [.lit (.bool false)], args := [d] }
  | _ => none }
def FnExactIsPrefixClosedWrongFalsely : Prop := fnExactIsPrefixClosedRow.holds Try.pinned (OpenSpec.ofChange fnExactIsPrefixClosedWrong)

/- THE SECOND FORM. 'bulk': how many values and letters a reading holds, each counted each time it is reached (what is shared counts as often as it is met; a slice's spare places count too). A statement '..UptoSaid' is the law's where the arguments, and the package variables that the reading takes, are together of bulk at most 1048576: NARROWER than '..Said'. Prove '..Said' where nothing that the law and all that it calls make is longer than what came in: it says more and counts as full. Else prove '..UptoSaid'. A law counts once. -/
mutual
def uptoBulk {H : Type} : DataW H → Nat
  | .lit (.string bytes) => bytes.length + 1
  | .lit _ => 1
  | .nil => 1
  | .ptr d => uptoBulk d + 1
  | .slice elems spare => uptoBulkAll elems + uptoBulkAll spare + 1
  | .agg parts => uptoBulkAll parts + 1
  | .iface _ d => uptoBulk d + 1
  | .map entries => uptoBulkEntries entries + 1
  | .held _ => 1
def uptoBulkAll {H : Type} : List (DataW H) → Nat
  | [] => 0
  | d :: r => uptoBulk d + uptoBulkAll r
def uptoBulkEntries {H : Type} : List (Lit × DataW H) → Nat
  | [] => 0
  | x :: r => uptoBulkEntry x + uptoBulkEntries r
def uptoBulkEntry {H : Type} : Lit × DataW H → Nat
  | (.string bytes, d) => bytes.length + uptoBulk d + 1
  | (_, d) => uptoBulk d + 1
 end
def uptoSmall : (H : Type) → List (DataW H) → Bool := fun _ ds => decide (uptoBulkAll ds ≤ 1048576)
def OpenSpec.upto (s : _root_.Go.ChangeSpec) : _root_.Go.OpenSpec := { _root_.Go.OpenSpec.ofChange s with cond := some uptoSmall }

/-- 'laws.FnExactTrimAutomaton', WHERE WHAT IT READS IS OF BULK AT MOST 1048576: true; the input reads as it did. -/
def fnExactTrimAutomatonUptoRow : OpenClaim := { program := "ytdkdpmmfebdeaaa", sum := "33015095062762724ce93d958dab245cb1130449348265ec5ec33be144da3805", func := "loop.example/assumeguarantee/laws.FnExactTrimAutomaton", spec := "fnExactTrimAutomaton", unfollowed := true, recurses := true, apart := false, narrowed := true }
def FnExactTrimAutomatonUptoSaid : Prop := fnExactTrimAutomatonUptoRow.holds Try.pinned (OpenSpec.upto fnExactTrimAutomatonSpec)

/-- 'laws.FnExactProductAutomaton', WHERE WHAT IT READS IS OF BULK AT MOST 1048576: true; the input reads as it did. -/
def fnExactProductAutomatonUptoRow : OpenClaim := { program := "ytdkdpmmfebdeaaa", sum := "33015095062762724ce93d958dab245cb1130449348265ec5ec33be144da3805", func := "loop.example/assumeguarantee/laws.FnExactProductAutomaton", spec := "fnExactProductAutomaton", unfollowed := true, recurses := true, apart := false, narrowed := true }
def FnExactProductAutomatonUptoSaid : Prop := fnExactProductAutomatonUptoRow.holds Try.pinned (OpenSpec.upto fnExactProductAutomatonSpec)

/-- 'laws.FnExactFirstAccepted', WHERE WHAT IT READS IS OF BULK AT MOST 1048576: true; the input reads as it did. -/
def fnExactFirstAcceptedUptoRow : OpenClaim := { program := "ytdkdpmmfebdeaaa", sum := "33015095062762724ce93d958dab245cb1130449348265ec5ec33be144da3805", func := "loop.example/assumeguarantee/laws.FnExactFirstAccepted", spec := "fnExactFirstAccepted", unfollowed := true, recurses := true, apart := false, narrowed := true }
def FnExactFirstAcceptedUptoSaid : Prop := fnExactFirstAcceptedUptoRow.holds Try.pinned (OpenSpec.upto fnExactFirstAcceptedSpec)

/-- 'laws.FnExactAccessWord', WHERE WHAT IT READS IS OF BULK AT MOST 1048576: true; the input reads as it did. -/
def fnExactAccessWordUptoRow : OpenClaim := { program := "ytdkdpmmfebdeaaa", sum := "33015095062762724ce93d958dab245cb1130449348265ec5ec33be144da3805", func := "loop.example/assumeguarantee/laws.FnExactAccessWord", spec := "fnExactAccessWord", unfollowed := true, recurses := true, apart := false, narrowed := true }
def FnExactAccessWordUptoSaid : Prop := fnExactAccessWordUptoRow.holds Try.pinned (OpenSpec.upto fnExactAccessWordSpec)

/-- 'laws.FnExactSplitStates', WHERE WHAT IT READS IS OF BULK AT MOST 1048576: true; the input reads as it did. -/
def fnExactSplitStatesUptoRow : OpenClaim := { program := "ytdkdpmmfebdeaaa", sum := "33015095062762724ce93d958dab245cb1130449348265ec5ec33be144da3805", func := "loop.example/assumeguarantee/laws.FnExactSplitStates", spec := "fnExactSplitStates", unfollowed := true, recurses := true, apart := false, narrowed := true }
def FnExactSplitStatesUptoSaid : Prop := fnExactSplitStatesUptoRow.holds Try.pinned (OpenSpec.upto fnExactSplitStatesSpec)

/-- 'laws.FnExactDifferOf', WHERE WHAT IT READS IS OF BULK AT MOST 1048576: true; the input reads as it did. -/
def fnExactDifferOfUptoRow : OpenClaim := { program := "ytdkdpmmfebdeaaa", sum := "33015095062762724ce93d958dab245cb1130449348265ec5ec33be144da3805", func := "loop.example/assumeguarantee/laws.FnExactDifferOf", spec := "fnExactDifferOf", unfollowed := true, recurses := true, apart := false, narrowed := true }
def FnExactDifferOfUptoSaid : Prop := fnExactDifferOfUptoRow.holds Try.pinned (OpenSpec.upto fnExactDifferOfSpec)

/-- 'laws.FnExactFirstOutside', WHERE WHAT IT READS IS OF BULK AT MOST 1048576: true; the input reads as it did. -/
def fnExactFirstOutsideUptoRow : OpenClaim := { program := "ytdkdpmmfebdeaaa", sum := "33015095062762724ce93d958dab245cb1130449348265ec5ec33be144da3805", func := "loop.example/assumeguarantee/laws.FnExactFirstOutside", spec := "fnExactFirstOutside", unfollowed := true, recurses := true, apart := false, narrowed := true }
def FnExactFirstOutsideUptoSaid : Prop := fnExactFirstOutsideUptoRow.holds Try.pinned (OpenSpec.upto fnExactFirstOutsideSpec)

/-- 'laws.FnExactLanguageWithin', WHERE WHAT IT READS IS OF BULK AT MOST 1048576: true; the input reads as it did. -/
def fnExactLanguageWithinUptoRow : OpenClaim := { program := "ytdkdpmmfebdeaaa", sum := "33015095062762724ce93d958dab245cb1130449348265ec5ec33be144da3805", func := "loop.example/assumeguarantee/laws.FnExactLanguageWithin", spec := "fnExactLanguageWithin", unfollowed := true, recurses := true, apart := false, narrowed := true }
def FnExactLanguageWithinUptoSaid : Prop := fnExactLanguageWithinUptoRow.holds Try.pinned (OpenSpec.upto fnExactLanguageWithinSpec)

/-- 'laws.FnExactSameLanguage', WHERE WHAT IT READS IS OF BULK AT MOST 1048576: true; the input reads as it did. -/
def fnExactSameLanguageUptoRow : OpenClaim := { program := "ytdkdpmmfebdeaaa", sum := "33015095062762724ce93d958dab245cb1130449348265ec5ec33be144da3805", func := "loop.example/assumeguarantee/laws.FnExactSameLanguage", spec := "fnExactSameLanguage", unfollowed := true, recurses := true, apart := false, narrowed := true }
def FnExactSameLanguageUptoSaid : Prop := fnExactSameLanguageUptoRow.holds Try.pinned (OpenSpec.upto fnExactSameLanguageSpec)

/-- 'laws.FnExactIsPrefixClosed', WHERE WHAT IT READS IS OF BULK AT MOST 1048576: true; the input reads as it did. -/
def fnExactIsPrefixClosedUptoRow : OpenClaim := { program := "ytdkdpmmfebdeaaa", sum := "33015095062762724ce93d958dab245cb1130449348265ec5ec33be144da3805", func := "loop.example/assumeguarantee/laws.FnExactIsPrefixClosed", spec := "fnExactIsPrefixClosed", unfollowed := true, recurses := true, apart := false, narrowed := true }
def FnExactIsPrefixClosedUptoSaid : Prop := fnExactIsPrefixClosedUptoRow.holds Try.pinned (OpenSpec.upto fnExactIsPrefixClosedSpec)

end Rows
end Go.Proofs.Ytdkdpmmfebdeaaa
