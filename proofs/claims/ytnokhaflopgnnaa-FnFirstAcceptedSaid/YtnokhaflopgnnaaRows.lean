/-
  No cell of these rows narrows 'for every input' (looked for: loops, veiled, ifaces, maps, wideKeys, modest, calm, conditions, laid).
  DERIVED. THE GIVEN ROWS OF THIS SEAT. 12 by the template 'for every input the law returns true; each argument reads behind the call as it read before'; 0 by the template 'total and deterministic' (their statements: YtnokhaflopgnnaaTotals.lean).
  GIVEN WITH THE SEED: the statements are not yours to turn. If you find one false, say at which input.
  Laid BY PROGRAM, IN A SANDBOX (cutbox-rows.mjs): the forced cells as the released guide's own fill.sh prints them over the translation ab5f0d1ca8a830e3… (all of the seat's roots in one cut). By AI agents, Wed Nov 11 2026. No macro, syntax, notation, axiom, sorry.
-/
import Derived.Test.YtnokhaflopgnnaaChecked
import GoSem.Claim
import GoSem.ClaimJoined
import GoSem.ClaimMapViews
import Derived.JoinedTies
import Derived.KernelRfl
namespace Go.Proofs.Ytnokhaflopgnnaa
/- THE CELL 'sum', in the pinned program and in every row, IS THE sha256 OF THE DUMP (.gsa) THAT YtnokhaflopgnnaaProg.lean LOADS. Nothing in Lean hashes anything: it is a label: what it is worth is what the hold of that sum in a sandbox is worth. -/
noncomputable def Try.pinned : Pinned := { name := "ytnokhaflopgnnaa", sum := "ab5f0d1ca8a830e3e2352e9938d8987e9fa6d721b14d96c22f0c9fa529b6ee36", checked := Try.checked }
namespace Rows
def none {H : Type} : Left H := { results := [], args := [] }

/-- 'laws.FnDifferLeast': WHATEVER THE INPUT: true; the input reads as it did. -/
def fnDifferLeastSpec : ChangeSpec := { name := "fnDifferLeast", fn := fun _ => fun
  | [d1, d2] => { results := [.lit (.bool true)], args := [d1, d2] }
  | _ => none }
def fnDifferLeastRow : OpenClaim := { program := "ytnokhaflopgnnaa", sum := "ab5f0d1ca8a830e3e2352e9938d8987e9fa6d721b14d96c22f0c9fa529b6ee36", func := "loop.example/assumeguarantee/laws.FnDifferLeast", spec := "fnDifferLeast", unfollowed := true, recurses := true, apart := false }
def FnDifferLeastSaid : Prop := fnDifferLeastRow.holds Try.pinned (OpenSpec.ofChange fnDifferLeastSpec)

/-- ITS FALSE NEIGHBOUR: 'it returns false'. Refute it at one input. -/
def fnDifferLeastWrong : ChangeSpec := { name := "fnDifferLeast", fn := fun _ => fun
  | [d1, d2] => { results := [.lit (.bool false)], args := [d1, d2] }
  | _ => none }
def FnDifferLeastWrongFalsely : Prop := fnDifferLeastRow.holds Try.pinned (OpenSpec.ofChange fnDifferLeastWrong)

/-- 'laws.FnAccessLeast': WHATEVER THE INPUT: true; the input reads as it did. -/
def fnAccessLeastSpec : ChangeSpec := { name := "fnAccessLeast", fn := fun _ => fun
  | [d] => { results := [.lit (.bool true)], args := [d] }
  | _ => none }
def fnAccessLeastRow : OpenClaim := { program := "ytnokhaflopgnnaa", sum := "ab5f0d1ca8a830e3e2352e9938d8987e9fa6d721b14d96c22f0c9fa529b6ee36", func := "loop.example/assumeguarantee/laws.FnAccessLeast", spec := "fnAccessLeast", unfollowed := true, recurses := true, apart := false }
def FnAccessLeastSaid : Prop := fnAccessLeastRow.holds Try.pinned (OpenSpec.ofChange fnAccessLeastSpec)

/-- ITS FALSE NEIGHBOUR: 'it returns false'. Refute it at one input. -/
def fnAccessLeastWrong : ChangeSpec := { name := "fnAccessLeast", fn := fun _ => fun
  | [d] => { results := [.lit (.bool false)], args := [d] }
  | _ => none }
def FnAccessLeastWrongFalsely : Prop := fnAccessLeastRow.holds Try.pinned (OpenSpec.ofChange fnAccessLeastWrong)

/-- 'laws.FnAccessPrefix': WHATEVER THE INPUT: true; the input reads as it did. -/
def fnAccessPrefixSpec : ChangeSpec := { name := "fnAccessPrefix", fn := fun _ => fun
  | [d] => { results := [.lit (.bool true)], args := [d] }
  | _ => none }
def fnAccessPrefixRow : OpenClaim := { program := "ytnokhaflopgnnaa", sum := "ab5f0d1ca8a830e3e2352e9938d8987e9fa6d721b14d96c22f0c9fa529b6ee36", func := "loop.example/assumeguarantee/laws.FnAccessPrefix", spec := "fnAccessPrefix", unfollowed := true, recurses := true, apart := false }
def FnAccessPrefixSaid : Prop := fnAccessPrefixRow.holds Try.pinned (OpenSpec.ofChange fnAccessPrefixSpec)

/-- ITS FALSE NEIGHBOUR: 'it returns false'. Refute it at one input. -/
def fnAccessPrefixWrong : ChangeSpec := { name := "fnAccessPrefix", fn := fun _ => fun
  | [d] => { results := [.lit (.bool false)], args := [d] }
  | _ => none }
def FnAccessPrefixWrongFalsely : Prop := fnAccessPrefixRow.holds Try.pinned (OpenSpec.ofChange fnAccessPrefixWrong)

/-- 'laws.FnAccessWord': WHATEVER THE INPUT: true; the input reads as it did. -/
def fnAccessWordSpec : ChangeSpec := { name := "fnAccessWord", fn := fun _ => fun
  | [d] => { results := [.lit (.bool true)], args := [d] }
  | _ => none }
def fnAccessWordRow : OpenClaim := { program := "ytnokhaflopgnnaa", sum := "ab5f0d1ca8a830e3e2352e9938d8987e9fa6d721b14d96c22f0c9fa529b6ee36", func := "loop.example/assumeguarantee/laws.FnAccessWord", spec := "fnAccessWord", unfollowed := true, recurses := true, apart := false }
def FnAccessWordSaid : Prop := fnAccessWordRow.holds Try.pinned (OpenSpec.ofChange fnAccessWordSpec)

/-- ITS FALSE NEIGHBOUR: 'it returns false'. Refute it at one input. -/
def fnAccessWordWrong : ChangeSpec := { name := "fnAccessWord", fn := fun _ => fun
  | [d] => { results := [.lit (.bool false)], args := [d] }
  | _ => none }
def FnAccessWordWrongFalsely : Prop := fnAccessWordRow.holds Try.pinned (OpenSpec.ofChange fnAccessWordWrong)

/-- 'laws.FnDifferShort': WHATEVER THE INPUT: true; the input reads as it did. -/
def fnDifferShortSpec : ChangeSpec := { name := "fnDifferShort", fn := fun _ => fun
  | [d] => { results := [.lit (.bool true)], args := [d] }
  | _ => none }
def fnDifferShortRow : OpenClaim := { program := "ytnokhaflopgnnaa", sum := "ab5f0d1ca8a830e3e2352e9938d8987e9fa6d721b14d96c22f0c9fa529b6ee36", func := "loop.example/assumeguarantee/laws.FnDifferShort", spec := "fnDifferShort", unfollowed := true, recurses := true, apart := false }
def FnDifferShortSaid : Prop := fnDifferShortRow.holds Try.pinned (OpenSpec.ofChange fnDifferShortSpec)

/-- ITS FALSE NEIGHBOUR: 'it returns false'. Refute it at one input. -/
def fnDifferShortWrong : ChangeSpec := { name := "fnDifferShort", fn := fun _ => fun
  | [d] => { results := [.lit (.bool false)], args := [d] }
  | _ => none }
def FnDifferShortWrongFalsely : Prop := fnDifferShortRow.holds Try.pinned (OpenSpec.ofChange fnDifferShortWrong)

/-- 'laws.FnSplitNone': WHATEVER THE INPUT: true; the input reads as it did. -/
def fnSplitNoneSpec : ChangeSpec := { name := "fnSplitNone", fn := fun _ => fun
  | [d] => { results := [.lit (.bool true)], args := [d] }
  | _ => none }
def fnSplitNoneRow : OpenClaim := { program := "ytnokhaflopgnnaa", sum := "ab5f0d1ca8a830e3e2352e9938d8987e9fa6d721b14d96c22f0c9fa529b6ee36", func := "loop.example/assumeguarantee/laws.FnSplitNone", spec := "fnSplitNone", unfollowed := true, recurses := true, apart := false }
def FnSplitNoneSaid : Prop := fnSplitNoneRow.holds Try.pinned (OpenSpec.ofChange fnSplitNoneSpec)

/-- ITS FALSE NEIGHBOUR: 'it returns false'. Refute it at one input. -/
def fnSplitNoneWrong : ChangeSpec := { name := "fnSplitNone", fn := fun _ => fun
  | [d] => { results := [.lit (.bool false)], args := [d] }
  | _ => none }
def FnSplitNoneWrongFalsely : Prop := fnSplitNoneRow.holds Try.pinned (OpenSpec.ofChange fnSplitNoneWrong)

/-- 'laws.FnFirstAccepted': WHATEVER THE INPUT: true; the input reads as it did. -/
def fnFirstAcceptedSpec : ChangeSpec := { name := "fnFirstAccepted", fn := fun _ => fun
  | [d] => { results := [.lit (.bool true)], args := [d] }
  | _ => none }
def fnFirstAcceptedRow : OpenClaim := { program := "ytnokhaflopgnnaa", sum := "ab5f0d1ca8a830e3e2352e9938d8987e9fa6d721b14d96c22f0c9fa529b6ee36", func := "loop.example/assumeguarantee/laws.FnFirstAccepted", spec := "fnFirstAccepted", unfollowed := true, recurses := true, apart := false }
def FnFirstAcceptedSaid : Prop := fnFirstAcceptedRow.holds Try.pinned (OpenSpec.ofChange fnFirstAcceptedSpec)

/-- ITS FALSE NEIGHBOUR: 'it returns false'. Refute it at one input. -/
def fnFirstAcceptedWrong : ChangeSpec := { name := "fnFirstAccepted", fn := fun _ => fun
  | [d] => { results := [.lit (.bool false)], args := [d] }
  | _ => none }
def FnFirstAcceptedWrongFalsely : Prop := fnFirstAcceptedRow.holds Try.pinned (OpenSpec.ofChange fnFirstAcceptedWrong)

/-- 'laws.FnWithinBoth': WHATEVER THE INPUT: true; the input reads as it did. -/
def fnWithinBothSpec : ChangeSpec := { name := "fnWithinBoth", fn := fun _ => fun
  | [d] => { results := [.lit (.bool true)], args := [d] }
  | _ => none }
def fnWithinBothRow : OpenClaim := { program := "ytnokhaflopgnnaa", sum := "ab5f0d1ca8a830e3e2352e9938d8987e9fa6d721b14d96c22f0c9fa529b6ee36", func := "loop.example/assumeguarantee/laws.FnWithinBoth", spec := "fnWithinBoth", unfollowed := true, recurses := true, apart := false }
def FnWithinBothSaid : Prop := fnWithinBothRow.holds Try.pinned (OpenSpec.ofChange fnWithinBothSpec)

/-- ITS FALSE NEIGHBOUR: 'it returns false'. Refute it at one input. -/
def fnWithinBothWrong : ChangeSpec := { name := "fnWithinBoth", fn := fun _ => fun
  | [d] => { results := [.lit (.bool false)], args := [d] }
  | _ => none }
def FnWithinBothWrongFalsely : Prop := fnWithinBothRow.holds Try.pinned (OpenSpec.ofChange fnWithinBothWrong)

/-- 'laws.FnSplitStates': WHATEVER THE INPUT: true; the input reads as it did. -/
def fnSplitStatesSpec : ChangeSpec := { name := "fnSplitStates", fn := fun _ => fun
  | [d] => { results := [.lit (.bool true)], args := [d] }
  | _ => none }
def fnSplitStatesRow : OpenClaim := { program := "ytnokhaflopgnnaa", sum := "ab5f0d1ca8a830e3e2352e9938d8987e9fa6d721b14d96c22f0c9fa529b6ee36", func := "loop.example/assumeguarantee/laws.FnSplitStates", spec := "fnSplitStates", unfollowed := true, recurses := true, apart := false }
def FnSplitStatesSaid : Prop := fnSplitStatesRow.holds Try.pinned (OpenSpec.ofChange fnSplitStatesSpec)

/-- ITS FALSE NEIGHBOUR: 'it returns false'. Refute it at one input. -/
def fnSplitStatesWrong : ChangeSpec := { name := "fnSplitStates", fn := fun _ => fun
  | [d] => { results := [.lit (.bool false)], args := [d] }
  | _ => none }
def FnSplitStatesWrongFalsely : Prop := fnSplitStatesRow.holds Try.pinned (OpenSpec.ofChange fnSplitStatesWrong)

/-- 'laws.FnDifferTurned': WHATEVER THE INPUT: true; the input reads as it did. -/
def fnDifferTurnedSpec : ChangeSpec := { name := "fnDifferTurned", fn := fun _ => fun
  | [d] => { results := [.lit (.bool true)], args := [d] }
  | _ => none }
def fnDifferTurnedRow : OpenClaim := { program := "ytnokhaflopgnnaa", sum := "ab5f0d1ca8a830e3e2352e9938d8987e9fa6d721b14d96c22f0c9fa529b6ee36", func := "loop.example/assumeguarantee/laws.FnDifferTurned", spec := "fnDifferTurned", unfollowed := true, recurses := true, apart := false }
def FnDifferTurnedSaid : Prop := fnDifferTurnedRow.holds Try.pinned (OpenSpec.ofChange fnDifferTurnedSpec)

/-- ITS FALSE NEIGHBOUR: 'it returns false'. Refute it at one input. -/
def fnDifferTurnedWrong : ChangeSpec := { name := "fnDifferTurned", fn := fun _ => fun
  | [d] => { results := [.lit (.bool false)], args := [d] }
  | _ => none }
def FnDifferTurnedWrongFalsely : Prop := fnDifferTurnedRow.holds Try.pinned (OpenSpec.ofChange fnDifferTurnedWrong)

/-- 'laws.FnDifferOther': WHATEVER THE INPUT: true; the input reads as it did. -/
def fnDifferOtherSpec : ChangeSpec := { name := "fnDifferOther", fn := fun _ => fun
  | [d] => { results := [.lit (.bool true)], args := [d] }
  | _ => none }
def fnDifferOtherRow : OpenClaim := { program := "ytnokhaflopgnnaa", sum := "ab5f0d1ca8a830e3e2352e9938d8987e9fa6d721b14d96c22f0c9fa529b6ee36", func := "loop.example/assumeguarantee/laws.FnDifferOther", spec := "fnDifferOther", unfollowed := true, recurses := true, apart := false }
def FnDifferOtherSaid : Prop := fnDifferOtherRow.holds Try.pinned (OpenSpec.ofChange fnDifferOtherSpec)

/-- ITS FALSE NEIGHBOUR: 'it returns false'. Refute it at one input. -/
def fnDifferOtherWrong : ChangeSpec := { name := "fnDifferOther", fn := fun _ => fun
  | [d] => { results := [.lit (.bool false)], args := [d] }
  | _ => none }
def FnDifferOtherWrongFalsely : Prop := fnDifferOtherRow.holds Try.pinned (OpenSpec.ofChange fnDifferOtherWrong)

/-- 'laws.FnDifferOf': WHATEVER THE INPUT: true; the input reads as it did. -/
def fnDifferOfSpec : ChangeSpec := { name := "fnDifferOf", fn := fun _ => fun
  | [d] => { results := [.lit (.bool true)], args := [d] }
  | _ => none }
def fnDifferOfRow : OpenClaim := { program := "ytnokhaflopgnnaa", sum := "ab5f0d1ca8a830e3e2352e9938d8987e9fa6d721b14d96c22f0c9fa529b6ee36", func := "loop.example/assumeguarantee/laws.FnDifferOf", spec := "fnDifferOf", unfollowed := true, recurses := true, apart := false }
def FnDifferOfSaid : Prop := fnDifferOfRow.holds Try.pinned (OpenSpec.ofChange fnDifferOfSpec)

/-- ITS FALSE NEIGHBOUR: 'it returns false'. Refute it at one input. -/
def fnDifferOfWrong : ChangeSpec := { name := "fnDifferOf", fn := fun _ => fun
  | [d] => { results := [.lit (.bool false)], args := [d] }
  | _ => none }
def FnDifferOfWrongFalsely : Prop := fnDifferOfRow.holds Try.pinned (OpenSpec.ofChange fnDifferOfWrong)

/- THE SECOND FORM. 'bulk': how many values and letters a reading holds, each counted each time it is reached (what is shared counts as often as it is met; a slice's spare places count too). A statement '..UptoSaid' is the law's where the arguments, and the package variables that the reading takes, are together of bulk at most 1048576: NARROWER than '..Said'. Prove '..Said' where nothing that the law and all that it calls make is longer than what came in: it says more and counts as full. Else prove '..UptoSaid'. A law counts once. -/
mutual
def uptoBulk {H : Type} : DataW H → Nat
  | .lit (.string bytes) => bytes.length + 1
  | .lit _ => 1
  | .nil => 1
  | .ptr d => uptoBulk d + 1
  | .slice elems spare => uptoBulkAll elems + uptoBulkAll spare + 1
  | .agg parts => uptoBulkAll parts + 1
  | .iface _ d => uptoBulk d + 1
  | .map entries => uptoBulkEntries entries + 1
  | .held _ => 1
def uptoBulkAll {H : Type} : List (DataW H) → Nat
  | [] => 0
  | d :: r => uptoBulk d + uptoBulkAll r
def uptoBulkEntries {H : Type} : List (Lit × DataW H) → Nat
  | [] => 0
  | x :: r => uptoBulkEntry x + uptoBulkEntries r
def uptoBulkEntry {H : Type} : Lit × DataW H → Nat
  | (.string bytes, d) => bytes.length + uptoBulk d + 1
  | (_, d) => uptoBulk d + 1
 end
def uptoSmall : (H : Type) → List (DataW H) → Bool := fun _ ds => decide (uptoBulkAll ds ≤ 1048576)
def OpenSpec.upto (s : _root_.Go.ChangeSpec) : _root_.Go.OpenSpec := { _root_.Go.OpenSpec.ofChange s with cond := some uptoSmall }

/-- 'laws.FnDifferLeast', WHERE WHAT IT READS IS OF BULK AT MOST 1048576: true; the input reads as it did. -/
def fnDifferLeastUptoRow : OpenClaim := { program := "ytnokhaflopgnnaa", sum := "ab5f0d1ca8a830e3e2352e9938d8987e9fa6d721b14d96c22f0c9fa529b6ee36", func := "loop.example/assumeguarantee/laws.FnDifferLeast", spec := "fnDifferLeast", unfollowed := true, recurses := true, apart := false, narrowed := true }
def FnDifferLeastUptoSaid : Prop := fnDifferLeastUptoRow.holds Try.pinned (OpenSpec.upto fnDifferLeastSpec)

/-- 'laws.FnAccessLeast', WHERE WHAT IT READS IS OF BULK AT MOST 1048576: true; the input reads as it did. -/
def fnAccessLeastUptoRow : OpenClaim := { program := "ytnokhaflopgnnaa", sum := "ab5f0d1ca8a830e3e2352e9938d8987e9fa6d721b14d96c22f0c9fa529b6ee36", func := "loop.example/assumeguarantee/laws.FnAccessLeast", spec := "fnAccessLeast", unfollowed := true, recurses := true, apart := false, narrowed := true }
def FnAccessLeastUptoSaid : Prop := fnAccessLeastUptoRow.holds Try.pinned (OpenSpec.upto fnAccessLeastSpec)

/-- 'laws.FnAccessPrefix', WHERE WHAT IT READS IS OF BULK AT MOST 1048576: true; the input reads as it did. -/
def fnAccessPrefixUptoRow : OpenClaim := { program := "ytnokhaflopgnnaa", sum := "ab5f0d1ca8a830e3e2352e9938d8987e9fa6d721b14d96c22f0c9fa529b6ee36", func := "loop.example/assumeguarantee/laws.FnAccessPrefix", spec := "fnAccessPrefix", unfollowed := true, recurses := true, apart := false, narrowed := true }
def FnAccessPrefixUptoSaid : Prop := fnAccessPrefixUptoRow.holds Try.pinned (OpenSpec.upto fnAccessPrefixSpec)

/-- 'laws.FnAccessWord', WHERE WHAT IT READS IS OF BULK AT MOST 1048576: true; the input reads as it did. -/
def fnAccessWordUptoRow : OpenClaim := { program := "ytnokhaflopgnnaa", sum := "ab5f0d1ca8a830e3e2352e9938d8987e9fa6d721b14d96c22f0c9fa529b6ee36", func := "loop.example/assumeguarantee/laws.FnAccessWord", spec := "fnAccessWord", unfollowed := true, recurses := true, apart := false, narrowed := true }
def FnAccessWordUptoSaid : Prop := fnAccessWordUptoRow.holds Try.pinned (OpenSpec.upto fnAccessWordSpec)

/-- 'laws.FnDifferShort', WHERE WHAT IT READS IS OF BULK AT MOST 1048576: true; the input reads as it did. -/
def fnDifferShortUptoRow : OpenClaim := { program := "ytnokhaflopgnnaa", sum := "ab5f0d1ca8a830e3e2352e9938d8987e9fa6d721b14d96c22f0c9fa529b6ee36", func := "loop.example/assumeguarantee/laws.FnDifferShort", spec := "fnDifferShort", unfollowed := true, recurses := true, apart := false, narrowed := true }
def FnDifferShortUptoSaid : Prop := fnDifferShortUptoRow.holds Try.pinned (OpenSpec.upto fnDifferShortSpec)

/-- 'laws.FnSplitNone', WHERE WHAT IT READS IS OF BULK AT MOST 1048576: true; the input reads as it did. -/
def fnSplitNoneUptoRow : OpenClaim := { program := "ytnokhaflopgnnaa", sum := "ab5f0d1ca8a830e3e2352e9938d8987e9fa6d721b14d96c22f0c9fa529b6ee36", func := "loop.example/assumeguarantee/laws.FnSplitNone", spec := "fnSplitNone", unfollowed := true, recurses := true, apart := false, narrowed := true }
def FnSplitNoneUptoSaid : Prop := fnSplitNoneUptoRow.holds Try.pinned (OpenSpec.upto fnSplitNoneSpec)

/-- 'laws.FnFirstAccepted', WHERE WHAT IT READS IS OF BULK AT MOST 1048576: true; the input reads as it did. -/
def fnFirstAcceptedUptoRow : OpenClaim := { program := "ytnokhaflopgnnaa", sum := "ab5f0d1ca8a830e3e2352e9938d8987e9fa6d721b14d96c22f0c9fa529b6ee36", func := "loop.example/assumeguarantee/laws.FnFirstAccepted", spec := "fnFirstAccepted", unfollowed := true, recurses := true, apart := false, narrowed := true }
def FnFirstAcceptedUptoSaid : Prop := fnFirstAcceptedUptoRow.holds Try.pinned (OpenSpec.upto fnFirstAcceptedSpec)

/-- 'laws.FnWithinBoth', WHERE WHAT IT READS IS OF BULK AT MOST 1048576: true; the input reads as it did. -/
def fnWithinBothUptoRow : OpenClaim := { program := "ytnokhaflopgnnaa", sum := "ab5f0d1ca8a830e3e2352e9938d8987e9fa6d721b14d96c22f0c9fa529b6ee36", func := "loop.example/assumeguarantee/laws.FnWithinBoth", spec := "fnWithinBoth", unfollowed := true, recurses := true, apart := false, narrowed := true }
def FnWithinBothUptoSaid : Prop := fnWithinBothUptoRow.holds Try.pinned (OpenSpec.upto fnWithinBothSpec)

/-- 'laws.FnSplitStates', WHERE WHAT IT READS IS OF BULK AT MOST 1048576: true; the input reads as it did. -/
def fnSplitStatesUptoRow : OpenClaim := { program := "ytnokhaflopgnnaa", sum := "ab5f0d1ca8a830e3e2352e9938d8987e9fa6d721b14d96c22f0c9fa529b6ee36", func := "loop.example/assumeguarantee/laws.FnSplitStates", spec := "fnSplitStates", unfollowed := true, recurses := true, apart := false, narrowed := true }
def FnSplitStatesUptoSaid : Prop := fnSplitStatesUptoRow.holds Try.pinned (OpenSpec.upto fnSplitStatesSpec)

/-- 'laws.FnDifferTurned', WHERE WHAT IT READS IS OF BULK AT MOST 1048576: true; the input reads as it did. -/
def fnDifferTurnedUptoRow : OpenClaim := { program := "ytnokhaflopgnnaa", sum := "ab5f0d1ca8a830e3e2352e9938d8987e9fa6d721b14d96c22f0c9fa529b6ee36", func := "loop.example/assumeguarantee/laws.FnDifferTurned", spec := "fnDifferTurned", unfollowed := true, recurses := true, apart := false, narrowed := true }
def FnDifferTurnedUptoSaid : Prop := fnDifferTurnedUptoRow.holds Try.pinned (OpenSpec.upto fnDifferTurnedSpec)

/-- 'laws.FnDifferOther', WHERE WHAT IT READS IS OF BULK AT MOST 1048576: true; the input reads as it did. -/
def fnDifferOtherUptoRow : OpenClaim := { program := "ytnokhaflopgnnaa", sum := "ab5f0d1ca8a830e3e2352e9938d8987e9fa6d721b14d96c22f0c9fa529b6ee36", func := "loop.example/assumeguarantee/laws.FnDifferOther", spec := "fnDifferOther", unfollowed := true, recurses := true, apart := false, narrowed := true }
def FnDifferOtherUptoSaid : Prop := fnDifferOtherUptoRow.holds Try.pinned (OpenSpec.upto fnDifferOtherSpec)

/-- 'laws.FnDifferOf', WHERE WHAT IT READS IS OF BULK AT MOST 1048576: true; the input reads as it did. -/
def fnDifferOfUptoRow : OpenClaim := { program := "ytnokhaflopgnnaa", sum := "ab5f0d1ca8a830e3e2352e9938d8987e9fa6d721b14d96c22f0c9fa529b6ee36", func := "loop.example/assumeguarantee/laws.FnDifferOf", spec := "fnDifferOf", unfollowed := true, recurses := true, apart := false, narrowed := true }
def FnDifferOfUptoSaid : Prop := fnDifferOfUptoRow.holds Try.pinned (OpenSpec.upto fnDifferOfSpec)

end Rows
end Go.Proofs.Ytnokhaflopgnnaa
