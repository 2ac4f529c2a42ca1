/-
  No cell of these rows narrows 'for every input' (looked for: loops, veiled, ifaces, maps, wideKeys, modest, calm, conditions, laid).
  DERIVED. THE GIVEN ROWS OF THIS SEAT. 9 by the template 'for every input the law returns true; each argument reads behind the call as it read before'; 0 by the template 'total and deterministic' (their statements: YtoboklelbbgcnaaTotals.lean).
  GIVEN WITH THE SEED: the statements are not yours to turn. If you find one false, say at which input.
  Laid BY PROGRAM, IN A SANDBOX (cutbox-rows.mjs): the forced cells as the released guide's own fill.sh prints them over the translation 8973801722d937d7… (all of the seat's roots in one cut). By AI agents, Wed Nov 11 2026. No macro, syntax, notation, axiom, sorry.
-/
import Derived.Test.YtoboklelbbgcnaaChecked
import GoSem.Claim
import GoSem.ClaimJoined
import GoSem.ClaimMapViews
import Derived.JoinedTies
import Derived.KernelRfl
namespace Go.Proofs.Ytoboklelbbgcnaa
/- THE CELL 'sum', in the pinned program and in every row, IS THE sha256 OF THE DUMP (.gsa) THAT YtoboklelbbgcnaaProg.lean LOADS. Nothing in Lean hashes anything: it is a label: what it is worth is what the hold of that sum in a sandbox is worth. -/
noncomputable def Try.pinned : Pinned := { name := "ytoboklelbbgcnaa", sum := "8973801722d937d755ddf0ec1b491fb383a58430acf595211292318a2c1b8277", checked := Try.checked }
namespace Rows
def none {H : Type} : Left H := { results := [], args := [] }

/-- 'laws.FnWithinExtend': WHATEVER THE INPUT: true; the input reads as it did. -/
def fnWithinExtendSpec : ChangeSpec := { name := "fnWithinExtend", fn := fun _ => fun
  | [d] => { results := [.lit (.bool true)], args := [d] }
  | _ => none }
def fnWithinExtendRow : OpenClaim := { program := "ytoboklelbbgcnaa", sum := "8973801722d937d755ddf0ec1b491fb383a58430acf595211292318a2c1b8277", func := "loop.example/assumeguarantee/laws.FnWithinExtend", spec := "fnWithinExtend", unfollowed := true, recurses := true, apart := false }
def FnWithinExtendSaid : Prop := fnWithinExtendRow.holds Try.pinned (OpenSpec.ofChange fnWithinExtendSpec)

/-- ITS FALSE NEIGHBOUR: 'it returns false'. Refute it at one input. -/
def fnWithinExtendWrong : ChangeSpec := { name := "fnWithinExtend", fn := fun _ => fun
  | [d] => { results := [.lit (.bool false)], args := [d] }
  | _ => none }
def FnWithinExtendWrongFalsely : Prop := fnWithinExtendRow.holds Try.pinned (OpenSpec.ofChange fnWithinExtendWrong)

/-- 'laws.FnWithinTurned': WHATEVER THE INPUT: true; the input reads as it did. -/
def fnWithinTurnedSpec : ChangeSpec := { name := "fnWithinTurned", fn := fun _ => fun
  | [d] => { results := [.lit (.bool true)], args := [d] }
  | _ => none }
def fnWithinTurnedRow : OpenClaim := { program := "ytoboklelbbgcnaa", sum := "8973801722d937d755ddf0ec1b491fb383a58430acf595211292318a2c1b8277", func := "loop.example/assumeguarantee/laws.FnWithinTurned", spec := "fnWithinTurned", unfollowed := true, recurses := true, apart := false }
def FnWithinTurnedSaid : Prop := fnWithinTurnedRow.holds Try.pinned (OpenSpec.ofChange fnWithinTurnedSpec)

/-- ITS FALSE NEIGHBOUR: 'it returns false'. Refute it at one input. -/
def fnWithinTurnedWrong : ChangeSpec := { name := "fnWithinTurned", fn := fun _ => fun
  | [d] => { results := [.lit (.bool false)], args := [d] }
  | _ => none }
def FnWithinTurnedWrongFalsely : Prop := fnWithinTurnedRow.holds Try.pinned (OpenSpec.ofChange fnWithinTurnedWrong)

/-- 'laws.FnWithinSafety': WHATEVER THE INPUT: true; the input reads as it did. -/
def fnWithinSafetySpec : ChangeSpec := { name := "fnWithinSafety", fn := fun _ => fun
  | [d] => { results := [.lit (.bool true)], args := [d] }
  | _ => none }
def fnWithinSafetyRow : OpenClaim := { program := "ytoboklelbbgcnaa", sum := "8973801722d937d755ddf0ec1b491fb383a58430acf595211292318a2c1b8277", func := "loop.example/assumeguarantee/laws.FnWithinSafety", spec := "fnWithinSafety", unfollowed := true, recurses := true, apart := false }
def FnWithinSafetySaid : Prop := fnWithinSafetyRow.holds Try.pinned (OpenSpec.ofChange fnWithinSafetySpec)

/-- ITS FALSE NEIGHBOUR: 'it returns false'. Refute it at one input. -/
def fnWithinSafetyWrong : ChangeSpec := { name := "fnWithinSafety", fn := fun _ => fun
  | [d] => { results := [.lit (.bool false)], args := [d] }
  | _ => none }
def FnWithinSafetyWrongFalsely : Prop := fnWithinSafetyRow.holds Try.pinned (OpenSpec.ofChange fnWithinSafetyWrong)

/-- 'laws.FnSplitThree': WHATEVER THE INPUT: true; the input reads as it did. -/
def fnSplitThreeSpec : ChangeSpec := { name := "fnSplitThree", fn := fun _ => fun
  | [d] => { results := [.lit (.bool true)], args := [d] }
  | _ => none }
def fnSplitThreeRow : OpenClaim := { program := "ytoboklelbbgcnaa", sum := "8973801722d937d755ddf0ec1b491fb383a58430acf595211292318a2c1b8277", func := "loop.example/assumeguarantee/laws.FnSplitThree", spec := "fnSplitThree", unfollowed := true, recurses := true, apart := false }
def FnSplitThreeSaid : Prop := fnSplitThreeRow.holds Try.pinned (OpenSpec.ofChange fnSplitThreeSpec)

/-- ITS FALSE NEIGHBOUR: 'it returns false'. Refute it at one input. -/
def fnSplitThreeWrong : ChangeSpec := { name := "fnSplitThree", fn := fun _ => fun
  | [d] => { results := [.lit (.bool false)], args := [d] }
  | _ => none }
def FnSplitThreeWrongFalsely : Prop := fnSplitThreeRow.holds Try.pinned (OpenSpec.ofChange fnSplitThreeWrong)

/-- 'laws.FnFirstLeast': WHATEVER THE INPUT: true; the input reads as it did. -/
def fnFirstLeastSpec : ChangeSpec := { name := "fnFirstLeast", fn := fun _ => fun
  | [d1, d2] => { results := [.lit (.bool true)], args := [d1, d2] }
  | _ => none }
def fnFirstLeastRow : OpenClaim := { program := "ytoboklelbbgcnaa", sum := "8973801722d937d755ddf0ec1b491fb383a58430acf595211292318a2c1b8277", func := "loop.example/assumeguarantee/laws.FnFirstLeast", spec := "fnFirstLeast", unfollowed := true, recurses := true, apart := false }
def FnFirstLeastSaid : Prop := fnFirstLeastRow.holds Try.pinned (OpenSpec.ofChange fnFirstLeastSpec)

/-- ITS FALSE NEIGHBOUR: 'it returns false'. Refute it at one input. -/
def fnFirstLeastWrong : ChangeSpec := { name := "fnFirstLeast", fn := fun _ => fun
  | [d1, d2] => { results := [.lit (.bool false)], args := [d1, d2] }
  | _ => none }
def FnFirstLeastWrongFalsely : Prop := fnFirstLeastRow.holds Try.pinned (OpenSpec.ofChange fnFirstLeastWrong)

/-- 'laws.FnFirstOutside': WHATEVER THE INPUT: true; the input reads as it did. -/
def fnFirstOutsideSpec : ChangeSpec := { name := "fnFirstOutside", fn := fun _ => fun
  | [d] => { results := [.lit (.bool true)], args := [d] }
  | _ => none }
def fnFirstOutsideRow : OpenClaim := { program := "ytoboklelbbgcnaa", sum := "8973801722d937d755ddf0ec1b491fb383a58430acf595211292318a2c1b8277", func := "loop.example/assumeguarantee/laws.FnFirstOutside", spec := "fnFirstOutside", unfollowed := true, recurses := true, apart := false }
def FnFirstOutsideSaid : Prop := fnFirstOutsideRow.holds Try.pinned (OpenSpec.ofChange fnFirstOutsideSpec)

/-- ITS FALSE NEIGHBOUR: 'it returns false'. Refute it at one input. -/
def fnFirstOutsideWrong : ChangeSpec := { name := "fnFirstOutside", fn := fun _ => fun
  | [d] => { results := [.lit (.bool false)], args := [d] }
  | _ => none }
def FnFirstOutsideWrongFalsely : Prop := fnFirstOutsideRow.holds Try.pinned (OpenSpec.ofChange fnFirstOutsideWrong)

/-- 'laws.FnPrefixFirst': WHATEVER THE INPUT: true; the input reads as it did. -/
def fnPrefixFirstSpec : ChangeSpec := { name := "fnPrefixFirst", fn := fun _ => fun
  | [d] => { results := [.lit (.bool true)], args := [d] }
  | _ => none }
def fnPrefixFirstRow : OpenClaim := { program := "ytoboklelbbgcnaa", sum := "8973801722d937d755ddf0ec1b491fb383a58430acf595211292318a2c1b8277", func := "loop.example/assumeguarantee/laws.FnPrefixFirst", spec := "fnPrefixFirst", unfollowed := true, recurses := true, apart := false }
def FnPrefixFirstSaid : Prop := fnPrefixFirstRow.holds Try.pinned (OpenSpec.ofChange fnPrefixFirstSpec)

/-- ITS FALSE NEIGHBOUR: 'it returns false'. Refute it at one input. -/
def fnPrefixFirstWrong : ChangeSpec := { name := "fnPrefixFirst", fn := fun _ => fun
  | [d] => { results := [.lit (.bool false)], args := [d] }
  | _ => none }
def FnPrefixFirstWrongFalsely : Prop := fnPrefixFirstRow.holds Try.pinned (OpenSpec.ofChange fnPrefixFirstWrong)

/-- 'laws.FnPrefixClosed': WHATEVER THE INPUT: true; the input reads as it did. -/
def fnPrefixClosedSpec : ChangeSpec := { name := "fnPrefixClosed", fn := fun _ => fun
  | [d] => { results := [.lit (.bool true)], args := [d] }
  | _ => none }
def fnPrefixClosedRow : OpenClaim := { program := "ytoboklelbbgcnaa", sum := "8973801722d937d755ddf0ec1b491fb383a58430acf595211292318a2c1b8277", func := "loop.example/assumeguarantee/laws.FnPrefixClosed", spec := "fnPrefixClosed", unfollowed := true, recurses := true, apart := false }
def FnPrefixClosedSaid : Prop := fnPrefixClosedRow.holds Try.pinned (OpenSpec.ofChange fnPrefixClosedSpec)

/-- ITS FALSE NEIGHBOUR: 'it returns false'. Refute it at one input. -/
def fnPrefixClosedWrong : ChangeSpec := { name := "fnPrefixClosed", fn := fun _ => fun
  | [d] => { results := [.lit (.bool false)], args := [d] }
  | _ => none }
def FnPrefixClosedWrongFalsely : Prop := fnPrefixClosedRow.holds Try.pinned (OpenSpec.ofChange fnPrefixClosedWrong)

/-- 'laws.FnWithinCount': WHATEVER THE INPUT: true; the input reads as it did. -/
def fnWithinCountSpec : ChangeSpec := { name := "fnWithinCount", fn := fun _ => fun
  | [d1, d2] => { results := [.lit (.bool true)], args := [d1, d2] }
  | _ => none }
def fnWithinCountRow : OpenClaim := { program := "ytoboklelbbgcnaa", sum := "8973801722d937d755ddf0ec1b491fb383a58430acf595211292318a2c1b8277", func := "loop.example/assumeguarantee/laws.FnWithinCount", spec := "fnWithinCount", unfollowed := true, recurses := true, apart := false }
def FnWithinCountSaid : Prop := fnWithinCountRow.holds Try.pinned (OpenSpec.ofChange fnWithinCountSpec)

/-- ITS FALSE NEIGHBOUR: 'it returns false'. Refute it at one input. -/
def fnWithinCountWrong : ChangeSpec := { name := "fnWithinCount", fn := fun _ => fun
  | [d1, d2] => { results := [.lit (.bool false)], args := [d1, d2] }
  | _ => none }
def FnWithinCountWrongFalsely : Prop := fnWithinCountRow.holds Try.pinned (OpenSpec.ofChange fnWithinCountWrong)

/- THE SECOND FORM. 'bulk': how many values and letters a reading holds, each counted each time it is reached (what is shared counts as often as it is met; a slice's spare places count too). A statement '..UptoSaid' is the law's where the arguments, and the package variables that the reading takes, are together of bulk at most 1048576: NARROWER than '..Said'. Prove '..Said' where nothing that the law and all that it calls make is longer than what came in: it says more and counts as full. Else prove '..UptoSaid'. A law counts once. -/
mutual
def uptoBulk {H : Type} : DataW H → Nat
  | .lit (.string bytes) => bytes.length + 1
  | .lit _ => 1
  | .nil => 1
  | .ptr d => uptoBulk d + 1
  | .slice elems spare => uptoBulkAll elems + uptoBulkAll spare + 1
  | .agg parts => uptoBulkAll parts + 1
  | .iface _ d => uptoBulk d + 1
  | .map entries => uptoBulkEntries entries + 1
  | .held _ => 1
def uptoBulkAll {H : Type} : List (DataW H) → Nat
  | [] => 0
  | d :: r => uptoBulk d + uptoBulkAll r
def uptoBulkEntries {H : Type} : List (Lit × DataW H) → Nat
  | [] => 0
  | x :: r => uptoBulkEntry x + uptoBulkEntries r
def uptoBulkEntry {H : Type} : Lit × DataW H → Nat
  | (.string bytes, d) => bytes.length + uptoBulk d + 1
  | (_, d) => uptoBulk d + 1
 end
def uptoSmall : (H : Type) → List (DataW H) → Bool := fun _ ds => decide (uptoBulkAll ds ≤ 1048576)
def OpenSpec.upto (s : _root_.Go.ChangeSpec) : _root_.Go.OpenSpec := { _root_.Go.OpenSpec.ofChange s with cond := some uptoSmall }

/-- 'laws.FnWithinExtend', WHERE WHAT IT READS IS OF BULK AT MOST 1048576: true; the input reads as it did. -/
def fnWithinExtendUptoRow : OpenClaim := { program := "ytoboklelbbgcnaa", sum := "8973801722d937d755ddf0ec1b491fb383a58430acf595211292318a2c1b8277", func := "loop.example/assumeguarantee/laws.FnWithinExtend", spec := "fnWithinExtend", unfollowed := true, recurses := true, apart := false, narrowed := true }
def FnWithinExtendUptoSaid : Prop := fnWithinExtendUptoRow.holds Try.pinned (OpenSpec.upto fnWithinExtendSpec)

/-- 'laws.FnWithinTurned', WHERE WHAT IT READS IS OF BULK AT MOST 1048576: true; the input reads as it did. -/
def fnWithinTurnedUptoRow : OpenClaim := { program := "ytoboklelbbgcnaa", sum := "8973801722d937d755ddf0ec1b491fb383a58430acf595211292318a2c1b8277", func := "loop.example/assumeguarantee/laws.FnWithinTurned", spec := "fnWithinTurned", unfollowed := true, recurses := true, apart := false, narrowed := true }
def FnWithinTurnedUptoSaid : Prop := fnWithinTurnedUptoRow.holds Try.pinned (OpenSpec.upto fnWithinTurnedSpec)

/-- 'laws.FnWithinSafety', WHERE WHAT IT READS IS OF BULK AT MOST 1048576: true; the input reads as it did. -/
def fnWithinSafetyUptoRow : OpenClaim := { program := "ytoboklelbbgcnaa", sum := "8973801722d937d755ddf0ec1b491fb383a58430acf595211292318a2c1b8277", func := "loop.example/assumeguarantee/laws.FnWithinSafety", spec := "fnWithinSafety", unfollowed := true, recurses := true, apart := false, narrowed := true }
def FnWithinSafetyUptoSaid : Prop := fnWithinSafetyUptoRow.holds Try.pinned (OpenSpec.upto fnWithinSafetySpec)

/-- 'laws.FnSplitThree', WHERE WHAT IT READS IS OF BULK AT MOST 1048576: true; the input reads as it did. -/
def fnSplitThreeUptoRow : OpenClaim := { program := "ytoboklelbbgcnaa", sum := "8973801722d937d755ddf0ec1b491fb383a58430acf595211292318a2c1b8277", func := "loop.example/assumeguarantee/laws.FnSplitThree", spec := "fnSplitThree", unfollowed := true, recurses := true, apart := false, narrowed := true }
def FnSplitThreeUptoSaid : Prop := fnSplitThreeUptoRow.holds Try.pinned (OpenSpec.upto fnSplitThreeSpec)

/-- 'laws.FnFirstLeast', WHERE WHAT IT READS IS OF BULK AT MOST 1048576: true; the input reads as it did. -/
def fnFirstLeastUptoRow : OpenClaim := { program := "ytoboklelbbgcnaa", sum := "8973801722d937d755ddf0ec1b491fb383a58430acf595211292318a2c1b8277", func := "loop.example/assumeguarantee/laws.FnFirstLeast", spec := "fnFirstLeast", unfollowed := true, recurses := true, apart := false, narrowed := true }
def FnFirstLeastUptoSaid : Prop := fnFirstLeastUptoRow.holds Try.pinned (OpenSpec.upto fnFirstLeastSpec)

/-- 'laws.FnFirstOutside', WHERE WHAT IT READS IS OF BULK AT MOST 1048576: true; the input reads as it did. -/
def fnFirstOutsideUptoRow : OpenClaim := { program := "ytoboklelbbgcnaa", sum := "8973801722d937d755ddf0ec1b491fb383a58430acf595211292318a2c1b8277", func := "loop.example/assumeguarantee/laws.FnFirstOutside", spec := "fnFirstOutside", unfollowed := true, recurses := true, apart := false, narrowed := true }
def FnFirstOutsideUptoSaid : Prop := fnFirstOutsideUptoRow.holds Try.pinned (OpenSpec.upto fnFirstOutsideSpec)

/-- 'laws.FnPrefixFirst', WHERE WHAT IT READS IS OF BULK AT MOST 1048576: true; the input reads as it did. -/
def fnPrefixFirstUptoRow : OpenClaim := { program := "ytoboklelbbgcnaa", sum := "8973801722d937d755ddf0ec1b491fb383a58430acf595211292318a2c1b8277", func := "loop.example/assumeguarantee/laws.FnPrefixFirst", spec := "fnPrefixFirst", unfollowed := true, recurses := true, apart := false, narrowed := true }
def FnPrefixFirstUptoSaid : Prop := fnPrefixFirstUptoRow.holds Try.pinned (OpenSpec.upto fnPrefixFirstSpec)

/-- 'laws.FnPrefixClosed', WHERE WHAT IT READS IS OF BULK AT MOST 1048576: true; the input reads as it did. -/
def fnPrefixClosedUptoRow : OpenClaim := { program := "ytoboklelbbgcnaa", sum := "8973801722d937d755ddf0ec1b491fb383a58430acf595211292318a2c1b8277", func := "loop.example/assumeguarantee/laws.FnPrefixClosed", spec := "fnPrefixClosed", unfollowed := true, recurses := true, apart := false, narrowed := true }
def FnPrefixClosedUptoSaid : Prop := fnPrefixClosedUptoRow.holds Try.pinned (OpenSpec.upto fnPrefixClosedSpec)

/-- 'laws.FnWithinCount', WHERE WHAT IT READS IS OF BULK AT MOST 1048576: true; the input reads as it did. -/
def fnWithinCountUptoRow : OpenClaim := { program := "ytoboklelbbgcnaa", sum := "8973801722d937d755ddf0ec1b491fb383a58430acf595211292318a2c1b8277", func := "loop.example/assumeguarantee/laws.FnWithinCount", spec := "fnWithinCount", unfollowed := true, recurses := true, apart := false, narrowed := true }
def FnWithinCountUptoSaid : Prop := fnWithinCountUptoRow.holds Try.pinned (OpenSpec.upto fnWithinCountSpec)

end Rows
end Go.Proofs.Ytoboklelbbgcnaa
