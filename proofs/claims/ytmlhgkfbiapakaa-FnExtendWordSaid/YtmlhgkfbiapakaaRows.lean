/-
  No cell of these rows narrows 'for every input' (looked for: loops, veiled, ifaces, maps, wideKeys, modest, calm, conditions, laid).
  DERIVED. THE GIVEN ROWS OF THIS SEAT. 12 by the template 'for every input the law returns true; each argument reads behind the call as it read before'; 0 by the template 'total and deterministic' (their statements: YtmlhgkfbiapakaaTotals.lean).
  GIVEN WITH THE SEED: the statements are not yours to turn. If you find one false, say at which input.
  Laid BY PROGRAM, IN A SANDBOX (cutbox-rows.mjs): the forced cells as the released guide's own fill.sh prints them over the translation 75a0775d43657df3… (all of the seat's roots in one cut). By AI agents, Wed Nov 11 2026. No macro, syntax, notation, axiom, sorry.
-/
import Derived.Test.YtmlhgkfbiapakaaChecked
import GoSem.Claim
import GoSem.ClaimJoined
import GoSem.ClaimMapViews
import Derived.JoinedTies
import Derived.KernelRfl
namespace Go.Proofs.Ytmlhgkfbiapakaa
/- THE CELL 'sum', in the pinned program and in every row, IS THE sha256 OF THE DUMP (.gsa) THAT YtmlhgkfbiapakaaProg.lean LOADS. Nothing in Lean hashes anything: it is a label: what it is worth is what the hold of that sum in a sandbox is worth. -/
noncomputable def Try.pinned : Pinned := { name := "ytmlhgkfbiapakaa", sum := "75a0775d43657df3168dc90d900ab511b2c54de64ef13743f1f61be99327f90a", checked := Try.checked }
namespace Rows
def none {H : Type} : Left H := { results := [], args := [] }

/-- 'laws.FnSafetyTwice': WHATEVER THE INPUT: true; the input reads as it did. -/
def fnSafetyTwiceSpec : ChangeSpec := { name := "fnSafetyTwice", fn := fun _ => fun
  | [d] => { results := [.lit (.bool true)], args := [d] }
  | _ => none }
def fnSafetyTwiceRow : OpenClaim := { program := "ytmlhgkfbiapakaa", sum := "75a0775d43657df3168dc90d900ab511b2c54de64ef13743f1f61be99327f90a", func := "loop.example/assumeguarantee/laws.FnSafetyTwice", spec := "fnSafetyTwice", recurses := true, apart := false }
def FnSafetyTwiceSaid : Prop := fnSafetyTwiceRow.holds Try.pinned (OpenSpec.ofChange fnSafetyTwiceSpec)

/-- ITS FALSE NEIGHBOUR: 'it returns false'. Refute it at one input. -/
def fnSafetyTwiceWrong : ChangeSpec := { name := "fnSafetyTwice", fn := fun _ => fun
  | [d] => { results := [.lit (.bool false)], args := [d] }
  | _ => none }
def FnSafetyTwiceWrongFalsely : Prop := fnSafetyTwiceRow.holds Try.pinned (OpenSpec.ofChange fnSafetyTwiceWrong)

/-- 'laws.FnExtendOwn': WHATEVER THE INPUT: true; the input reads as it did. -/
def fnExtendOwnSpec : ChangeSpec := { name := "fnExtendOwn", fn := fun _ => fun
  | [d] => { results := [.lit (.bool true)], args := [d] }
  | _ => none }
def fnExtendOwnRow : OpenClaim := { program := "ytmlhgkfbiapakaa", sum := "75a0775d43657df3168dc90d900ab511b2c54de64ef13743f1f61be99327f90a", func := "loop.example/assumeguarantee/laws.FnExtendOwn", spec := "fnExtendOwn", recurses := true, apart := false }
def FnExtendOwnSaid : Prop := fnExtendOwnRow.holds Try.pinned (OpenSpec.ofChange fnExtendOwnSpec)

/-- ITS FALSE NEIGHBOUR: 'it returns false'. Refute it at one input. -/
def fnExtendOwnWrong : ChangeSpec := { name := "fnExtendOwn", fn := fun _ => fun
  | [d] => { results := [.lit (.bool false)], args := [d] }
  | _ => none }
def FnExtendOwnWrongFalsely : Prop := fnExtendOwnRow.holds Try.pinned (OpenSpec.ofChange fnExtendOwnWrong)

/-- 'laws.FnExtendTwice': WHATEVER THE INPUT: true; the input reads as it did. -/
def fnExtendTwiceSpec : ChangeSpec := { name := "fnExtendTwice", fn := fun _ => fun
  | [d1, d2] => { results := [.lit (.bool true)], args := [d1, d2] }
  | _ => none }
def fnExtendTwiceRow : OpenClaim := { program := "ytmlhgkfbiapakaa", sum := "75a0775d43657df3168dc90d900ab511b2c54de64ef13743f1f61be99327f90a", func := "loop.example/assumeguarantee/laws.FnExtendTwice", spec := "fnExtendTwice", recurses := true, apart := false }
def FnExtendTwiceSaid : Prop := fnExtendTwiceRow.holds Try.pinned (OpenSpec.ofChange fnExtendTwiceSpec)

/-- ITS FALSE NEIGHBOUR: 'it returns false'. Refute it at one input. -/
def fnExtendTwiceWrong : ChangeSpec := { name := "fnExtendTwice", fn := fun _ => fun
  | [d1, d2] => { results := [.lit (.bool false)], args := [d1, d2] }
  | _ => none }
def FnExtendTwiceWrongFalsely : Prop := fnExtendTwiceRow.holds Try.pinned (OpenSpec.ofChange fnExtendTwiceWrong)

/-- 'laws.FnCountAccepted': WHATEVER THE INPUT: true; the input reads as it did. -/
def fnCountAcceptedSpec : ChangeSpec := { name := "fnCountAccepted", fn := fun _ => fun
  | [d] => { results := [.lit (.bool true)], args := [d] }
  | _ => none }
def fnCountAcceptedRow : OpenClaim := { program := "ytmlhgkfbiapakaa", sum := "75a0775d43657df3168dc90d900ab511b2c54de64ef13743f1f61be99327f90a", func := "loop.example/assumeguarantee/laws.FnCountAccepted", spec := "fnCountAccepted", recurses := true, apart := false }
def FnCountAcceptedSaid : Prop := fnCountAcceptedRow.holds Try.pinned (OpenSpec.ofChange fnCountAcceptedSpec)

/-- ITS FALSE NEIGHBOUR: 'it returns false'. Refute it at one input. -/
def fnCountAcceptedWrong : ChangeSpec := { name := "fnCountAccepted", fn := fun _ => fun
  | [d] => { results := [.lit (.bool false)], args := [d] }
  | _ => none }
def FnCountAcceptedWrongFalsely : Prop := fnCountAcceptedRow.holds Try.pinned (OpenSpec.ofChange fnCountAcceptedWrong)

/-- 'laws.FnExtendComplement': WHATEVER THE INPUT: true; the input reads as it did. -/
def fnExtendComplementSpec : ChangeSpec := { name := "fnExtendComplement", fn := fun _ => fun
  | [d] => { results := [.lit (.bool true)], args := [d] }
  | _ => none }
def fnExtendComplementRow : OpenClaim := { program := "ytmlhgkfbiapakaa", sum := "75a0775d43657df3168dc90d900ab511b2c54de64ef13743f1f61be99327f90a", func := "loop.example/assumeguarantee/laws.FnExtendComplement", spec := "fnExtendComplement", recurses := true, apart := false }
def FnExtendComplementSaid : Prop := fnExtendComplementRow.holds Try.pinned (OpenSpec.ofChange fnExtendComplementSpec)

/-- ITS FALSE NEIGHBOUR: 'it returns false'. Refute it at one input. -/
def fnExtendComplementWrong : ChangeSpec := { name := "fnExtendComplement", fn := fun _ => fun
  | [d] => { results := [.lit (.bool false)], args := [d] }
  | _ => none }
def FnExtendComplementWrongFalsely : Prop := fnExtendComplementRow.holds Try.pinned (OpenSpec.ofChange fnExtendComplementWrong)

/-- 'laws.FnSafetyExtend': WHATEVER THE INPUT: true; the input reads as it did. -/
def fnSafetyExtendSpec : ChangeSpec := { name := "fnSafetyExtend", fn := fun _ => fun
  | [d] => { results := [.lit (.bool true)], args := [d] }
  | _ => none }
def fnSafetyExtendRow : OpenClaim := { program := "ytmlhgkfbiapakaa", sum := "75a0775d43657df3168dc90d900ab511b2c54de64ef13743f1f61be99327f90a", func := "loop.example/assumeguarantee/laws.FnSafetyExtend", spec := "fnSafetyExtend", recurses := true, apart := false }
def FnSafetyExtendSaid : Prop := fnSafetyExtendRow.holds Try.pinned (OpenSpec.ofChange fnSafetyExtendSpec)

/-- ITS FALSE NEIGHBOUR: 'it returns false'. Refute it at one input. -/
def fnSafetyExtendWrong : ChangeSpec := { name := "fnSafetyExtend", fn := fun _ => fun
  | [d] => { results := [.lit (.bool false)], args := [d] }
  | _ => none }
def FnSafetyExtendWrongFalsely : Prop := fnSafetyExtendRow.holds Try.pinned (OpenSpec.ofChange fnSafetyExtendWrong)

/-- 'laws.FnStateAfter': WHATEVER THE INPUT: true; the input reads as it did. -/
def fnStateAfterSpec : ChangeSpec := { name := "fnStateAfter", fn := fun _ => fun
  | [d] => { results := [.lit (.bool true)], args := [d] }
  | _ => none }
def fnStateAfterRow : OpenClaim := { program := "ytmlhgkfbiapakaa", sum := "75a0775d43657df3168dc90d900ab511b2c54de64ef13743f1f61be99327f90a", func := "loop.example/assumeguarantee/laws.FnStateAfter", spec := "fnStateAfter", recurses := true, apart := false }
def FnStateAfterSaid : Prop := fnStateAfterRow.holds Try.pinned (OpenSpec.ofChange fnStateAfterSpec)

/-- ITS FALSE NEIGHBOUR: 'it returns false'. Refute it at one input. -/
def fnStateAfterWrong : ChangeSpec := { name := "fnStateAfter", fn := fun _ => fun
  | [d] => { results := [.lit (.bool false)], args := [d] }
  | _ => none }
def FnStateAfterWrongFalsely : Prop := fnStateAfterRow.holds Try.pinned (OpenSpec.ofChange fnStateAfterWrong)

/-- 'laws.FnAcceptsWord': WHATEVER THE INPUT: true; the input reads as it did. -/
def fnAcceptsWordSpec : ChangeSpec := { name := "fnAcceptsWord", fn := fun _ => fun
  | [d] => { results := [.lit (.bool true)], args := [d] }
  | _ => none }
def fnAcceptsWordRow : OpenClaim := { program := "ytmlhgkfbiapakaa", sum := "75a0775d43657df3168dc90d900ab511b2c54de64ef13743f1f61be99327f90a", func := "loop.example/assumeguarantee/laws.FnAcceptsWord", spec := "fnAcceptsWord", recurses := true, apart := false }
def FnAcceptsWordSaid : Prop := fnAcceptsWordRow.holds Try.pinned (OpenSpec.ofChange fnAcceptsWordSpec)

/-- ITS FALSE NEIGHBOUR: 'it returns false'. Refute it at one input. -/
def fnAcceptsWordWrong : ChangeSpec := { name := "fnAcceptsWord", fn := fun _ => fun
  | [d] => { results := [.lit (.bool false)], args := [d] }
  | _ => none }
def FnAcceptsWordWrongFalsely : Prop := fnAcceptsWordRow.holds Try.pinned (OpenSpec.ofChange fnAcceptsWordWrong)

/-- 'laws.FnComplement': WHATEVER THE INPUT: true; the input reads as it did. -/
def fnComplementSpec : ChangeSpec := { name := "fnComplement", fn := fun _ => fun
  | [d1, d2] => { results := [.lit (.bool true)], args := [d1, d2] }
  | _ => none }
def fnComplementRow : OpenClaim := { program := "ytmlhgkfbiapakaa", sum := "75a0775d43657df3168dc90d900ab511b2c54de64ef13743f1f61be99327f90a", func := "loop.example/assumeguarantee/laws.FnComplement", spec := "fnComplement", recurses := true, apart := false }
def FnComplementSaid : Prop := fnComplementRow.holds Try.pinned (OpenSpec.ofChange fnComplementSpec)

/-- ITS FALSE NEIGHBOUR: 'it returns false'. Refute it at one input. -/
def fnComplementWrong : ChangeSpec := { name := "fnComplement", fn := fun _ => fun
  | [d1, d2] => { results := [.lit (.bool false)], args := [d1, d2] }
  | _ => none }
def FnComplementWrongFalsely : Prop := fnComplementRow.holds Try.pinned (OpenSpec.ofChange fnComplementWrong)

/-- 'laws.FnSafetyPart': WHATEVER THE INPUT: true; the input reads as it did. -/
def fnSafetyPartSpec : ChangeSpec := { name := "fnSafetyPart", fn := fun _ => fun
  | [d] => { results := [.lit (.bool true)], args := [d] }
  | _ => none }
def fnSafetyPartRow : OpenClaim := { program := "ytmlhgkfbiapakaa", sum := "75a0775d43657df3168dc90d900ab511b2c54de64ef13743f1f61be99327f90a", func := "loop.example/assumeguarantee/laws.FnSafetyPart", spec := "fnSafetyPart", recurses := true, apart := false }
def FnSafetyPartSaid : Prop := fnSafetyPartRow.holds Try.pinned (OpenSpec.ofChange fnSafetyPartSpec)

/-- ITS FALSE NEIGHBOUR: 'it returns false'. Refute it at one input. -/
def fnSafetyPartWrong : ChangeSpec := { name := "fnSafetyPart", fn := fun _ => fun
  | [d] => { results := [.lit (.bool false)], args := [d] }
  | _ => none }
def FnSafetyPartWrongFalsely : Prop := fnSafetyPartRow.holds Try.pinned (OpenSpec.ofChange fnSafetyPartWrong)

/-- 'laws.FnSafetyMeet': WHATEVER THE INPUT: true; the input reads as it did. -/
def fnSafetyMeetSpec : ChangeSpec := { name := "fnSafetyMeet", fn := fun _ => fun
  | [d] => { results := [.lit (.bool true)], args := [d] }
  | _ => none }
def fnSafetyMeetRow : OpenClaim := { program := "ytmlhgkfbiapakaa", sum := "75a0775d43657df3168dc90d900ab511b2c54de64ef13743f1f61be99327f90a", func := "loop.example/assumeguarantee/laws.FnSafetyMeet", spec := "fnSafetyMeet", recurses := true, apart := false }
def FnSafetyMeetSaid : Prop := fnSafetyMeetRow.holds Try.pinned (OpenSpec.ofChange fnSafetyMeetSpec)

/-- ITS FALSE NEIGHBOUR: 'it returns false'. Refute it at one input. -/
def fnSafetyMeetWrong : ChangeSpec := { name := "fnSafetyMeet", fn := fun _ => fun
  | [d] => { results := [.lit (.bool false)], args := [d] }
  | _ => none }
def FnSafetyMeetWrongFalsely : Prop := fnSafetyMeetRow.holds Try.pinned (OpenSpec.ofChange fnSafetyMeetWrong)

/-- 'laws.FnExtendWord': WHATEVER THE INPUT: true; the input reads as it did. -/
def fnExtendWordSpec : ChangeSpec := { name := "fnExtendWord", fn := fun _ => fun
  | [d1, d2] => { results := [.lit (.bool true)], args := [d1, d2] }
  | _ => none }
def fnExtendWordRow : OpenClaim := { program := "ytmlhgkfbiapakaa", sum := "75a0775d43657df3168dc90d900ab511b2c54de64ef13743f1f61be99327f90a", func := "loop.example/assumeguarantee/laws.FnExtendWord", spec := "fnExtendWord", recurses := true, apart := false }
def FnExtendWordSaid : Prop := fnExtendWordRow.holds Try.pinned (OpenSpec.ofChange fnExtendWordSpec)

/-- ITS FALSE NEIGHBOUR: 'it returns false'. Refute it at one input. -/
def fnExtendWordWrong : ChangeSpec := { name := "fnExtendWord", fn := fun _ => fun
  | [d1, d2] => { results := [.lit (.bool false)], args := [d1, d2] }
  | _ => none }
def FnExtendWordWrongFalsely : Prop := fnExtendWordRow.holds Try.pinned (OpenSpec.ofChange fnExtendWordWrong)

/- THE SECOND FORM. 'bulk': how many values and letters a reading holds, each counted each time it is reached (what is shared counts as often as it is met; a slice's spare places count too). A statement '..UptoSaid' is the law's where the arguments, and the package variables that the reading takes, are together of bulk at most 1048576: NARROWER than '..Said'. Prove '..Said' where nothing that the law and all that it calls make is longer than what came in: it says more and counts as full. Else prove '..UptoSaid'. A law counts once. -/
mutual
def uptoBulk {H : Type} : DataW H → Nat
  | .lit (.string bytes) => bytes.length + 1
  | .lit _ => 1
  | .nil => 1
  | .ptr d => uptoBulk d + 1
  | .slice elems spare => uptoBulkAll elems + uptoBulkAll spare + 1
  | .agg parts => uptoBulkAll parts + 1
  | .iface _ d => uptoBulk d + 1
  | .map entries => uptoBulkEntries entries + 1
  | .held _ => 1
def uptoBulkAll {H : Type} : List (DataW H) → Nat
  | [] => 0
  | d :: r => uptoBulk d + uptoBulkAll r
def uptoBulkEntries {H : Type} : List (Lit × DataW H) → Nat
  | [] => 0
  | x :: r => uptoBulkEntry x + uptoBulkEntries r
def uptoBulkEntry {H : Type} : Lit × DataW H → Nat
  | (.string bytes, d) => bytes.length + uptoBulk d + 1
  | (_, d) => uptoBulk d + 1
 end
def uptoSmall : (H : Type) → List (DataW H) → Bool := fun _ ds => decide (uptoBulkAll ds ≤ 1048576)
def OpenSpec.upto (s : _root_.Go.ChangeSpec) : _root_.Go.OpenSpec := { _root_.Go.OpenSpec.ofChange s with cond := some uptoSmall }

/-- 'laws.FnSafetyTwice', WHERE WHAT IT READS IS OF BULK AT MOST 1048576: true; the input reads as it did. -/
def fnSafetyTwiceUptoRow : OpenClaim := { program := "ytmlhgkfbiapakaa", sum := "75a0775d43657df3168dc90d900ab511b2c54de64ef13743f1f61be99327f90a", func := "loop.example/assumeguarantee/laws.FnSafetyTwice", spec := "fnSafetyTwice", recurses := true, apart := false, narrowed := true }
def FnSafetyTwiceUptoSaid : Prop := fnSafetyTwiceUptoRow.holds Try.pinned (OpenSpec.upto fnSafetyTwiceSpec)

/-- 'laws.FnExtendOwn', WHERE WHAT IT READS IS OF BULK AT MOST 1048576: true; the input reads as it did. -/
def fnExtendOwnUptoRow : OpenClaim := { program := "ytmlhgkfbiapakaa", sum := "75a0775d43657df3168dc90d900ab511b2c54de64ef13743f1f61be99327f90a", func := "loop.example/assumeguarantee/laws.FnExtendOwn", spec := "fnExtendOwn", recurses := true, apart := false, narrowed := true }
def FnExtendOwnUptoSaid : Prop := fnExtendOwnUptoRow.holds Try.pinned (OpenSpec.upto fnExtendOwnSpec)

/-- 'laws.FnExtendTwice', WHERE WHAT IT READS IS OF BULK AT MOST 1048576: true; the input reads as it did. -/
def fnExtendTwiceUptoRow : OpenClaim := { program := "ytmlhgkfbiapakaa", sum := "75a0775d43657df3168dc90d900ab511b2c54de64ef13743f1f61be99327f90a", func := "loop.example/assumeguarantee/laws.FnExtendTwice", spec := "fnExtendTwice", recurses := true, apart := false, narrowed := true }
def FnExtendTwiceUptoSaid : Prop := fnExtendTwiceUptoRow.holds Try.pinned (OpenSpec.upto fnExtendTwiceSpec)

/-- 'laws.FnCountAccepted', WHERE WHAT IT READS IS OF BULK AT MOST 1048576: true; the input reads as it did. -/
def fnCountAcceptedUptoRow : OpenClaim := { program := "ytmlhgkfbiapakaa", sum := "75a0775d43657df3168dc90d900ab511b2c54de64ef13743f1f61be99327f90a", func := "loop.example/assumeguarantee/laws.FnCountAccepted", spec := "fnCountAccepted", recurses := true, apart := false, narrowed := true }
def FnCountAcceptedUptoSaid : Prop := fnCountAcceptedUptoRow.holds Try.pinned (OpenSpec.upto fnCountAcceptedSpec)

/-- 'laws.FnExtendComplement', WHERE WHAT IT READS IS OF BULK AT MOST 1048576: true; the input reads as it did. -/
def fnExtendComplementUptoRow : OpenClaim := { program := "ytmlhgkfbiapakaa", sum := "75a0775d43657df3168dc90d900ab511b2c54de64ef13743f1f61be99327f90a", func := "loop.example/assumeguarantee/laws.FnExtendComplement", spec := "fnExtendComplement", recurses := true, apart := false, narrowed := true }
def FnExtendComplementUptoSaid : Prop := fnExtendComplementUptoRow.holds Try.pinned (OpenSpec.upto fnExtendComplementSpec)

/-- 'laws.FnSafetyExtend', WHERE WHAT IT READS IS OF BULK AT MOST 1048576: true; the input reads as it did. -/
def fnSafetyExtendUptoRow : OpenClaim := { program := "ytmlhgkfbiapakaa", sum := "75a0775d43657df3168dc90d900ab511b2c54de64ef13743f1f61be99327f90a", func := "loop.example/assumeguarantee/laws.FnSafetyExtend", spec := "fnSafetyExtend", recurses := true, apart := false, narrowed := true }
def FnSafetyExtendUptoSaid : Prop := fnSafetyExtendUptoRow.holds Try.pinned (OpenSpec.upto fnSafetyExtendSpec)

/-- 'laws.FnStateAfter', WHERE WHAT IT READS IS OF BULK AT MOST 1048576: true; the input reads as it did. -/
def fnStateAfterUptoRow : OpenClaim := { program := "ytmlhgkfbiapakaa", sum := "75a0775d43657df3168dc90d900ab511b2c54de64ef13743f1f61be99327f90a", func := "loop.example/assumeguarantee/laws.FnStateAfter", spec := "fnStateAfter", recurses := true, apart := false, narrowed := true }
def FnStateAfterUptoSaid : Prop := fnStateAfterUptoRow.holds Try.pinned (OpenSpec.upto fnStateAfterSpec)

/-- 'laws.FnAcceptsWord', WHERE WHAT IT READS IS OF BULK AT MOST 1048576: true; the input reads as it did. -/
def fnAcceptsWordUptoRow : OpenClaim := { program := "ytmlhgkfbiapakaa", sum := "75a0775d43657df3168dc90d900ab511b2c54de64ef13743f1f61be99327f90a", func := "loop.example/assumeguarantee/laws.FnAcceptsWord", spec := "fnAcceptsWord", recurses := true, apart := false, narrowed := true }
def FnAcceptsWordUptoSaid : Prop := fnAcceptsWordUptoRow.holds Try.pinned (OpenSpec.upto fnAcceptsWordSpec)

/-- 'laws.FnComplement', WHERE WHAT IT READS IS OF BULK AT MOST 1048576: true; the input reads as it did. -/
def fnComplementUptoRow : OpenClaim := { program := "ytmlhgkfbiapakaa", sum := "75a0775d43657df3168dc90d900ab511b2c54de64ef13743f1f61be99327f90a", func := "loop.example/assumeguarantee/laws.FnComplement", spec := "fnComplement", recurses := true, apart := false, narrowed := true }
def FnComplementUptoSaid : Prop := fnComplementUptoRow.holds Try.pinned (OpenSpec.upto fnComplementSpec)

/-- 'laws.FnSafetyPart', WHERE WHAT IT READS IS OF BULK AT MOST 1048576: true; the input reads as it did. -/
def fnSafetyPartUptoRow : OpenClaim := { program := "ytmlhgkfbiapakaa", sum := "75a0775d43657df3168dc90d900ab511b2c54de64ef13743f1f61be99327f90a", func := "loop.example/assumeguarantee/laws.FnSafetyPart", spec := "fnSafetyPart", recurses := true, apart := false, narrowed := true }
def FnSafetyPartUptoSaid : Prop := fnSafetyPartUptoRow.holds Try.pinned (OpenSpec.upto fnSafetyPartSpec)

/-- 'laws.FnSafetyMeet', WHERE WHAT IT READS IS OF BULK AT MOST 1048576: true; the input reads as it did. -/
def fnSafetyMeetUptoRow : OpenClaim := { program := "ytmlhgkfbiapakaa", sum := "75a0775d43657df3168dc90d900ab511b2c54de64ef13743f1f61be99327f90a", func := "loop.example/assumeguarantee/laws.FnSafetyMeet", spec := "fnSafetyMeet", recurses := true, apart := false, narrowed := true }
def FnSafetyMeetUptoSaid : Prop := fnSafetyMeetUptoRow.holds Try.pinned (OpenSpec.upto fnSafetyMeetSpec)

/-- 'laws.FnExtendWord', WHERE WHAT IT READS IS OF BULK AT MOST 1048576: true; the input reads as it did. -/
def fnExtendWordUptoRow : OpenClaim := { program := "ytmlhgkfbiapakaa", sum := "75a0775d43657df3168dc90d900ab511b2c54de64ef13743f1f61be99327f90a", func := "loop.example/assumeguarantee/laws.FnExtendWord", spec := "fnExtendWord", recurses := true, apart := false, narrowed := true }
def FnExtendWordUptoSaid : Prop := fnExtendWordUptoRow.holds Try.pinned (OpenSpec.upto fnExtendWordSpec)

end Rows
end Go.Proofs.Ytmlhgkfbiapakaa
