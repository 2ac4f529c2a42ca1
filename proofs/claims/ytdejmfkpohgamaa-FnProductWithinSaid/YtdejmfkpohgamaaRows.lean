/-
  No cell of these rows narrows 'for every input' (looked for: loops, veiled, ifaces, maps, wideKeys, modest, calm, conditions, laid).
  DERIVED. THE GIVEN ROWS OF THIS SEAT. 12 by the template 'for every input the law returns true; each argument reads behind the call as it read before'; 0 by the template 'total and deterministic' (their statements: YtdejmfkpohgamaaTotals.lean).
  GIVEN WITH THE SEED: the statements are not yours to turn. If you find one false, say at which input.
  Laid BY PROGRAM, IN A SANDBOX (cutbox-rows.mjs): the forced cells as the released guide's own fill.sh prints them over the translation 26ffd7094d9bfcc6… (all of the seat's roots in one cut). By AI agents, Wed Nov 11 2026. No macro, syntax, notation, axiom, sorry.
-/
import Derived.Test.YtdejmfkpohgamaaChecked
import GoSem.Claim
import GoSem.ClaimJoined
import GoSem.ClaimMapViews
import Derived.JoinedTies
import Derived.KernelRfl
namespace Go.Proofs.Ytdejmfkpohgamaa
/- THE CELL 'sum', in the pinned program and in every row, IS THE sha256 OF THE DUMP (.gsa) THAT YtdejmfkpohgamaaProg.lean LOADS. Nothing in Lean hashes anything: it is a label: what it is worth is what the hold of that sum in a sandbox is worth. -/
noncomputable def Try.pinned : Pinned := { name := "ytdejmfkpohgamaa", sum := "26ffd7094d9bfcc6551f9f8244f264609cc6129bd171701d3aac757dca2b2bf2", checked := Try.checked }
namespace Rows
def none {H : Type} : Left H := { results := [], args := [] }

/-- 'laws.FnProductTurned': WHATEVER THE INPUT: true; the input reads as it did. -/
def fnProductTurnedSpec : ChangeSpec := { name := "fnProductTurned", fn := fun _ => fun
  | [d] => { results := [.lit (.bool true)], args := [d] }
  | _ => none }
def fnProductTurnedRow : OpenClaim := { program := "ytdejmfkpohgamaa", sum := "26ffd7094d9bfcc6551f9f8244f264609cc6129bd171701d3aac757dca2b2bf2", func := "loop.example/assumeguarantee/laws.FnProductTurned", spec := "fnProductTurned", unfollowed := true, recurses := true, apart := false }
def FnProductTurnedSaid : Prop := fnProductTurnedRow.holds Try.pinned (OpenSpec.ofChange fnProductTurnedSpec)

/-- ITS FALSE NEIGHBOUR: 'it returns false'. Refute it at one input. -/
def fnProductTurnedWrong : ChangeSpec := { name := "fnProductTurned", fn := fun _ => fun
  | [d] => { results := [.lit (.bool false)], args := [d] }
  | _ => none }
def FnProductTurnedWrongFalsely : Prop := fnProductTurnedRow.holds Try.pinned (OpenSpec.ofChange fnProductTurnedWrong)

/-- 'laws.FnProductStates': WHATEVER THE INPUT: true; the input reads as it did. -/
def fnProductStatesSpec : ChangeSpec := { name := "fnProductStates", fn := fun _ => fun
  | [d] => { results := [.lit (.bool true)], args := [d] }
  | _ => none }
def fnProductStatesRow : OpenClaim := { program := "ytdejmfkpohgamaa", sum := "26ffd7094d9bfcc6551f9f8244f264609cc6129bd171701d3aac757dca2b2bf2", func := "loop.example/assumeguarantee/laws.FnProductStates", spec := "fnProductStates", unfollowed := true, recurses := true, apart := false }
def FnProductStatesSaid : Prop := fnProductStatesRow.holds Try.pinned (OpenSpec.ofChange fnProductStatesSpec)

/-- ITS FALSE NEIGHBOUR: 'it returns false'. Refute it at one input. -/
def fnProductStatesWrong : ChangeSpec := { name := "fnProductStates", fn := fun _ => fun
  | [d] => { results := [.lit (.bool false)], args := [d] }
  | _ => none }
def FnProductStatesWrongFalsely : Prop := fnProductStatesRow.holds Try.pinned (OpenSpec.ofChange fnProductStatesWrong)

/-- 'laws.FnProductExtend': WHATEVER THE INPUT: true; the input reads as it did. -/
def fnProductExtendSpec : ChangeSpec := { name := "fnProductExtend", fn := fun _ => fun
  | [d] => { results := [.lit (.bool true)], args := [d] }
  | _ => none }
def fnProductExtendRow : OpenClaim := { program := "ytdejmfkpohgamaa", sum := "26ffd7094d9bfcc6551f9f8244f264609cc6129bd171701d3aac757dca2b2bf2", func := "loop.example/assumeguarantee/laws.FnProductExtend", spec := "fnProductExtend", unfollowed := true, recurses := true, apart := false }
def FnProductExtendSaid : Prop := fnProductExtendRow.holds Try.pinned (OpenSpec.ofChange fnProductExtendSpec)

/-- ITS FALSE NEIGHBOUR: 'it returns false'. Refute it at one input. -/
def fnProductExtendWrong : ChangeSpec := { name := "fnProductExtend", fn := fun _ => fun
  | [d] => { results := [.lit (.bool false)], args := [d] }
  | _ => none }
def FnProductExtendWrongFalsely : Prop := fnProductExtendRow.holds Try.pinned (OpenSpec.ofChange fnProductExtendWrong)

/-- 'laws.FnProductFirst': WHATEVER THE INPUT: true; the input reads as it did. -/
def fnProductFirstSpec : ChangeSpec := { name := "fnProductFirst", fn := fun _ => fun
  | [d] => { results := [.lit (.bool true)], args := [d] }
  | _ => none }
def fnProductFirstRow : OpenClaim := { program := "ytdejmfkpohgamaa", sum := "26ffd7094d9bfcc6551f9f8244f264609cc6129bd171701d3aac757dca2b2bf2", func := "loop.example/assumeguarantee/laws.FnProductFirst", spec := "fnProductFirst", unfollowed := true, recurses := true, apart := false }
def FnProductFirstSaid : Prop := fnProductFirstRow.holds Try.pinned (OpenSpec.ofChange fnProductFirstSpec)

/-- ITS FALSE NEIGHBOUR: 'it returns false'. Refute it at one input. -/
def fnProductFirstWrong : ChangeSpec := { name := "fnProductFirst", fn := fun _ => fun
  | [d] => { results := [.lit (.bool false)], args := [d] }
  | _ => none }
def FnProductFirstWrongFalsely : Prop := fnProductFirstRow.holds Try.pinned (OpenSpec.ofChange fnProductFirstWrong)

/-- 'laws.FnProductMorgan': WHATEVER THE INPUT: true; the input reads as it did. -/
def fnProductMorganSpec : ChangeSpec := { name := "fnProductMorgan", fn := fun _ => fun
  | [d] => { results := [.lit (.bool true)], args := [d] }
  | _ => none }
def fnProductMorganRow : OpenClaim := { program := "ytdejmfkpohgamaa", sum := "26ffd7094d9bfcc6551f9f8244f264609cc6129bd171701d3aac757dca2b2bf2", func := "loop.example/assumeguarantee/laws.FnProductMorgan", spec := "fnProductMorgan", unfollowed := true, recurses := true, apart := false }
def FnProductMorganSaid : Prop := fnProductMorganRow.holds Try.pinned (OpenSpec.ofChange fnProductMorganSpec)

/-- ITS FALSE NEIGHBOUR: 'it returns false'. Refute it at one input. -/
def fnProductMorganWrong : ChangeSpec := { name := "fnProductMorgan", fn := fun _ => fun
  | [d] => { results := [.lit (.bool false)], args := [d] }
  | _ => none }
def FnProductMorganWrongFalsely : Prop := fnProductMorganRow.holds Try.pinned (OpenSpec.ofChange fnProductMorganWrong)

/-- 'laws.FnProductSelf': WHATEVER THE INPUT: true; the input reads as it did. -/
def fnProductSelfSpec : ChangeSpec := { name := "fnProductSelf", fn := fun _ => fun
  | [d] => { results := [.lit (.bool true)], args := [d] }
  | _ => none }
def fnProductSelfRow : OpenClaim := { program := "ytdejmfkpohgamaa", sum := "26ffd7094d9bfcc6551f9f8244f264609cc6129bd171701d3aac757dca2b2bf2", func := "loop.example/assumeguarantee/laws.FnProductSelf", spec := "fnProductSelf", unfollowed := true, recurses := true, apart := false }
def FnProductSelfSaid : Prop := fnProductSelfRow.holds Try.pinned (OpenSpec.ofChange fnProductSelfSpec)

/-- ITS FALSE NEIGHBOUR: 'it returns false'. Refute it at one input. -/
def fnProductSelfWrong : ChangeSpec := { name := "fnProductSelf", fn := fun _ => fun
  | [d] => { results := [.lit (.bool false)], args := [d] }
  | _ => none }
def FnProductSelfWrongFalsely : Prop := fnProductSelfRow.holds Try.pinned (OpenSpec.ofChange fnProductSelfWrong)

/-- 'laws.FnProductWord': WHATEVER THE INPUT: true; the input reads as it did. -/
def fnProductWordSpec : ChangeSpec := { name := "fnProductWord", fn := fun _ => fun
  | [d1, d2] => { results := [.lit (.bool true)], args := [d1, d2] }
  | _ => none }
def fnProductWordRow : OpenClaim := { program := "ytdejmfkpohgamaa", sum := "26ffd7094d9bfcc6551f9f8244f264609cc6129bd171701d3aac757dca2b2bf2", func := "loop.example/assumeguarantee/laws.FnProductWord", spec := "fnProductWord", unfollowed := true, recurses := true, apart := false }
def FnProductWordSaid : Prop := fnProductWordRow.holds Try.pinned (OpenSpec.ofChange fnProductWordSpec)

/-- ITS FALSE NEIGHBOUR: 'it returns false'. Refute it at one input. -/
def fnProductWordWrong : ChangeSpec := { name := "fnProductWord", fn := fun _ => fun
  | [d1, d2] => { results := [.lit (.bool false)], args := [d1, d2] }
  | _ => none }
def FnProductWordWrongFalsely : Prop := fnProductWordRow.holds Try.pinned (OpenSpec.ofChange fnProductWordWrong)

/-- 'laws.FnProductSafety': WHATEVER THE INPUT: true; the input reads as it did. -/
def fnProductSafetySpec : ChangeSpec := { name := "fnProductSafety", fn := fun _ => fun
  | [d] => { results := [.lit (.bool true)], args := [d] }
  | _ => none }
def fnProductSafetyRow : OpenClaim := { program := "ytdejmfkpohgamaa", sum := "26ffd7094d9bfcc6551f9f8244f264609cc6129bd171701d3aac757dca2b2bf2", func := "loop.example/assumeguarantee/laws.FnProductSafety", spec := "fnProductSafety", unfollowed := true, recurses := true, apart := false }
def FnProductSafetySaid : Prop := fnProductSafetyRow.holds Try.pinned (OpenSpec.ofChange fnProductSafetySpec)

/-- ITS FALSE NEIGHBOUR: 'it returns false'. Refute it at one input. -/
def fnProductSafetyWrong : ChangeSpec := { name := "fnProductSafety", fn := fun _ => fun
  | [d] => { results := [.lit (.bool false)], args := [d] }
  | _ => none }
def FnProductSafetyWrongFalsely : Prop := fnProductSafetyRow.holds Try.pinned (OpenSpec.ofChange fnProductSafetyWrong)

/-- 'laws.FnProductWithin': WHATEVER THE INPUT: true; the input reads as it did. -/
def fnProductWithinSpec : ChangeSpec := { name := "fnProductWithin", fn := fun _ => fun
  | [d] => { results := [.lit (.bool true)], args := [d] }
  | _ => none }
def fnProductWithinRow : OpenClaim := { program := "ytdejmfkpohgamaa", sum := "26ffd7094d9bfcc6551f9f8244f264609cc6129bd171701d3aac757dca2b2bf2", func := "loop.example/assumeguarantee/laws.FnProductWithin", spec := "fnProductWithin", unfollowed := true, recurses := true, apart := false }
def FnProductWithinSaid : Prop := fnProductWithinRow.holds Try.pinned (OpenSpec.ofChange fnProductWithinSpec)

/-- ITS FALSE NEIGHBOUR: 'it returns false'. Refute it at one input. -/
def fnProductWithinWrong : ChangeSpec := { name := "fnProductWithin", fn := fun _ => fun
  | [d] => { results := [.lit (.bool false)], args := [d] }
  | _ => none }
def FnProductWithinWrongFalsely : Prop := fnProductWithinRow.holds Try.pinned (OpenSpec.ofChange fnProductWithinWrong)

/-- 'laws.FnTrimStays': WHATEVER THE INPUT: true; the input reads as it did. -/
def fnTrimStaysSpec : ChangeSpec := { name := "fnTrimStays", fn := fun _ => fun
  | [d] => { results := [.lit (.bool true)], args := [d] }
  | _ => none }
def fnTrimStaysRow : OpenClaim := { program := "ytdejmfkpohgamaa", sum := "26ffd7094d9bfcc6551f9f8244f264609cc6129bd171701d3aac757dca2b2bf2", func := "loop.example/assumeguarantee/laws.FnTrimStays", spec := "fnTrimStays", unfollowed := true, recurses := true, apart := false }
def FnTrimStaysSaid : Prop := fnTrimStaysRow.holds Try.pinned (OpenSpec.ofChange fnTrimStaysSpec)

/-- ITS FALSE NEIGHBOUR: 'it returns false'. Refute it at one input. -/
def fnTrimStaysWrong : ChangeSpec := { name := "fnTrimStays", fn := fun _ => fun
  | [d] => { results := [.lit (.bool false)], args := [d] }
  | _ => none }
def FnTrimStaysWrongFalsely : Prop := fnTrimStaysRow.holds Try.pinned (OpenSpec.ofChange fnTrimStaysWrong)

/-- 'laws.FnTrimAutomaton': WHATEVER THE INPUT: true; the input reads as it did. -/
def fnTrimAutomatonSpec : ChangeSpec := { name := "fnTrimAutomaton", fn := fun _ => fun
  | [d] => { results := [.lit (.bool true)], args := [d] }
  | _ => none }
def fnTrimAutomatonRow : OpenClaim := { program := "ytdejmfkpohgamaa", sum := "26ffd7094d9bfcc6551f9f8244f264609cc6129bd171701d3aac757dca2b2bf2", func := "loop.example/assumeguarantee/laws.FnTrimAutomaton", spec := "fnTrimAutomaton", unfollowed := true, recurses := true, apart := false }
def FnTrimAutomatonSaid : Prop := fnTrimAutomatonRow.holds Try.pinned (OpenSpec.ofChange fnTrimAutomatonSpec)

/-- ITS FALSE NEIGHBOUR: 'it returns false'. Refute it at one input. -/
def fnTrimAutomatonWrong : ChangeSpec := { name := "fnTrimAutomaton", fn := fun _ => fun
  | [d] => { results := [.lit (.bool false)], args := [d] }
  | _ => none }
def FnTrimAutomatonWrongFalsely : Prop := fnTrimAutomatonRow.holds Try.pinned (OpenSpec.ofChange fnTrimAutomatonWrong)

/-- 'laws.FnTrimOrder': WHATEVER THE INPUT: true; the input reads as it did. -/
def fnTrimOrderSpec : ChangeSpec := { name := "fnTrimOrder", fn := fun _ => fun
  | [d] => { results := [.lit (.bool true)], args := [d] }
  | _ => none }
def fnTrimOrderRow : OpenClaim := { program := "ytdejmfkpohgamaa", sum := "26ffd7094d9bfcc6551f9f8244f264609cc6129bd171701d3aac757dca2b2bf2", func := "loop.example/assumeguarantee/laws.FnTrimOrder", spec := "fnTrimOrder", unfollowed := true, recurses := true, apart := false }
def FnTrimOrderSaid : Prop := fnTrimOrderRow.holds Try.pinned (OpenSpec.ofChange fnTrimOrderSpec)

/-- ITS FALSE NEIGHBOUR: 'it returns false'. Refute it at one input. -/
def fnTrimOrderWrong : ChangeSpec := { name := "fnTrimOrder", fn := fun _ => fun
  | [d] => { results := [.lit (.bool false)], args := [d] }
  | _ => none }
def FnTrimOrderWrongFalsely : Prop := fnTrimOrderRow.holds Try.pinned (OpenSpec.ofChange fnTrimOrderWrong)

/- THE SECOND FORM. 'bulk': how many values and letters a reading holds, each counted each time it is reached (what is shared counts as often as it is met; a slice's spare places count too). A statement '..UptoSaid' is the law's where the arguments, and the package variables that the reading takes, are together of bulk at most 1048576: NARROWER than '..Said'. Prove '..Said' where nothing that the law and all that it calls make is longer than what came in: it says more and counts as full. Else prove '..UptoSaid'. A law counts once. -/
mutual
def uptoBulk {H : Type} : DataW H → Nat
  | .lit (.string bytes) => bytes.length + 1
  | .lit _ => 1
  | .nil => 1
  | .ptr d => uptoBulk d + 1
  | .slice elems spare => uptoBulkAll elems + uptoBulkAll spare + 1
  | .agg parts => uptoBulkAll parts + 1
  | .iface _ d => uptoBulk d + 1
  | .map entries => uptoBulkEntries entries + 1
  | .held _ => 1
def uptoBulkAll {H : Type} : List (DataW H) → Nat
  | [] => 0
  | d :: r => uptoBulk d + uptoBulkAll r
def uptoBulkEntries {H : Type} : List (Lit × DataW H) → Nat
  | [] => 0
  | x :: r => uptoBulkEntry x + uptoBulkEntries r
def uptoBulkEntry {H : Type} : Lit × DataW H → Nat
  | (.string bytes, d) => bytes.length + uptoBulk d + 1
  | (_, d) => uptoBulk d + 1
 end
def uptoSmall : (H : Type) → List (DataW H) → Bool := fun _ ds => decide (uptoBulkAll ds ≤ 1048576)
def OpenSpec.upto (s : _root_.Go.ChangeSpec) : _root_.Go.OpenSpec := { _root_.Go.OpenSpec.ofChange s with cond := some uptoSmall }

/-- 'laws.FnProductTurned', WHERE WHAT IT READS IS OF BULK AT MOST 1048576: true; the input reads as it did. -/
def fnProductTurnedUptoRow : OpenClaim := { program := "ytdejmfkpohgamaa", sum := "26ffd7094d9bfcc6551f9f8244f264609cc6129bd171701d3aac757dca2b2bf2", func := "loop.example/assumeguarantee/laws.FnProductTurned", spec := "fnProductTurned", unfollowed := true, recurses := true, apart := false, narrowed := true }
def FnProductTurnedUptoSaid : Prop := fnProductTurnedUptoRow.holds Try.pinned (OpenSpec.upto fnProductTurnedSpec)

/-- 'laws.FnProductStates', WHERE WHAT IT READS IS OF BULK AT MOST 1048576: true; the input reads as it did. -/
def fnProductStatesUptoRow : OpenClaim := { program := "ytdejmfkpohgamaa", sum := "26ffd7094d9bfcc6551f9f8244f264609cc6129bd171701d3aac757dca2b2bf2", func := "loop.example/assumeguarantee/laws.FnProductStates", spec := "fnProductStates", unfollowed := true, recurses := true, apart := false, narrowed := true }
def FnProductStatesUptoSaid : Prop := fnProductStatesUptoRow.holds Try.pinned (OpenSpec.upto fnProductStatesSpec)

/-- 'laws.FnProductExtend', WHERE WHAT IT READS IS OF BULK AT MOST 1048576: true; the input reads as it did. -/
def fnProductExtendUptoRow : OpenClaim := { program := "ytdejmfkpohgamaa", sum := "26ffd7094d9bfcc6551f9f8244f264609cc6129bd171701d3aac757dca2b2bf2", func := "loop.example/assumeguarantee/laws.FnProductExtend", spec := "fnProductExtend", unfollowed := true, recurses := true, apart := false, narrowed := true }
def FnProductExtendUptoSaid : Prop := fnProductExtendUptoRow.holds Try.pinned (OpenSpec.upto fnProductExtendSpec)

/-- 'laws.FnProductFirst', WHERE WHAT IT READS IS OF BULK AT MOST 1048576: true; the input reads as it did. -/
def fnProductFirstUptoRow : OpenClaim := { program := "ytdejmfkpohgamaa", sum := "26ffd7094d9bfcc6551f9f8244f264609cc6129bd171701d3aac757dca2b2bf2", func := "loop.example/assumeguarantee/laws.FnProductFirst", spec := "fnProductFirst", unfollowed := true, recurses := true, apart := false, narrowed := true }
def FnProductFirstUptoSaid : Prop := fnProductFirstUptoRow.holds Try.pinned (OpenSpec.upto fnProductFirstSpec)

/-- 'laws.FnProductMorgan', WHERE WHAT IT READS IS OF BULK AT MOST 1048576: true; the input reads as it did. -/
def fnProductMorganUptoRow : OpenClaim := { program := "ytdejmfkpohgamaa", sum := "26ffd7094d9bfcc6551f9f8244f264609cc6129bd171701d3aac757dca2b2bf2", func := "loop.example/assumeguarantee/laws.FnProductMorgan", spec := "fnProductMorgan", unfollowed := true, recurses := true, apart := false, narrowed := true }
def FnProductMorganUptoSaid : Prop := fnProductMorganUptoRow.holds Try.pinned (OpenSpec.upto fnProductMorganSpec)

/-- 'laws.FnProductSelf', WHERE WHAT IT READS IS OF BULK AT MOST 1048576: true; the input reads as it did. -/
def fnProductSelfUptoRow : OpenClaim := { program := "ytdejmfkpohgamaa", sum := "26ffd7094d9bfcc6551f9f8244f264609cc6129bd171701d3aac757dca2b2bf2", func := "loop.example/assumeguarantee/laws.FnProductSelf", spec := "fnProductSelf", unfollowed := true, recurses := true, apart := false, narrowed := true }
def FnProductSelfUptoSaid : Prop := fnProductSelfUptoRow.holds Try.pinned (OpenSpec.upto fnProductSelfSpec)

/-- 'laws.FnProductWord', WHERE WHAT IT READS IS OF BULK AT MOST 1048576: true; the input reads as it did. -/
def fnProductWordUptoRow : OpenClaim := { program := "ytdejmfkpohgamaa", sum := "26ffd7094d9bfcc6551f9f8244f264609cc6129bd171701d3aac757dca2b2bf2", func := "loop.example/assumeguarantee/laws.FnProductWord", spec := "fnProductWord", unfollowed := true, recurses := true, apart := false, narrowed := true }
def FnProductWordUptoSaid : Prop := fnProductWordUptoRow.holds Try.pinned (OpenSpec.upto fnProductWordSpec)

/-- 'laws.FnProductSafety', WHERE WHAT IT READS IS OF BULK AT MOST 1048576: true; the input reads as it did. -/
def fnProductSafetyUptoRow : OpenClaim := { program := "ytdejmfkpohgamaa", sum := "26ffd7094d9bfcc6551f9f8244f264609cc6129bd171701d3aac757dca2b2bf2", func := "loop.example/assumeguarantee/laws.FnProductSafety", spec := "fnProductSafety", unfollowed := true, recurses := true, apart := false, narrowed := true }
def FnProductSafetyUptoSaid : Prop := fnProductSafetyUptoRow.holds Try.pinned (OpenSpec.upto fnProductSafetySpec)

/-- 'laws.FnProductWithin', WHERE WHAT IT READS IS OF BULK AT MOST 1048576: true; the input reads as it did. -/
def fnProductWithinUptoRow : OpenClaim := { program := "ytdejmfkpohgamaa", sum := "26ffd7094d9bfcc6551f9f8244f264609cc6129bd171701d3aac757dca2b2bf2", func := "loop.example/assumeguarantee/laws.FnProductWithin", spec := "fnProductWithin", unfollowed := true, recurses := true, apart := false, narrowed := true }
def FnProductWithinUptoSaid : Prop := fnProductWithinUptoRow.holds Try.pinned (OpenSpec.upto fnProductWithinSpec)

/-- 'laws.FnTrimStays', WHERE WHAT IT READS IS OF BULK AT MOST 1048576: true; the input reads as it did. -/
def fnTrimStaysUptoRow : OpenClaim := { program := "ytdejmfkpohgamaa", sum := "26ffd7094d9bfcc6551f9f8244f264609cc6129bd171701d3aac757dca2b2bf2", func := "loop.example/assumeguarantee/laws.FnTrimStays", spec := "fnTrimStays", unfollowed := true, recurses := true, apart := false, narrowed := true }
def FnTrimStaysUptoSaid : Prop := fnTrimStaysUptoRow.holds Try.pinned (OpenSpec.upto fnTrimStaysSpec)

/-- 'laws.FnTrimAutomaton', WHERE WHAT IT READS IS OF BULK AT MOST 1048576: true; the input reads as it did. -/
def fnTrimAutomatonUptoRow : OpenClaim := { program := "ytdejmfkpohgamaa", sum := "26ffd7094d9bfcc6551f9f8244f264609cc6129bd171701d3aac757dca2b2bf2", func := "loop.example/assumeguarantee/laws.FnTrimAutomaton", spec := "fnTrimAutomaton", unfollowed := true, recurses := true, apart := false, narrowed := true }
def FnTrimAutomatonUptoSaid : Prop := fnTrimAutomatonUptoRow.holds Try.pinned (OpenSpec.upto fnTrimAutomatonSpec)

/-- 'laws.FnTrimOrder', WHERE WHAT IT READS IS OF BULK AT MOST 1048576: true; the input reads as it did. -/
def fnTrimOrderUptoRow : OpenClaim := { program := "ytdejmfkpohgamaa", sum := "26ffd7094d9bfcc6551f9f8244f264609cc6129bd171701d3aac757dca2b2bf2", func := "loop.example/assumeguarantee/laws.FnTrimOrder", spec := "fnTrimOrder", unfollowed := true, recurses := true, apart := false, narrowed := true }
def FnTrimOrderUptoSaid : Prop := fnTrimOrderUptoRow.holds Try.pinned (OpenSpec.upto fnTrimOrderSpec)

end Rows
end Go.Proofs.Ytdejmfkpohgamaa
