/-
  The law FnExactIsPrefixClosed of the given program holds for all arguments, as the statement says: whatever they are, it returns true, and what it reads is as it was. No conditions.
-/
import Derived.Test.YtdkdpmmfebdeaaaRows
import Derived.Test.YtdkdpmmfebdeaaaGc5
import Derived.WalkKit
import Derived.ProofKit
import Derived.OpenShut
import Derived.ShutString
import Derived.ChangeOld
import Derived.Below
namespace Go.Proofs.Ytdkdpmmfebdeaaa.fnExactIsPrefixClosedDone
open Go.Joins Go.ChangeShapes Go.WideShapes Go.ChangeAt Go.RowKit
open Go.ChangeMaps (open_string shut_string)
set_option linter.unusedVariables false
set_option linter.unusedSimpArgs false

theorem own : ownKnob Try.prog.godebug = none := by kernel_rfl
theorem laidOut : laidOutB Try.prog = true := by kernel_rfl

theorem walk (w : World) (a0 : A) (nx0 ac0 : Value) (hx0 : RowsX w nx0 a0.next) (hc0 : BoolsX w ac0 a0.acc) :
    Calls Try.prog 12 #[.agg #[.int .i64 a0.al, nx0, ac0]] w fun e w' => e = .returned (.bool true) ∧ Below w.heap.size w w' := by
  refine (show Calls _ _ _ _ _ from lExPC w a0 nx0 ac0 hx0 hc0).mono fun e w' h => ?_
  obtain ⟨v, rfl, rfl, x⟩ := h
  exact ⟨rfl, x⟩

set_option maxRecDepth 100000 in
theorem lifted (os : Os) (started : os.Started) (H : Type) (enc : TypeId × Value → H) :
    ReturnsInHanded {} Try.checked os 12 .any (Rows.fnExactIsPrefixClosedSpec.pre6 enc Try.prog Try.f12 Rows.fnExactIsPrefixClosedRow.domain false) (Rows.fnExactIsPrefixClosedSpec.post enc Try.prog Try.f12 false true false false) := by
  refine returnsInHanded_of_change (C := Try.checked) own started (by kernel_rfl) Try.func12
    (ChangeSpec.witness6 (enc := enc) (C := Try.checked) false ⟨#[], #[.agg #[.int .i64 0, .slice none 0 0, .slice none 0 0]], []⟩ 8 (by kernel_rfl) (by kernel_rfl) (by kernel_rfl) (by kernel_rfl)) ?_
  intro W base args ds gs before hval0 hW hcnd _
  have hval : ∀ (j : Nat) t v, Try.f12.params[j]? = some t → args[j]? = some v → Value.okWide Try.prog W .any base t v := hval0
  have hW' := hW
  obtain ⟨p, q, hA0, hV, rfl, hfz, hnd⟩ := hW
  have hA : DataW.TrodAll enc Try.prog W 0 (fun _ => true) true Try.f12.params.toList args.toList ds p := hA0
  rw [Try.params12] at hA hval
  obtain ⟨v0, vs0, d0, ds0, p0, q0, hargs, rfl, rfl, h0, r0⟩ := trodAll_cons hA
  obtain ⟨rfl, rfl, rfl⟩ := trodAll_nil r0
  obtain rfl : args = #[v0] := by cases args; simp_all
  obtain ⟨rfl, rfl⟩ := trodVars_none hV
  have k0 := h0
  have lt0 : ∀ x ∈ p0, x.block < W.heap.size := by obtain ⟨m, hm⟩ := k0; exact DataW.trod_lt m _ _ _ hm
  obtain ⟨u0, nx0, ac0, y0, yy0, yyy0, m0, rfl, rfl, rfl, t0, tt0, ttt0⟩ := open_agg3 Try.underlying25 (by kernel_rfl) (by kernel_rfl) (hval 0 25 v0 rfl rfl) h0
  obtain ⟨al0, hal0, _⟩ := DataW.trod_int Try.underlying3 t0
  obtain rfl : u0 = .int .i64 al0 := by simpa using hal0
  obtain ⟨xss0, hx0⟩ := rows_came Try.underlying22 Try.underlying52 Try.underlying3 (by kernel_rfl) (by kernel_rfl) tt0
  obtain ⟨ys0, hc0⟩ := bools_came Try.underlying23 Try.underlying4 (by kernel_rfl) ttt0
  clear hA0 hval0
  refine (walk W ⟨al0, xss0, ys0⟩ nx0 ac0 hx0 hc0).mono fun e W' ⟨he, bel⟩ => ?_
  subst he
  exact ⟨_, rfl, _, _, _, [], _, [], hW', trodAll_mk1 (shut_bool Try.underlying4 _), (trodAll_cons_mk (Below.trod laidOut (by kernel_rfl) (of_decide_eq_true (by kernel_rfl)) k0 bel lt0) trodAll_mk0), rfl, bel.frame _, fun h => by cases h⟩

theorem over : Rows.fnExactIsPrefixClosedRow.holds Try.pinned (OpenSpec.ofChange Rows.fnExactIsPrefixClosedSpec) :=
  OpenClaim.holds_of_wide 12 Try.f12 rfl rfl rfl rfl rfl rfl rfl ⟨rfl, rfl, rfl, rfl, rfl⟩ rfl rfl rfl rfl rfl (by kernel_rfl) Try.func12 (by kernel_rfl)
    (of_decide_eq_true (by kernel_rfl)) (by unfold Func.isWrapper; first | (rw [if_pos (by decide +kernel)]; kernel_rfl) | (rw [if_neg (by decide +kernel)]; exact ⟨rfl, rfl⟩))
    (fun os started H enc _ => lifted os started H enc)

/-- The statement. -/
theorem proved : Rows.FnExactIsPrefixClosedSaid := over
end Go.Proofs.Ytdkdpmmfebdeaaa.fnExactIsPrefixClosedDone
