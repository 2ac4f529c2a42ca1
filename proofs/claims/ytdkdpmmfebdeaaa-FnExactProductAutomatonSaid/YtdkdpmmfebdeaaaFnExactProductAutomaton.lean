/-
  The law FnExactProductAutomaton of the given program holds for all arguments, as the statement says: whatever they are, it returns true, and what it reads is as it was. No conditions.
-/
import Derived.Test.YtdkdpmmfebdeaaaRows
import Derived.Test.YtdkdpmmfebdeaaaGc5
import Derived.WalkKit
import Derived.ProofKit
import Derived.OpenShut
import Derived.ShutString
import Derived.ChangeOld
import Derived.Below
namespace Go.Proofs.Ytdkdpmmfebdeaaa.fnExactProductAutomatonDone
open Go.Joins Go.ChangeShapes Go.WideShapes Go.ChangeAt Go.RowKit
open Go.ChangeMaps (open_string shut_string)
set_option linter.unusedVariables false
set_option linter.unusedSimpArgs false

theorem own : ownKnob Try.prog.godebug = none := by kernel_rfl
theorem laidOut : laidOutB Try.prog = true := by kernel_rfl

theorem walk (w : World) (a0 : A) (a1 : A) (nx0 ac0 : Value) (nx1 ac1 : Value) (hx0 : RowsX w nx0 a0.next) (hc0 : BoolsX w ac0 a0.acc) (hx1 : RowsX w nx1 a1.next) (hc1 : BoolsX w ac1 a1.acc) (n2 : Int) :
    Calls Try.prog 4 #[.agg #[.int .i64 a0.al, nx0, ac0], .agg #[.int .i64 a1.al, nx1, ac1], .int .i64 n2] w fun e w' => e = .returned (.bool true) ∧ Below w.heap.size w w' := by
  refine (show Calls _ _ _ _ _ from lExProd w a0 a1 nx0 ac0 nx1 ac1 hx0 hc0 hx1 hc1 n2).mono fun e w' h => ?_
  obtain ⟨v, rfl, rfl, x⟩ := h
  exact ⟨rfl, x⟩

set_option maxRecDepth 100000 in
theorem lifted (os : Os) (started : os.Started) (H : Type) (enc : TypeId × Value → H) :
    ReturnsInHanded {} Try.checked os 4 .any (Rows.fnExactProductAutomatonSpec.pre6 enc Try.prog Try.f4 Rows.fnExactProductAutomatonRow.domain false) (Rows.fnExactProductAutomatonSpec.post enc Try.prog Try.f4 false true false false) := by
  refine returnsInHanded_of_change (C := Try.checked) own started (by kernel_rfl) Try.func4
    (ChangeSpec.witness6 (enc := enc) (C := Try.checked) false ⟨#[], #[.agg #[.int .i64 0, .slice none 0 0, .slice none 0 0], .agg #[.int .i64 0, .slice none 0 0, .slice none 0 0], .int .i64 0], []⟩ 8 (by kernel_rfl) (by kernel_rfl) (by kernel_rfl) (by kernel_rfl)) ?_
  intro W base args ds gs before hval0 hW hcnd _
  have hval : ∀ (j : Nat) t v, Try.f4.params[j]? = some t → args[j]? = some v → Value.okWide Try.prog W .any base t v := hval0
  have hW' := hW
  obtain ⟨p, q, hA0, hV, rfl, hfz, hnd⟩ := hW
  have hA : DataW.TrodAll enc Try.prog W 0 (fun _ => true) true Try.f4.params.toList args.toList ds p := hA0
  rw [Try.params4] at hA hval
  obtain ⟨v0, vs0, d0, ds0, p0, q0, hargs, rfl, rfl, h0, r0⟩ := trodAll_cons hA
  obtain ⟨v1, vs1, d1, ds1, p1, q1, rfl, rfl, rfl, h1, r1⟩ := trodAll_cons r0
  obtain ⟨v2, vs2, d2, ds2, p2, q2, rfl, rfl, rfl, h2, r2⟩ := trodAll_cons r1
  obtain ⟨rfl, rfl, rfl⟩ := trodAll_nil r2
  obtain rfl : args = #[v0, v1, v2] := by cases args; simp_all
  obtain ⟨rfl, rfl⟩ := trodVars_none hV
  have k0 := h0
  have lt0 : ∀ x ∈ p0, x.block < W.heap.size := by obtain ⟨m, hm⟩ := k0; exact DataW.trod_lt m _ _ _ hm
  obtain ⟨u0, nx0, ac0, y0, yy0, yyy0, m0, rfl, rfl, rfl, t0, tt0, ttt0⟩ := open_agg3 Try.underlying25 (by kernel_rfl) (by kernel_rfl) (hval 0 25 v0 rfl rfl) h0
  obtain ⟨al0, hal0, _⟩ := DataW.trod_int Try.underlying3 t0
  obtain rfl : u0 = .int .i64 al0 := by simpa using hal0
  obtain ⟨xss0, hx0⟩ := rows_came Try.underlying22 Try.underlying52 Try.underlying3 (by kernel_rfl) (by kernel_rfl) tt0
  obtain ⟨ys0, hc0⟩ := bools_came Try.underlying23 Try.underlying4 (by kernel_rfl) ttt0
  have k1 := h1
  have lt1 : ∀ x ∈ p1, x.block < W.heap.size := by obtain ⟨m, hm⟩ := k1; exact DataW.trod_lt m _ _ _ hm
  obtain ⟨u1, nx1, ac1, y1, yy1, yyy1, m1, rfl, rfl, rfl, t1, tt1, ttt1⟩ := open_agg3 Try.underlying25 (by kernel_rfl) (by kernel_rfl) (hval 1 25 v1 rfl rfl) h1
  obtain ⟨al1, hal1, _⟩ := DataW.trod_int Try.underlying3 t1
  obtain rfl : u1 = .int .i64 al1 := by simpa using hal1
  obtain ⟨xss1, hx1⟩ := rows_came Try.underlying22 Try.underlying52 Try.underlying3 (by kernel_rfl) (by kernel_rfl) tt1
  obtain ⟨ys1, hc1⟩ := bools_came Try.underlying23 Try.underlying4 (by kernel_rfl) ttt1
  have k2 := h2
  have lt2 : ∀ x ∈ p2, x.block < W.heap.size := by obtain ⟨m, hm⟩ := k2; exact DataW.trod_lt m _ _ _ hm
  obtain ⟨n2, rfl, rfl, rfl, _⟩ := open_int Try.underlying3 (hval 2 3 v2 rfl rfl) h2
  clear hA0 hval0
  refine (walk W ⟨al0, xss0, ys0⟩ ⟨al1, xss1, ys1⟩ nx0 ac0 nx1 ac1 hx0 hc0 hx1 hc1 n2).mono fun e W' ⟨he, bel⟩ => ?_
  subst he
  exact ⟨_, rfl, _, _, _, [], _, [], hW', trodAll_mk1 (shut_bool Try.underlying4 _), (trodAll_cons_mk (Below.trod laidOut (by kernel_rfl) (of_decide_eq_true (by kernel_rfl)) k0 bel lt0) (trodAll_cons_mk (Below.trod laidOut (by kernel_rfl) (of_decide_eq_true (by kernel_rfl)) k1 bel lt1) (trodAll_cons_mk (Below.trod laidOut (by kernel_rfl) (of_decide_eq_true (by kernel_rfl)) k2 bel lt2) trodAll_mk0))), rfl, bel.frame _, fun h => by cases h⟩

theorem over : Rows.fnExactProductAutomatonRow.holds Try.pinned (OpenSpec.ofChange Rows.fnExactProductAutomatonSpec) :=
  OpenClaim.holds_of_wide 4 Try.f4 rfl rfl rfl rfl rfl rfl rfl ⟨rfl, rfl, rfl, rfl, rfl⟩ rfl rfl rfl rfl rfl (by kernel_rfl) Try.func4 (by kernel_rfl)
    (of_decide_eq_true (by kernel_rfl)) (by unfold Func.isWrapper; first | (rw [if_pos (by decide +kernel)]; kernel_rfl) | (rw [if_neg (by decide +kernel)]; exact ⟨rfl, rfl⟩))
    (fun os started H enc _ => lifted os started H enc)

/-- The statement. -/
theorem proved : Rows.FnExactProductAutomatonSaid := over
end Go.Proofs.Ytdkdpmmfebdeaaa.fnExactProductAutomatonDone
