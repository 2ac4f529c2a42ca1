/-
  More closed facts on this seat's types, printed by a program (wip/ty.py); each is checked by the kernel.
-/
import Derived.Test.YtdkdpmmfebdeaaaTy
import Derived.Test.YtdkdpmmfebdeaaaNum
set_option linter.unusedSimpArgs false
set_option linter.unusedVariables false
namespace Go.Proofs.Ytdkdpmmfebdeaaa
set_option maxRecDepth 100000
theorem slw56 : SlW Try.prog 56 55 (.agg #[.int .i64 0, .int .i64 0]) 2 := ⟨by kernel_rfl, ⟨_, rfl, by kernel_rfl, by kernel_rfl, by decide⟩, by kernel_rfl, by decide⟩
theorem slw67 : SlW Try.prog 67 27 (.agg #[.int .i64 0, .slice none 0 0, .slice none 0 0]) 3 := ⟨by kernel_rfl, ⟨_, rfl, by kernel_rfl, by kernel_rfl, by decide⟩, by kernel_rfl, by decide⟩
theorem key82 : KeyT Try.prog 82 encI := keyI (kt := 3) (et := 3) (by kernel_rfl) (by kernel_rfl) zero3
theorem undm82 : Try.prog.underlying 82 = some (.map 3 3) := by kernel_rfl
theorem slw104 : SlW Try.prog 104 106 (.agg #[.int .i64 0, .int .i64 0, .slice none 0 0]) 3 := ⟨by kernel_rfl, ⟨_, rfl, by kernel_rfl, by kernel_rfl, by decide⟩, by kernel_rfl, by decide⟩
end Go.Proofs.Ytdkdpmmfebdeaaa
