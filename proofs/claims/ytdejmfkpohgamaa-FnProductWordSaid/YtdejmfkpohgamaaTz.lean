/-
  More closed facts on this seat's types, printed by a program (wip/ty.py); each is checked by the kernel.
-/
import Derived.Test.YtdejmfkpohgamaaTy
import Derived.Test.YtdejmfkpohgamaaNum
set_option linter.unusedSimpArgs false
set_option linter.unusedVariables false
namespace Go.Proofs.Ytdejmfkpohgamaa
set_option maxRecDepth 100000
theorem slw66 : SlW Try.prog 66 65 (.agg #[.int .i64 0, .int .i64 0]) 2 := ⟨by kernel_rfl, ⟨_, rfl, by kernel_rfl, by kernel_rfl, by decide⟩, by kernel_rfl, by decide⟩
theorem key94 : KeyT Try.prog 94 encI := keyI (kt := 3) (et := 3) (by kernel_rfl) (by kernel_rfl) zero3
theorem undm94 : Try.prog.underlying 94 = some (.map 3 3) := by kernel_rfl
theorem slw102 : SlW Try.prog 102 26 (.agg #[.int .i64 0, .slice none 0 0, .slice none 0 0]) 3 := ⟨by kernel_rfl, ⟨_, rfl, by kernel_rfl, by kernel_rfl, by decide⟩, by kernel_rfl, by decide⟩
theorem slw116 : SlW Try.prog 116 118 (.agg #[.int .i64 0, .int .i64 0, .slice none 0 0]) 3 := ⟨by kernel_rfl, ⟨_, rfl, by kernel_rfl, by kernel_rfl, by decide⟩, by kernel_rfl, by decide⟩
end Go.Proofs.Ytdejmfkpohgamaa
