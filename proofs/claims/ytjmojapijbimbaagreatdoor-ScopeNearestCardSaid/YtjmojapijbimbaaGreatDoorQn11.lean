/- A part of the proof of the law: Ins3. Conditions: none. -/
import Derived.Test.YtjmojapijbimbaaGreatDoorQn10
set_option linter.unusedVariables false
set_option linter.unusedSimpArgs false
namespace Go.Eng
open Go.Proofs
theorem head_run : okB (callN E1 60 none (.fn 11 []) ⟨hp0, 0⟩) = true := by kernel_rfl
end Go.Eng
