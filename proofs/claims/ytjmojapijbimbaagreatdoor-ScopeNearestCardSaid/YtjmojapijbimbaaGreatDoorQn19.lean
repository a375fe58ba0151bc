/- A part of the proof of the law: PaDScopeNearest. Conditions: none. -/
import Derived.Test.YtjmojapijbimbaaGreatDoorQn18
set_option linter.unusedVariables false
set_option linter.unusedSimpArgs false
namespace Go.Proofs.YtjmojapijbimbaaGreatDoor.Pa
set_option maxRecDepth 100000 in
theorem nearest_closed : joinedFacts Tryz.pinned.checked.prog 5 Tryz.f5 Rows.scopeNearestSpec Rows.scopeNearestRow = true := by
  unfold joinedFacts
  exact (nearest_and (nearest_and (nearest_and (nearest_and (nearest_and (nearest_and (nearest_and (nearest_and (nearest_and (nearest_and (nearest_and (nearest_and (nearest_and (nearest_and (nearest_and (nearest_and (nearest_and (nearest_and (nearest_and (nearest_and (nearest_and (nearest_and (nearest_and (nearest_and (nearest_and (nearest_and (nearest_and (nearest_and (nearest_and (nearest_and (nearest_and nearest_c0 nearest_c1) nearest_c2) nearest_c3) nearest_c4) nearest_c5) nearest_c6) nearest_c7) nearest_c8) nearest_c9) nearest_c10) nearest_c11) nearest_c12) nearest_c13) nearest_c14) nearest_c15) nearest_c16) nearest_c17) nearest_c18) nearest_c19) nearest_c20) nearest_c21) nearest_c22) nearest_c23) nearest_c24) nearest_c25) nearest_c26) nearest_c27) nearest_c28) nearest_c29) nearest_c30) nearest_c31)
end Go.Proofs.YtjmojapijbimbaaGreatDoor.Pa
