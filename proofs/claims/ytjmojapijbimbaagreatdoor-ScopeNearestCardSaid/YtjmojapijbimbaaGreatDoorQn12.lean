/- A part of the proof of the law: Ins4. Conditions: none. -/
import Derived.Test.YtjmojapijbimbaaGreatDoorQn11
set_option linter.unusedVariables false
set_option linter.unusedSimpArgs false
namespace Go.Eng
open Go.Proofs
theorem head_calls (w : World) (m : Int) (hm : w.cell? ⟨2, 0, none⟩ = some (.int .i64 m)) :
    Calls Tryz.prog 11 #[] w fun e w' => e = .returned (.bool true) ∧ w.heap.size ≤ w'.heap.size ∧ (∀ c, c < w.heap.size → w'.heap[c]? = w.heap[c]?) ∧ w'.tape = w.tape ∧ w'.os = w.os ∧ w'.output = w.output := by
  have hgood : good0 fun c => w.heap[c]? := by
    cases e : w.heap[2]? with
    | none =>
      unfold World.cell? at hm
      simp only [e] at hm
      cases hm
    | some o =>
      refine ⟨o, e, m, fun w' hw' => ?_⟩
      have hw' : w'.heap[2]? = w.heap[2]? := hw'.trans e.symm
      rw [← hm]
      unfold World.cell?
      simp only [hw']
  obtain ⟨u', s', hcall⟩ := okB_some head_run
  refine (closed_call eok1 rfl hcall orc11 w hgood).mono ?_
  rintro e w' ⟨φ', v', rfl, hv, hs, hk, ht, ho, hu⟩
  cases hv
  exact ⟨rfl, hs, hk, ht, ho, hu⟩
end Go.Eng
