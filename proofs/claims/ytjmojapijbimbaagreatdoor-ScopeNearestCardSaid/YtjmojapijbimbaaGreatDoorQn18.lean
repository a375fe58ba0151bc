/- A part of the proof of the law: PaCScopeNearest. Conditions: none. -/
import Derived.Test.YtjmojapijbimbaaGreatDoorCards
import Derived.JoinedOf
import Derived.KernelRfl
set_option linter.unusedVariables false
set_option linter.unusedSimpArgs false
namespace Go.Proofs.YtjmojapijbimbaaGreatDoor.Pa
theorem nearest_and {a b : Bool} (h : a = true) (k : b = true) : (a && b) = true := by rw [h, k]; rfl
theorem nearest_c0 : (Rows.scopeNearestRow.wf (OpenSpec.ofChange Rows.scopeNearestSpec)) = true := by kernel_rfl
theorem nearest_c1 : (laidOutB Tryz.pinned.checked.prog) = true := by kernel_rfl
theorem nearest_c2 : (mapsRowed Tryz.pinned.checked.prog) = true := by kernel_rfl
theorem nearest_c3 : (Tryz.f5.params.all (Tryz.pinned.checked.prog.readableRec ·)) = true := by kernel_rfl
theorem nearest_c4 : (namedTie Tryz.pinned.checked.prog Rows.scopeNearestRow.named Rows.scopeNearestSpec.vars) = true := by kernel_rfl
theorem nearest_c5 : ((Rows.scopeNearestRow.stops == [])) = true := by kernel_rfl
theorem nearest_c6 : ((Tryz.pinned.checked.prog.stops == [])) = true := by kernel_rfl
theorem nearest_c7 : ((Rows.scopeNearestRow.knobs == [])) = true := by kernel_rfl
theorem nearest_c8 : ((Tryz.pinned.checked.prog.stopKnobs == [])) = true := by kernel_rfl
theorem nearest_c9 : ((Rows.scopeNearestRow.inPlace == Tryz.pinned.checked.prog.inPlace 5)) = true := by kernel_rfl
theorem nearest_c10 : ((Rows.scopeNearestRow.unfollowed == Tryz.pinned.checked.prog.unfollowed 5)) = true := by kernel_rfl
theorem nearest_c11 : ((Rows.scopeNearestRow.recurses == Tryz.pinned.checked.prog.recurses 5)) = true := by kernel_rfl
theorem nearest_c12 : ((Rows.scopeNearestRow.named == Tryz.pinned.checked.prog.varsNamed 5)) = true := by kernel_rfl
theorem nearest_c13 : ((Rows.scopeNearestRow.maps == (Tryz.f5.params.toList ++ Rows.scopeNearestSpec.plain.varTypes Tryz.pinned.checked.prog).any (Tryz.pinned.checked.prog.mapsRec ·))) = true := by kernel_rfl
theorem nearest_c14 : ((Rows.scopeNearestRow.ifaces == (Tryz.f5.params.toList ++ Rows.scopeNearestSpec.plain.varTypes Tryz.pinned.checked.prog).any (Tryz.pinned.checked.prog.ifacesRec ·))) = true := by kernel_rfl
theorem nearest_c15 : ((Rows.scopeNearestRow.mapsOut == Tryz.pinned.checked.prog.mapsAmong Tryz.f5.resultTypes.toList)) = true := by kernel_rfl
theorem nearest_c16 : ((Rows.scopeNearestRow.loops == (Tryz.f5.params.toList ++ Rows.scopeNearestSpec.plain.varTypes Tryz.pinned.checked.prog).any (Tryz.pinned.checked.prog.loopsFrom ·))) = true := by kernel_rfl
theorem nearest_c17 : ((Rows.scopeNearestRow.wideKeys == (Tryz.f5.params.toList ++ Rows.scopeNearestSpec.plain.varTypes Tryz.pinned.checked.prog ++ Tryz.f5.resultTypes.toList).any (Tryz.pinned.checked.prog.wideKeysFrom ·))) = true := by kernel_rfl
theorem nearest_c18 : (Rows.scopeNearestSpec.vars.all (Tryz.pinned.checked.prog.varReadable ·)) = true := by kernel_rfl
theorem nearest_c19 : (Tryz.f5.resultTypes.all (fun t => Tryz.pinned.checked.prog.readableRec t && decide (t < Tryz.pinned.checked.prog.types.size))) = true := by kernel_rfl
theorem nearest_c20 : ((Rows.scopeNearestRow.ifacesOut == Tryz.f5.resultTypes.toList.any (Tryz.pinned.checked.prog.ifacesRec ·))) = true := by kernel_rfl
theorem nearest_c21 : ((Rows.scopeNearestRow.loopsOut == Tryz.f5.resultTypes.toList.any (Tryz.pinned.checked.prog.loopsFrom ·))) = true := by kernel_rfl
theorem nearest_c22 : ((Rows.scopeNearestRow.plainKeys == Tryz.pinned.checked.prog.plainKeys)) = true := by kernel_rfl
theorem nearest_c23 : (Rows.scopeNearestRow.shortTexts.isNone) = true := by kernel_rfl
theorem nearest_c24 : (Tryz.pinned.checked.prog.stopsHeard) = true := by kernel_rfl
theorem nearest_c25 : (Tryz.pinned.checked.prog.mayEnter) = true := by kernel_rfl
theorem nearest_c26 : ((Rows.scopeNearestRow.lifted == Tryz.pinned.checked.prog.liftsFinal)) = true := by kernel_rfl
theorem nearest_c27 : ((Tryz.pinned.checked.prog.make == some Rows.scopeNearestRow.make)) = true := by kernel_rfl
theorem nearest_c28 : ((Rows.scopeNearestRow.kinds == (if Rows.scopeNearestRow.domain.isEmpty then [] else Tryz.f5.params.toList.map fun t => match Tryz.pinned.checked.prog.underlying t with | some (.int k) => some k | _ => none))) = true := by kernel_rfl
theorem nearest_c29 : ((Rows.scopeNearestRow.pinned == Rows.scopeNearestRow.pinnedBy)) = true := by kernel_rfl
theorem nearest_c30 : ((Rows.scopeNearestRow.veiled == (Tryz.f5.params.toList ++ Rows.scopeNearestSpec.plain.varTypes Tryz.pinned.checked.prog ++ Tryz.f5.resultTypes.toList).any (Tryz.pinned.checked.prog.veiledRec ·))) = true := by kernel_rfl
theorem nearest_c31 : (Rows.scopeNearestRow.veiledFits Tryz.pinned.checked.prog Tryz.f5.params.toList (Tryz.f5.params.toList ++ Rows.scopeNearestSpec.plain.varTypes Tryz.pinned.checked.prog ++ Tryz.f5.resultTypes.toList)) = true := by kernel_rfl
theorem nearest_named : Tryz.pinned.checked.prog.funcNamed Rows.scopeNearestRow.func = some 5 := by kernel_rfl
theorem nearest_inst : Tryz.f5.isInstance Tryz.pinned.checked.prog Rows.scopeNearestRow.origin Rows.scopeNearestRow.targs := of_decide_eq_true (by kernel_rfl)
theorem nearest_wrap : Tryz.f5.isWrapper Tryz.pinned.checked.prog Rows.scopeNearestRow.wrapper Rows.scopeNearestRow.mainSum := by unfold Func.isWrapper; first | (rw [if_pos (by decide +kernel)]; kernel_rfl) | (rw [if_neg (by decide +kernel)]; exact ⟨rfl, rfl⟩)
end Go.Proofs.YtjmojapijbimbaaGreatDoor.Pa
