/- The law that the claim names holds for every input that its row lets in. Conditions: none beyond the row. -/
import Derived.Test.YtjmojapijbimbaaGreatDoorCards
import Derived.Test.YtjmojapijbimbaaGreatDoorTie
import Derived.Test.YtjmojapijbimbaaGreatDoorQn16
import Derived.Test.YtjmojapijbimbaaGreatDoorQn17
import Derived.Test.YtjmojapijbimbaaGreatDoorQn19
set_option linter.unusedVariables false
set_option linter.unusedSimpArgs false
namespace Go.Proofs.YtjmojapijbimbaaGreatDoor.Pa
open Go.RowKit Go.ChangeShapes Go.WideShapes Go.ChangeMaps
set_option maxRecDepth 100000 in
theorem nearest_contract (H : Type) (enc : TypeId × Value → H) (W : World) (base : Nat) (args : Array Value) (ds gs : List (DataW H)) (before : List MemPlace)
    (hval : ∀ (j : Nat) t v, Tryz.f5.params[j]? = some t → args[j]? = some v → Value.okWide Tryz.prog W .any base t v)
    (hW : DataW.Whole enc Tryz.prog Tryz.f5.params.toList Rows.scopeNearestSpec.vars false W args.toList ds gs before) (hsh : W.ShapedOpen Tryz.prog) :
    Calls Tryz.prog 5 args W fun e W' => ∃ v, e = .returned v ∧ Rows.scopeNearestSpec.post enc Tryz.prog Tryz.f5 false true false false W args v W' := by
  have hW' := hW
  obtain ⟨p, q, hA0, hV, rfl, hfz, hnd⟩ := hW
  have hA : DataW.TrodAll enc Tryz.prog W 0 (fun _ => true) true Tryz.f5.params.toList args.toList ds p := hA0
  rw [Tryz.params5] at hA hval
  obtain ⟨v0, v1, v2, v3, d0, d1, d2, d3, p0, p1, p2, p3, rfl, rfl, rfl, h0, h1, h2, h3⟩ := trodAll_four hA
  obtain ⟨rfl, rfl⟩ := trodVars_none hV
  obtain ⟨A0, c0, xs, rfl, hc0, hC0⟩ := open24 (hval 0 24 v0 rfl rfl) h0
  obtain ⟨A1, c1, ys, rfl, hc1, hC1⟩ := open25 (hval 1 25 v1 rfl rfl) h1
  obtain ⟨s2, rfl, _, _, _⟩ := open_string Tryz.underlying9 (hval 2 9 v2 rfl rfl) h2
  obtain ⟨s3, rfl, _, _, _⟩ := open_string Tryz.underlying9 (hval 3 9 v3 rfl rfl) h3
  obtain ⟨k, hk⟩ := (nearest_ev xs ys s2 s3 (Int.ofNat_le.2 hC0.2.1) (Int.ofNat_le.2 hC1.2.1)).ex
  refine (pandectlaw13_ScopeNearest.calls k A0 c0 xs A1 c1 ys s2 s3 true W (glob_of hsh) hC0 hc0 hC1 hc1 hk).mono fun e W' ⟨he, hb⟩ => ?_
  subst he
  refine ⟨_, rfl, post_kept rfl hW' rfl (by kernel_rfl) ?_ hb⟩
  rw [Tryz.params5]
  intro t ht
  rcases List.mem_cons.1 ht with rfl | ht
  · exact ⟨by kernel_rfl, of_decide_eq_true (by kernel_rfl)⟩
  rcases List.mem_cons.1 ht with rfl | ht
  · exact ⟨by kernel_rfl, of_decide_eq_true (by kernel_rfl)⟩
  rcases List.mem_cons.1 ht with rfl | ht
  · exact ⟨by kernel_rfl, of_decide_eq_true (by kernel_rfl)⟩
  rcases List.mem_cons.1 ht with rfl | ht
  · exact ⟨by kernel_rfl, of_decide_eq_true (by kernel_rfl)⟩
  · cases ht
noncomputable abbrev nearestArgs : Array Value := #[.agg #[.slice none 0 0], .slice none 0 0, .string ⟨#[]⟩, .string ⟨#[]⟩]
theorem nearest_met (os : Os) : laidMet Tryz.prog Rows.scopeNearestRow.laid ((laidWorld os).forCall (fun _ _ => 0) ⟨#[], nearestArgs, []⟩).memory :=
  laidMet_of_run' 8 (by kernel_rfl) (by kernel_rfl)
theorem nearest_reads (os : Os) {H : Type} (enc : TypeId × Value → H) : ∃ places, DataW.whole enc Tryz.prog ((laidWorld os).forCall (fun _ _ => 0) ⟨#[], nearestArgs, []⟩).memory Tryz.f5.params.toList Rows.scopeNearestSpec.vars false nearestArgs.toList 8 = some ([.agg [.nil], .nil, .lit (.string []), .lit (.string [])], [], places) :=
  ⟨[], by kernel_rfl⟩
set_option maxRecDepth 100000 in
theorem nearest_lifted (os : Os) (started : os.Started) (H : Type) (enc : TypeId × Value → H) (F : Stop.Interp) :
    ReturnsInHanded {} Tryz.checked os 5 .any ((OpenSpec.ofChange Rows.scopeNearestSpec).preRow enc Tryz.prog Tryz.f5 Rows.scopeNearestRow.domain false Rows.scopeNearestRow.laid) (((OpenSpec.ofChange Rows.scopeNearestSpec).at F).post enc Tryz.prog Tryz.f5 false true false false) := by
  obtain ⟨places, hx⟩ := nearest_reads os enc
  refine returnsInHanded_of_row (C := Tryz.checked) (s := OpenSpec.ofChange Rows.scopeNearestSpec) own started (by kernel_rfl) Tryz.func5
    (witness_row_atRef (enc := enc) (C := Tryz.checked) false (laidWorld os) nearestArgs rfl (by kernel_rfl) (by kernel_rfl) (by kernel_rfl)
      (OpenSpec.preRow_of_cond 8 hx (by kernel_rfl) (fun k hk => by cases hk) (by kernel_rfl) (nearest_met os))) ?_
  intro W base args ds gs before hval hW _ _ _ hL hsh _
  exact nearest_contract H enc W base args ds gs before hval hW hsh
theorem nearest_said : Rows.ScopeNearestSaid :=
  OpenClaim.holds_of_cond 5 Tryz.f5 rfl rfl rfl rfl rfl rfl rfl ⟨rfl, rfl, rfl, rfl, rfl⟩ rfl rfl rfl rfl rfl nearest_named Tryz.func5 nearest_closed nearest_inst nearest_wrap
    (fun os started H enc _ F => by rw [OpenClaim.pre_eq_preRow]; exact nearest_lifted os started H enc F)
theorem looks_true : true = Tryz.pinned.checked.prog.looks [] := by kernel_rfl
theorem nearest_plain (f : FuncId) (fn : Func) (hf : Tryz.pinned.checked.prog.funcNamed "pandect/pandectlaw13.ScopeNearest" = some f) (hfn : Tryz.pinned.checked.prog.funcs[f]? = some fn) :
    true = Tryz.pinned.checked.prog.looks [] ∧ ∀ (j : Nat) t, fn.params[j]? = some t → Tryz.pinned.checked.prog.wantsStandIn t = false := by
  obtain rfl : f = 5 := Option.some.inj ((show Tryz.prog.funcNamed "pandect/pandectlaw13.ScopeNearest" = some 5 by kernel_rfl).symm.trans hf) |>.symm
  obtain rfl : fn = Tryz.f5 := (Option.some.inj (Tryz.func5.symm.trans hfn)).symm
  refine ⟨looks_true, fun j t ht => ?_⟩
  rw [Tryz.params5] at ht
  have ht := Array.mem_of_getElem? ht
  have : t = 24 ∨ t = 25 ∨ t = 9 := by
    simp at ht
    omega
  rcases this with rfl | rfl | rfl
  · exact (show Tryz.prog.wantsStandIn 24 = false by kernel_rfl)
  · exact (show Tryz.prog.wantsStandIn 25 = false by kernel_rfl)
  · exact (show Tryz.prog.wantsStandIn 9 = false by kernel_rfl)
end Go.Proofs.YtjmojapijbimbaaGreatDoor.Pa
namespace Go.Proofs.YtjmojapijbimbaaGreatDoor
theorem nearest_card : Rows.ScopeNearestCardSaid := by
  refine Claim7.holds_tied_plain_at .later [] _ _ _ _ Pa.nearest_said (fun _ h => by cases h) ?a (fun _ h => by cases h) scopeNearest_row_tie rfl ⟨rfl, rfl⟩ ?b rfl Pa.nearest_plain ?c
  case a => as_aux_lemma => kernel_rfl
  case b => as_aux_lemma => kernel_rfl
  case c => as_aux_lemma => kernel_rfl
end Go.Proofs.YtjmojapijbimbaaGreatDoor
