/- A part of the proof of the law: PaN. Conditions: none. -/
import Derived.Test.YtjmojapijbimbaaGreatDoorQn05
import Derived.Test.YtjmojapijbimbaaGreatDoorQn13
set_option linter.unusedVariables false
set_option linter.unusedSimpArgs false
namespace Go.Proofs.YtjmojapijbimbaaGreatDoor.Pa
open Go.RowKit Go.Proofs.YtjmojapijbimbaaGreatDoorW.PrintWords Go.Proofs.YtjmojapijbimbaaGreatDoorW.PrintLast Go.Proofs.YtjmojapijbimbaaGreatDoorW.PrintMore
attribute [local go_sem] max2_int min2_int max_two min_two max_three min_three max_four min_four
set_option linter.unusedVariables false
set_option linter.unusedSimpArgs false
noncomputable section
mutual
def pandectlaw13_ScopeNearest.j0 : Nat → List (S59) → ByteArray → ByteArray → Bool → Bool → List (S61) → Option (Bool)
  | 0, _, _, _, _, _, _ => none
  | k + 1, x1, x2, x3, x9, x29, x161000 => if x29 = true then (some x9) else ((scope_Find.f k x161000 x1 x2 x3).bind fun bt163 => (if bt163.2 = 1 then (pandectlaw13_ScopeNearest.j1 k x1 x2 x3 x9 bt163.1 bt163.2 true x161000) else (pandectlaw13_ScopeNearest.j1 k x1 x2 x3 x9 bt163.1 bt163.2 (bt163.2 == 11) x161000)))
def pandectlaw13_ScopeNearest.j1 : Nat → List (S59) → ByteArray → ByteArray → Bool → ByteArray → Int → Bool → List (S61) → Option (Bool)
  | 0, _, _, _, _, _, _, _, _ => none
  | k + 1, x1, x2, x3, x9, x10, x11, x44, x161000 => if x44 = true then (if x9 = true then (some (x10.toList == ([] : List UInt8))) else (some false)) else ((pandectref13_Around.f k x161000 x2).bind fun t165 => (pandectlaw13_ScopeNearest.l0 k x1 x3 x9 x10 x11 t165 0 x161000))
def pandectlaw13_ScopeNearest.l0 : Nat → List (S59) → ByteArray → Bool → ByteArray → Int → List ByteArray → Int → List (S61) → Option (Bool)
  | 0, _, _, _, _, _, _, _, _ => none
  | k + 1, x1, x3, x9, x10, x11, x12, x13, x161000 => if x13 < (x12.length : Int) then (pandectlaw13_ScopeNearest.l1 k x1 x3 x9 x10 x11 x12 x13 0 0 x161000) else (if x9 = true then (if x11 = 7 then (some (x10.toList == ([] : List UInt8))) else (some false)) else (some false))
def pandectlaw13_ScopeNearest.l1 : Nat → List (S59) → ByteArray → Bool → ByteArray → Int → List ByteArray → Int → Int → Int → List (S61) → Option (Bool)
  | 0, _, _, _, _, _, _, _, _, _, _ => none
  | k + 1, x1, x3, x9, x10, x11, x12, x13, x14, x15, x161000 => if x15 < (x1.length : Int) then (if 0 ≤ x15 then (if ((rd_T59 x1 x15).f2) = 1 then (pandectlaw13_ScopeNearest.j4 k x1 x3 x9 x10 x11 x12 x13 x14 x15 (((rd_T59 x1 x15).f3).toList != x3.toList) x161000) else (pandectlaw13_ScopeNearest.j4 k x1 x3 x9 x10 x11 x12 x13 x14 x15 true x161000)) else (none)) else (if x14 > 0 then (if x9 = true then (if x14 = 1 then (if x11 = 0 then (some true) else (if x14 > 1 then (if x11 = 9 then (some (x10.toList == ([] : List UInt8))) else (some false)) else (some false))) else (if x14 > 1 then (if x11 = 9 then (some (x10.toList == ([] : List UInt8))) else (some false)) else (some false))) else (some false)) else (pandectlaw13_ScopeNearest.l0 k x1 x3 x9 x10 x11 x12 (wrap64 (x13 + 1)) x161000))
def pandectlaw13_ScopeNearest.j4 : Nat → List (S59) → ByteArray → Bool → ByteArray → Int → List ByteArray → Int → Int → Int → Bool → List (S61) → Option (Bool)
  | 0, _, _, _, _, _, _, _, _, _, _, _ => none
  | k + 1, x1, x3, x9, x10, x11, x12, x13, x14, x15, x79, x161000 => if x79 = true then (pandectlaw13_ScopeNearest.l1 k x1 x3 x9 x10 x11 x12 x13 x14 (wrap64 (x15 + 1)) x161000) else (pandectlaw13_ScopeNearest.l2 k x1 x3 x9 x10 x11 x12 x13 x14 x15 0 x161000)
def pandectlaw13_ScopeNearest.l2 : Nat → List (S59) → ByteArray → Bool → ByteArray → Int → List ByteArray → Int → Int → Int → Int → List (S61) → Option (Bool)
  | 0, _, _, _, _, _, _, _, _, _, _, _ => none
  | k + 1, x1, x3, x9, x10, x11, x12, x13, x14, x15, x16, x161000 => if x16 < (x161000.length : Int) then (if 0 ≤ x16 then (if 0 ≤ x15 then (if x15 < (x1.length : Int) then (if ((rd_T61 x161000 x16).f1).toList = ((rd_T59 x1 x15).f0).toList then (if 0 ≤ x13 then (if x13 < (x12.length : Int) then (pandectlaw13_ScopeNearest.j6 k x1 x3 x9 x10 x11 x12 x13 x14 x15 x16 (((rd_T61 x161000 x16).f2).toList == (rdOf ByteArray.empty x12 x13).toList) x161000) else (none)) else (none)) else (pandectlaw13_ScopeNearest.j6 k x1 x3 x9 x10 x11 x12 x13 x14 x15 x16 false x161000)) else (none)) else (none)) else (none)) else (pandectlaw13_ScopeNearest.l1 k x1 x3 x9 x10 x11 x12 x13 x14 (wrap64 (x15 + 1)) x161000)
def pandectlaw13_ScopeNearest.j6 : Nat → List (S59) → ByteArray → Bool → ByteArray → Int → List ByteArray → Int → Int → Int → Int → Bool → List (S61) → Option (Bool)
  | 0, _, _, _, _, _, _, _, _, _, _, _, _ => none
  | k + 1, x1, x3, x9, x10, x11, x12, x13, x14, x15, x16, x111, x161000 => if x111 = true then (if x11 = 0 then (if 0 ≤ x15 then (if x15 < (x1.length : Int) then (if ((rd_T59 x1 x15).f0).toList = x10.toList then (pandectlaw13_ScopeNearest.l2 k x1 x3 x9 x10 x11 x12 x13 (wrap64 (x14 + 1)) x15 (wrap64 (x16 + 1)) x161000) else (some false)) else (none)) else (none)) else (pandectlaw13_ScopeNearest.l2 k x1 x3 x9 x10 x11 x12 x13 (wrap64 (x14 + 1)) x15 (wrap64 (x16 + 1)) x161000)) else (pandectlaw13_ScopeNearest.l2 k x1 x3 x9 x10 x11 x12 x13 x14 x15 (wrap64 (x16 + 1)) x161000)
end
def pandectlaw13_ScopeNearest.f (k : Nat) (l0_0 : List (S61)) (l1 : List (S59)) (a2 : ByteArray) (a3 : ByteArray) : Option (Bool) := (pandectlaw13_head.f).bind fun t161 => ((pandectlaw13_few.f k l0_0 l1).bind fun t162 => (if t162 = true then (pandectlaw13_ScopeNearest.j0 k l1 a2 a3 t161 (decide ((wrap64 ((a2.size : Int) + (a3.size : Int))) > 120)) l0_0) else (pandectlaw13_ScopeNearest.j0 k l1 a2 a3 t161 true l0_0)))
theorem pandectlaw13_ScopeNearest.mono_l : ∀ k, (∀ y0 y1 y2 y3 y4 y5, LeO (pandectlaw13_ScopeNearest.j0 k y0 y1 y2 y3 y4 y5) (pandectlaw13_ScopeNearest.j0 (k + 1) y0 y1 y2 y3 y4 y5)) ∧ (∀ y0 y1 y2 y3 y4 y5 y6 y7, LeO (pandectlaw13_ScopeNearest.j1 k y0 y1 y2 y3 y4 y5 y6 y7) (pandectlaw13_ScopeNearest.j1 (k + 1) y0 y1 y2 y3 y4 y5 y6 y7)) ∧ (∀ y0 y1 y2 y3 y4 y5 y6 y7, LeO (pandectlaw13_ScopeNearest.l0 k y0 y1 y2 y3 y4 y5 y6 y7) (pandectlaw13_ScopeNearest.l0 (k + 1) y0 y1 y2 y3 y4 y5 y6 y7)) ∧ (∀ y0 y1 y2 y3 y4 y5 y6 y7 y8 y9, LeO (pandectlaw13_ScopeNearest.l1 k y0 y1 y2 y3 y4 y5 y6 y7 y8 y9) (pandectlaw13_ScopeNearest.l1 (k + 1) y0 y1 y2 y3 y4 y5 y6 y7 y8 y9)) ∧ (∀ y0 y1 y2 y3 y4 y5 y6 y7 y8 y9 y10, LeO (pandectlaw13_ScopeNearest.j4 k y0 y1 y2 y3 y4 y5 y6 y7 y8 y9 y10) (pandectlaw13_ScopeNearest.j4 (k + 1) y0 y1 y2 y3 y4 y5 y6 y7 y8 y9 y10)) ∧ (∀ y0 y1 y2 y3 y4 y5 y6 y7 y8 y9 y10, LeO (pandectlaw13_ScopeNearest.l2 k y0 y1 y2 y3 y4 y5 y6 y7 y8 y9 y10) (pandectlaw13_ScopeNearest.l2 (k + 1) y0 y1 y2 y3 y4 y5 y6 y7 y8 y9 y10)) ∧ (∀ y0 y1 y2 y3 y4 y5 y6 y7 y8 y9 y10 y11, LeO (pandectlaw13_ScopeNearest.j6 k y0 y1 y2 y3 y4 y5 y6 y7 y8 y9 y10 y11) (pandectlaw13_ScopeNearest.j6 (k + 1) y0 y1 y2 y3 y4 y5 y6 y7 y8 y9 y10 y11))
  | 0 => ⟨fun _ _ _ _ _ _ r h => by simp [pandectlaw13_ScopeNearest.j0] at h, fun _ _ _ _ _ _ _ _ r h => by simp [pandectlaw13_ScopeNearest.j1] at h, fun _ _ _ _ _ _ _ _ r h => by simp [pandectlaw13_ScopeNearest.l0] at h, fun _ _ _ _ _ _ _ _ _ _ r h => by simp [pandectlaw13_ScopeNearest.l1] at h, fun _ _ _ _ _ _ _ _ _ _ _ r h => by simp [pandectlaw13_ScopeNearest.j4] at h, fun _ _ _ _ _ _ _ _ _ _ _ r h => by simp [pandectlaw13_ScopeNearest.l2] at h, fun _ _ _ _ _ _ _ _ _ _ _ _ r h => by simp [pandectlaw13_ScopeNearest.j6] at h⟩
  | k + 1 => by
    obtain ⟨ih0, ih1, ih2, ih3, ih4, ih5, ih6⟩ := pandectlaw13_ScopeNearest.mono_l k
    refine ⟨?_, ?_, ?_, ?_, ?_, ?_, ?_⟩
    · intro y0 y1 y2 y3 y4 y5
      unfold pandectlaw13_ScopeNearest.j0
      repeat' first
      | (with_reducible exact ih0 _ _ _ _ _ _)
      | (with_reducible exact ih1 _ _ _ _ _ _ _ _)
      | (with_reducible exact ih2 _ _ _ _ _ _ _ _)
      | (with_reducible exact ih3 _ _ _ _ _ _ _ _ _ _)
      | (with_reducible exact ih4 _ _ _ _ _ _ _ _ _ _ _)
      | (with_reducible exact ih5 _ _ _ _ _ _ _ _ _ _ _)
      | (with_reducible exact ih6 _ _ _ _ _ _ _ _ _ _ _ _)
      | (with_reducible exact pandectlaw13_few.mono _ _ _)
      | (with_reducible exact pandectref13_Around.mono _ _ _)
      | (with_reducible exact scope_Find.mono _ _ _ _ _)
      | (with_reducible exact LeO.refl _)
      | (with_reducible exact LeO.none _)
      | (with_reducible refine LeO.ite ?_ ?_)
      | (with_reducible refine LeO.bind ?_ (fun _ => ?_))
      | exact ih0 _ _ _ _ _ _
      | exact ih1 _ _ _ _ _ _ _ _
      | exact ih2 _ _ _ _ _ _ _ _
      | exact ih3 _ _ _ _ _ _ _ _ _ _
      | exact ih4 _ _ _ _ _ _ _ _ _ _ _
      | exact ih5 _ _ _ _ _ _ _ _ _ _ _
      | exact ih6 _ _ _ _ _ _ _ _ _ _ _ _
      | exact pandectlaw13_few.mono _ _ _
      | exact pandectref13_Around.mono _ _ _
      | exact scope_Find.mono _ _ _ _ _
      | exact LeO.none _
      | refine LeO.ite ?_ ?_
      | refine LeO.bind ?_ (fun _ => ?_)
    · intro y0 y1 y2 y3 y4 y5 y6 y7
      unfold pandectlaw13_ScopeNearest.j1
      repeat' first
      | (with_reducible exact ih0 _ _ _ _ _ _)
      | (with_reducible exact ih1 _ _ _ _ _ _ _ _)
      | (with_reducible exact ih2 _ _ _ _ _ _ _ _)
      | (with_reducible exact ih3 _ _ _ _ _ _ _ _ _ _)
      | (with_reducible exact ih4 _ _ _ _ _ _ _ _ _ _ _)
      | (with_reducible exact ih5 _ _ _ _ _ _ _ _ _ _ _)
      | (with_reducible exact ih6 _ _ _ _ _ _ _ _ _ _ _ _)
      | (with_reducible exact pandectlaw13_few.mono _ _ _)
      | (with_reducible exact pandectref13_Around.mono _ _ _)
      | (with_reducible exact scope_Find.mono _ _ _ _ _)
      | (with_reducible exact LeO.refl _)
      | (with_reducible exact LeO.none _)
      | (with_reducible refine LeO.ite ?_ ?_)
      | (with_reducible refine LeO.bind ?_ (fun _ => ?_))
      | exact ih0 _ _ _ _ _ _
      | exact ih1 _ _ _ _ _ _ _ _
      | exact ih2 _ _ _ _ _ _ _ _
      | exact ih3 _ _ _ _ _ _ _ _ _ _
      | exact ih4 _ _ _ _ _ _ _ _ _ _ _
      | exact ih5 _ _ _ _ _ _ _ _ _ _ _
      | exact ih6 _ _ _ _ _ _ _ _ _ _ _ _
      | exact pandectlaw13_few.mono _ _ _
      | exact pandectref13_Around.mono _ _ _
      | exact scope_Find.mono _ _ _ _ _
      | exact LeO.none _
      | refine LeO.ite ?_ ?_
      | refine LeO.bind ?_ (fun _ => ?_)
    · intro y0 y1 y2 y3 y4 y5 y6 y7
      unfold pandectlaw13_ScopeNearest.l0
      repeat' first
      | (with_reducible exact ih0 _ _ _ _ _ _)
      | (with_reducible exact ih1 _ _ _ _ _ _ _ _)
      | (with_reducible exact ih2 _ _ _ _ _ _ _ _)
      | (with_reducible exact ih3 _ _ _ _ _ _ _ _ _ _)
      | (with_reducible exact ih4 _ _ _ _ _ _ _ _ _ _ _)
      | (with_reducible exact ih5 _ _ _ _ _ _ _ _ _ _ _)
      | (with_reducible exact ih6 _ _ _ _ _ _ _ _ _ _ _ _)
      | (with_reducible exact pandectlaw13_few.mono _ _ _)
      | (with_reducible exact pandectref13_Around.mono _ _ _)
      | (with_reducible exact scope_Find.mono _ _ _ _ _)
      | (with_reducible exact LeO.refl _)
      | (with_reducible exact LeO.none _)
      | (with_reducible refine LeO.ite ?_ ?_)
      | (with_reducible refine LeO.bind ?_ (fun _ => ?_))
      | exact ih0 _ _ _ _ _ _
      | exact ih1 _ _ _ _ _ _ _ _
      | exact ih2 _ _ _ _ _ _ _ _
      | exact ih3 _ _ _ _ _ _ _ _ _ _
      | exact ih4 _ _ _ _ _ _ _ _ _ _ _
      | exact ih5 _ _ _ _ _ _ _ _ _ _ _
      | exact ih6 _ _ _ _ _ _ _ _ _ _ _ _
      | exact pandectlaw13_few.mono _ _ _
      | exact pandectref13_Around.mono _ _ _
      | exact scope_Find.mono _ _ _ _ _
      | exact LeO.none _
      | refine LeO.ite ?_ ?_
      | refine LeO.bind ?_ (fun _ => ?_)
    · intro y0 y1 y2 y3 y4 y5 y6 y7 y8 y9
      unfold pandectlaw13_ScopeNearest.l1
      repeat' first
      | (with_reducible exact ih0 _ _ _ _ _ _)
      | (with_reducible exact ih1 _ _ _ _ _ _ _ _)
      | (with_reducible exact ih2 _ _ _ _ _ _ _ _)
      | (with_reducible exact ih3 _ _ _ _ _ _ _ _ _ _)
      | (with_reducible exact ih4 _ _ _ _ _ _ _ _ _ _ _)
      | (with_reducible exact ih5 _ _ _ _ _ _ _ _ _ _ _)
      | (with_reducible exact ih6 _ _ _ _ _ _ _ _ _ _ _ _)
      | (with_reducible exact pandectlaw13_few.mono _ _ _)
      | (with_reducible exact pandectref13_Around.mono _ _ _)
      | (with_reducible exact scope_Find.mono _ _ _ _ _)
      | (with_reducible exact LeO.refl _)
      | (with_reducible exact LeO.none _)
      | (with_reducible refine LeO.ite ?_ ?_)
      | (with_reducible refine LeO.bind ?_ (fun _ => ?_))
      | exact ih0 _ _ _ _ _ _
      | exact ih1 _ _ _ _ _ _ _ _
      | exact ih2 _ _ _ _ _ _ _ _
      | exact ih3 _ _ _ _ _ _ _ _ _ _
      | exact ih4 _ _ _ _ _ _ _ _ _ _ _
      | exact ih5 _ _ _ _ _ _ _ _ _ _ _
      | exact ih6 _ _ _ _ _ _ _ _ _ _ _ _
      | exact pandectlaw13_few.mono _ _ _
      | exact pandectref13_Around.mono _ _ _
      | exact scope_Find.mono _ _ _ _ _
      | exact LeO.none _
      | refine LeO.ite ?_ ?_
      | refine LeO.bind ?_ (fun _ => ?_)
    · intro y0 y1 y2 y3 y4 y5 y6 y7 y8 y9 y10
      unfold pandectlaw13_ScopeNearest.j4
      repeat' first
      | (with_reducible exact ih0 _ _ _ _ _ _)
      | (with_reducible exact ih1 _ _ _ _ _ _ _ _)
      | (with_reducible exact ih2 _ _ _ _ _ _ _ _)
      | (with_reducible exact ih3 _ _ _ _ _ _ _ _ _ _)
      | (with_reducible exact ih4 _ _ _ _ _ _ _ _ _ _ _)
      | (with_reducible exact ih5 _ _ _ _ _ _ _ _ _ _ _)
      | (with_reducible exact ih6 _ _ _ _ _ _ _ _ _ _ _ _)
      | (with_reducible exact pandectlaw13_few.mono _ _ _)
      | (with_reducible exact pandectref13_Around.mono _ _ _)
      | (with_reducible exact scope_Find.mono _ _ _ _ _)
      | (with_reducible exact LeO.refl _)
      | (with_reducible exact LeO.none _)
      | (with_reducible refine LeO.ite ?_ ?_)
      | (with_reducible refine LeO.bind ?_ (fun _ => ?_))
      | exact ih0 _ _ _ _ _ _
      | exact ih1 _ _ _ _ _ _ _ _
      | exact ih2 _ _ _ _ _ _ _ _
      | exact ih3 _ _ _ _ _ _ _ _ _ _
      | exact ih4 _ _ _ _ _ _ _ _ _ _ _
      | exact ih5 _ _ _ _ _ _ _ _ _ _ _
      | exact ih6 _ _ _ _ _ _ _ _ _ _ _ _
      | exact pandectlaw13_few.mono _ _ _
      | exact pandectref13_Around.mono _ _ _
      | exact scope_Find.mono _ _ _ _ _
      | exact LeO.none _
      | refine LeO.ite ?_ ?_
      | refine LeO.bind ?_ (fun _ => ?_)
    · intro y0 y1 y2 y3 y4 y5 y6 y7 y8 y9 y10
      unfold pandectlaw13_ScopeNearest.l2
      repeat' first
      | (with_reducible exact ih0 _ _ _ _ _ _)
      | (with_reducible exact ih1 _ _ _ _ _ _ _ _)
      | (with_reducible exact ih2 _ _ _ _ _ _ _ _)
      | (with_reducible exact ih3 _ _ _ _ _ _ _ _ _ _)
      | (with_reducible exact ih4 _ _ _ _ _ _ _ _ _ _ _)
      | (with_reducible exact ih5 _ _ _ _ _ _ _ _ _ _ _)
      | (with_reducible exact ih6 _ _ _ _ _ _ _ _ _ _ _ _)
      | (with_reducible exact pandectlaw13_few.mono _ _ _)
      | (with_reducible exact pandectref13_Around.mono _ _ _)
      | (with_reducible exact scope_Find.mono _ _ _ _ _)
      | (with_reducible exact LeO.refl _)
      | (with_reducible exact LeO.none _)
      | (with_reducible refine LeO.ite ?_ ?_)
      | (with_reducible refine LeO.bind ?_ (fun _ => ?_))
      | exact ih0 _ _ _ _ _ _
      | exact ih1 _ _ _ _ _ _ _ _
      | exact ih2 _ _ _ _ _ _ _ _
      | exact ih3 _ _ _ _ _ _ _ _ _ _
      | exact ih4 _ _ _ _ _ _ _ _ _ _ _
      | exact ih5 _ _ _ _ _ _ _ _ _ _ _
      | exact ih6 _ _ _ _ _ _ _ _ _ _ _ _
      | exact pandectlaw13_few.mono _ _ _
      | exact pandectref13_Around.mono _ _ _
      | exact scope_Find.mono _ _ _ _ _
      | exact LeO.none _
      | refine LeO.ite ?_ ?_
      | refine LeO.bind ?_ (fun _ => ?_)
    · intro y0 y1 y2 y3 y4 y5 y6 y7 y8 y9 y10 y11
      unfold pandectlaw13_ScopeNearest.j6
      repeat' first
      | (with_reducible exact ih0 _ _ _ _ _ _)
      | (with_reducible exact ih1 _ _ _ _ _ _ _ _)
      | (with_reducible exact ih2 _ _ _ _ _ _ _ _)
      | (with_reducible exact ih3 _ _ _ _ _ _ _ _ _ _)
      | (with_reducible exact ih4 _ _ _ _ _ _ _ _ _ _ _)
      | (with_reducible exact ih5 _ _ _ _ _ _ _ _ _ _ _)
      | (with_reducible exact ih6 _ _ _ _ _ _ _ _ _ _ _ _)
      | (with_reducible exact pandectlaw13_few.mono _ _ _)
      | (with_reducible exact pandectref13_Around.mono _ _ _)
      | (with_reducible exact scope_Find.mono _ _ _ _ _)
      | (with_reducible exact LeO.refl _)
      | (with_reducible exact LeO.none _)
      | (with_reducible refine LeO.ite ?_ ?_)
      | (with_reducible refine LeO.bind ?_ (fun _ => ?_))
      | exact ih0 _ _ _ _ _ _
      | exact ih1 _ _ _ _ _ _ _ _
      | exact ih2 _ _ _ _ _ _ _ _
      | exact ih3 _ _ _ _ _ _ _ _ _ _
      | exact ih4 _ _ _ _ _ _ _ _ _ _ _
      | exact ih5 _ _ _ _ _ _ _ _ _ _ _
      | exact ih6 _ _ _ _ _ _ _ _ _ _ _ _
      | exact pandectlaw13_few.mono _ _ _
      | exact pandectref13_Around.mono _ _ _
      | exact scope_Find.mono _ _ _ _ _
      | exact LeO.none _
      | refine LeO.ite ?_ ?_
      | refine LeO.bind ?_ (fun _ => ?_)
theorem pandectlaw13_ScopeNearest.mono : ∀ a0 a1 a2 a3 k, LeO (pandectlaw13_ScopeNearest.f k a0 a1 a2 a3) (pandectlaw13_ScopeNearest.f (k + 1) a0 a1 a2 a3) := by
  intro a0 a1 a2 a3 k
  obtain ⟨ih0, ih1, ih2, ih3, ih4, ih5, ih6⟩ := pandectlaw13_ScopeNearest.mono_l k
  unfold pandectlaw13_ScopeNearest.f
  repeat' first
      | (with_reducible exact ih0 _ _ _ _ _ _)
      | (with_reducible exact ih1 _ _ _ _ _ _ _ _)
      | (with_reducible exact ih2 _ _ _ _ _ _ _ _)
      | (with_reducible exact ih3 _ _ _ _ _ _ _ _ _ _)
      | (with_reducible exact ih4 _ _ _ _ _ _ _ _ _ _ _)
      | (with_reducible exact ih5 _ _ _ _ _ _ _ _ _ _ _)
      | (with_reducible exact ih6 _ _ _ _ _ _ _ _ _ _ _ _)
      | (with_reducible exact pandectlaw13_few.mono _ _ _)
      | (with_reducible exact pandectref13_Around.mono _ _ _)
      | (with_reducible exact scope_Find.mono _ _ _ _ _)
      | (with_reducible exact LeO.refl _)
      | (with_reducible exact LeO.none _)
      | (with_reducible refine LeO.ite ?_ ?_)
      | (with_reducible refine LeO.bind ?_ (fun _ => ?_))
      | exact ih0 _ _ _ _ _ _
      | exact ih1 _ _ _ _ _ _ _ _
      | exact ih2 _ _ _ _ _ _ _ _
      | exact ih3 _ _ _ _ _ _ _ _ _ _
      | exact ih4 _ _ _ _ _ _ _ _ _ _ _
      | exact ih5 _ _ _ _ _ _ _ _ _ _ _
      | exact ih6 _ _ _ _ _ _ _ _ _ _ _ _
      | exact pandectlaw13_few.mono _ _ _
      | exact pandectref13_Around.mono _ _ _
      | exact scope_Find.mono _ _ _ _ _
      | exact LeO.none _
      | refine LeO.ite ?_ ?_
      | refine LeO.bind ?_ (fun _ => ?_)
set_option maxHeartbeats 8000000 in
set_option maxRecDepth 100000 in
theorem pandectlaw13_ScopeNearest.calls (k : Nat) (A0_0 : Option Addr) (c0_0 : Nat) (l0_0 : List (S61)) (A1 : Option Addr) (c1 : Nat) (l1 : List (S59)) (a2 : ByteArray) (a3 : ByteArray) (r : Bool) (w : World) (hG : Glob w) (hr0_0 : Kd.C k61 w A0_0 l0_0.length l0_0) (hc0_0 : l0_0.length ≤ c0_0) (hr1 : Kd.C k59 w A1 l1.length l1) (hc1 : l1.length ≤ c1) (h : pandectlaw13_ScopeNearest.f k l0_0 l1 a2 a3 = some r) :
    Calls Tryz.prog 5 #[.agg #[.slice A0_0 l0_0.length c0_0], .slice A1 l1.length c1, .string a2, .string a3] w fun e w' => e = .returned (.bool r) ∧ Below w.heap.size w w' := by
  have hu24 := Tryz.underlying24
  have HR0_0 := Aside0.mk hr0_0
  have HC0_0 := Aside0.mk hc0_0
  clear hr0_0 hc0_0
  have HR1 := Aside0.mk hr1
  have HC1 := Aside0.mk hc1
  clear hr1 hc1
  have HB := Aside0.mk (Below.refl w.heap.size w)
  have HG := Aside0.mk hG
  clear hG
  have H : ((pandectlaw13_head.f).bind fun t161 => ((pandectlaw13_few.f k l0_0 l1).bind fun t162 => (if t162 = true then (pandectlaw13_ScopeNearest.j0 k l1 a2 a3 t161 (decide ((wrap64 ((a2.size : Int) + (a3.size : Int))) > 120)) l0_0) else (pandectlaw13_ScopeNearest.j0 k l1 a2 a3 t161 true l0_0)))) = some r := h
  clear h
  replace H := Option.bind_eq_some_iff.mp H
  obtain ⟨t161, A50, H⟩ := H
  replace H : ((pandectlaw13_few.f k l0_0 l1).bind fun t162 => (if t162 = true then (pandectlaw13_ScopeNearest.j0 k l1 a2 a3 t161 (decide ((wrap64 ((a2.size : Int) + (a3.size : Int))) > 120)) l0_0) else (pandectlaw13_ScopeNearest.j0 k l1 a2 a3 t161 true l0_0))) = some r := H
  have A5 := Aside0.mk A50
  clear A50
  have HC6 := Aside0.mk H
  clear H
  go_enter Tryz.func5, Tryz.ntmps5
  go_upto_region 2 with (first | ((with_reducible refine gate_dst (N := 4) rfl ?_); (try (refine gate_guard (by rfl) ?_; dsimp only)); refine box_event ?hg (N := 4) ?hd (cs := #[.slice A0_0 l0_0.length c0_0]) (t := 24) ?hr ?_; (case hd => rfl); (case hg => rfl); (case hr => first | (go_simp; done) | (go_simp; rfl)); intro gb160 hg w7 hbox hb; have n0_ := Aside0.mk (below_step (by repeat (first | (with_reducible first | exact HB.out | apply below_alloc | apply pw_below_drewN | apply below_drew1) | exact HB.out)) hb); have n1_ := Aside0.mk (hbox); have n2_ := Aside0.mk ((by rw [hg]; exact (below_size (by repeat (first | (with_reducible first | exact HB.out | apply below_alloc | apply pw_below_drewN | apply below_drew1) | exact HB.out))) : w.heap.size ≤ gb160)); have n3_ := Aside0.mk ((by rw [hg]; exact (below_size (by repeat (first | (with_reducible first | exact HB.out | apply below_alloc | apply pw_below_drewN | apply below_drew1) | exact HB.out))) : w.heap.size ≤ gb160)); clear HB; have HB := n0_; have BK160 := n1_; have GW160 := n2_; have GE160 := n3_; clear n0_ n1_ n2_ n3_; clear hb hbox hg) | (go_at_call 11; (with_reducible refine (pandectlaw13_head.calls t161 _ ?sideG A5.out).mono ?_); (case sideG => repeat (first | exact (Glob.below HG.out HB.out rfl) | (with_reducible refine Glob.alloc ?_ _) | (with_reducible refine Glob.drewN ?_ _) | (with_reducible refine Glob.drew ?_))); rintro e w8 ⟨rfl, hb⟩; have n0_ := Aside0.mk (blk_below (g := gb160) (o := .cells #[.slice A0_0 l0_0.length c0_0] 24 (0, 0)) (by (with_reducible repeat (first | refine blk_drewN ?_ _ | refine blk_drew ?_ | refine blk_alloc ?_ _)); exact BK160.out) hb); have n1_ := Aside0.mk (below_step (by repeat (first | (with_reducible first | exact HB.out | apply below_alloc | apply pw_below_drewN | apply below_drew1 | refine below_set ?_ GE160.out) | exact HB.out)) hb); clear BK160; clear HB; have BK160 := n0_; have HB := n1_; clear n0_ n1_; (try clear hb); (try clear hb2); (try clear hk); (try clear hi)))
  repeat (go_quiet (first | ((with_reducible refine gate_dst (N := 4) rfl ?_); (try (refine gate_guard (by rfl) ?_; dsimp only)); refine box_event ?hg (N := 4) ?hd (cs := #[.slice A0_0 l0_0.length c0_0]) (t := 24) ?hr ?_; (case hd => rfl); (case hg => rfl); (case hr => first | (go_simp; done) | (go_simp; rfl)); intro gb160 hg w7 hbox hb; have n0_ := Aside0.mk (below_step (by repeat (first | (with_reducible first | exact HB.out | apply below_alloc | apply pw_below_drewN | apply below_drew1) | exact HB.out)) hb); have n1_ := Aside0.mk (hbox); have n2_ := Aside0.mk ((by rw [hg]; exact (below_size (by repeat (first | (with_reducible first | exact HB.out | apply below_alloc | apply pw_below_drewN | apply below_drew1) | exact HB.out))) : w.heap.size ≤ gb160)); have n3_ := Aside0.mk ((by rw [hg]; exact (below_size (by repeat (first | (with_reducible first | exact HB.out | apply below_alloc | apply pw_below_drewN | apply below_drew1) | exact HB.out))) : w.heap.size ≤ gb160)); clear HB; have HB := n0_; have BK160 := n1_; have GW160 := n2_; have GE160 := n3_; clear n0_ n1_ n2_ n3_; clear hb hbox hg) | (go_at_call 11; (with_reducible refine (pandectlaw13_head.calls t161 _ ?sideG A5.out).mono ?_); (case sideG => repeat (first | exact (Glob.below HG.out HB.out rfl) | (with_reducible refine Glob.alloc ?_ _) | (with_reducible refine Glob.drewN ?_ _) | (with_reducible refine Glob.drew ?_))); rintro e w8 ⟨rfl, hb⟩; have n0_ := Aside0.mk (blk_below (g := gb160) (o := .cells #[.slice A0_0 l0_0.length c0_0] 24 (0, 0)) (by (with_reducible repeat (first | refine blk_drewN ?_ _ | refine blk_drew ?_ | refine blk_alloc ?_ _)); exact BK160.out) hb); have n1_ := Aside0.mk (below_step (by repeat (first | (with_reducible first | exact HB.out | apply below_alloc | apply pw_below_drewN | apply below_drew1 | refine below_set ?_ GE160.out) | exact HB.out)) hb); clear BK160; clear HB; have BK160 := n0_; have HB := n1_; clear n0_ n1_; (try clear hb); (try clear hb2); (try clear hk); (try clear hi))); go_upto_region 2 with (first | ((with_reducible refine gate_dst (N := 4) rfl ?_); (try (refine gate_guard (by rfl) ?_; dsimp only)); refine box_event ?hg (N := 4) ?hd (cs := #[.slice A0_0 l0_0.length c0_0]) (t := 24) ?hr ?_; (case hd => rfl); (case hg => rfl); (case hr => first | (go_simp; done) | (go_simp; rfl)); intro gb160 hg w7 hbox hb; have n0_ := Aside0.mk (below_step (by repeat (first | (with_reducible first | exact HB.out | apply below_alloc | apply pw_below_drewN | apply below_drew1) | exact HB.out)) hb); have n1_ := Aside0.mk (hbox); have n2_ := Aside0.mk ((by rw [hg]; exact (below_size (by repeat (first | (with_reducible first | exact HB.out | apply below_alloc | apply pw_below_drewN | apply below_drew1) | exact HB.out))) : w.heap.size ≤ gb160)); have n3_ := Aside0.mk ((by rw [hg]; exact (below_size (by repeat (first | (with_reducible first | exact HB.out | apply below_alloc | apply pw_below_drewN | apply below_drew1) | exact HB.out))) : w.heap.size ≤ gb160)); clear HB; have HB := n0_; have BK160 := n1_; have GW160 := n2_; have GE160 := n3_; clear n0_ n1_ n2_ n3_; clear hb hbox hg) | (go_at_call 11; (with_reducible refine (pandectlaw13_head.calls t161 _ ?sideG A5.out).mono ?_); (case sideG => repeat (first | exact (Glob.below HG.out HB.out rfl) | (with_reducible refine Glob.alloc ?_ _) | (with_reducible refine Glob.drewN ?_ _) | (with_reducible refine Glob.drew ?_))); rintro e w8 ⟨rfl, hb⟩; have n0_ := Aside0.mk (blk_below (g := gb160) (o := .cells #[.slice A0_0 l0_0.length c0_0] 24 (0, 0)) (by (with_reducible repeat (first | refine blk_drewN ?_ _ | refine blk_drew ?_ | refine blk_alloc ?_ _)); exact BK160.out) hb); have n1_ := Aside0.mk (below_step (by repeat (first | (with_reducible first | exact HB.out | apply below_alloc | apply pw_below_drewN | apply below_drew1 | refine below_set ?_ GE160.out) | exact HB.out)) hb); clear BK160; clear HB; have BK160 := n0_; have HB := n1_; clear n0_ n1_; (try clear hb); (try clear hb2); (try clear hk); (try clear hi))))
  (try simp only [Act.put, List.setIfInBounds_toArray, List.set_cons_zero, List.set_cons_succ])
  go_cut [29] (fun v29 wc => ∃ (kq : Nat) (x29_5 : Bool), v29 = .bool x29_5 ∧ Aside0 (pandectlaw13_ScopeNearest.j0 kq l1 a2 a3 t161 x29_5 l0_0 = some r) ∧ Aside0 (kq ≤ k) ∧ Aside0 (wc.heap[gb160]? = some (.cells #[(.slice A0_0 l0_0.length c0_0)] 24 (0, 0))) ∧ Aside0 (Below w.heap.size w wc))
  case first =>
    have H := HC6.out
    clear HC6
    replace H := Option.bind_eq_some_iff.mp H
    obtain ⟨t162, A90, H⟩ := H
    replace H : (if t162 = true then (pandectlaw13_ScopeNearest.j0 k l1 a2 a3 t161 (decide ((wrap64 ((a2.size : Int) + (a3.size : Int))) > 120)) l0_0) else (pandectlaw13_ScopeNearest.j0 k l1 a2 a3 t161 true l0_0)) = some r := H
    have A9 := Aside0.mk A90
    clear A90
    by_cases c10 : t162 = true
    · subst c10
      have H1 : (pandectlaw13_ScopeNearest.j0 k l1 a2 a3 t161 (decide ((wrap64 ((a2.size : Int) + (a3.size : Int))) > 120)) l0_0) = some r := by rw [if_pos rfl] at H; exact H
      clear H
      have H := H1
      clear H1
      have H' := Aside0.mk H
      clear H
      have hcz11_0 : w8.cell? ⟨gb160, 0, none⟩ = some (.slice A0_0 l0_0.length c0_0) := (blk_cell BK160.out 0).trans rfl
      have hfz11_0 := blk_frozen BK160.out 0
      go_wp2_with (first | (go_at_call 12; (with_reducible refine (pandectlaw13_few.calls k _ _ l0_0 _ _ l1 true _ ?side1 ?side2 ?side3 ?side4 A9.out).mono ?_); (case side1 => repeat (first | exact (Kd.C_below HR0_0.out HB.out) | (with_reducible refine Kd.C_alloc ?_ _) | (with_reducible refine Kd.C_drewN ?_ _) | (with_reducible refine Kd.C_drew ?_))); (case side2 => exact HC0_0.out); (case side3 => repeat (first | exact (Kd.C_below HR1.out HB.out) | (with_reducible refine Kd.C_alloc ?_ _) | (with_reducible refine Kd.C_drewN ?_ _) | (with_reducible refine Kd.C_drew ?_))); (case side4 => exact HC1.out); rintro e w12 ⟨rfl, hb⟩; have n0_ := Aside0.mk (blk_below (g := gb160) (o := .cells #[.slice A0_0 l0_0.length c0_0] 24 (0, 0)) (by (with_reducible repeat (first | refine blk_drewN ?_ _ | refine blk_drew ?_ | refine blk_alloc ?_ _)); exact BK160.out) hb); have n1_ := Aside0.mk (below_step (by repeat (first | (with_reducible first | exact HB.out | apply below_alloc | apply pw_below_drewN | apply below_drew1 | refine below_set ?_ GE160.out) | exact HB.out)) hb); clear BK160; clear HB; have BK160 := n0_; have HB := n1_; clear n0_ n1_; (try clear hb); (try clear hb2); (try clear hk); (try clear hi)))
      repeat (go_quiet (first | (go_at_call 12; (with_reducible refine (pandectlaw13_few.calls k _ _ l0_0 _ _ l1 true _ ?side1 ?side2 ?side3 ?side4 A9.out).mono ?_); (case side1 => repeat (first | exact (Kd.C_below HR0_0.out HB.out) | (with_reducible refine Kd.C_alloc ?_ _) | (with_reducible refine Kd.C_drewN ?_ _) | (with_reducible refine Kd.C_drew ?_))); (case side2 => exact HC0_0.out); (case side3 => repeat (first | exact (Kd.C_below HR1.out HB.out) | (with_reducible refine Kd.C_alloc ?_ _) | (with_reducible refine Kd.C_drewN ?_ _) | (with_reducible refine Kd.C_drew ?_))); (case side4 => exact HC1.out); rintro e w12 ⟨rfl, hb⟩; have n0_ := Aside0.mk (blk_below (g := gb160) (o := .cells #[.slice A0_0 l0_0.length c0_0] 24 (0, 0)) (by (with_reducible repeat (first | refine blk_drewN ?_ _ | refine blk_drew ?_ | refine blk_alloc ?_ _)); exact BK160.out) hb); have n1_ := Aside0.mk (below_step (by repeat (first | (with_reducible first | exact HB.out | apply below_alloc | apply pw_below_drewN | apply below_drew1 | refine below_set ?_ GE160.out) | exact HB.out)) hb); clear BK160; clear HB; have BK160 := n0_; have HB := n1_; clear n0_ n1_; (try clear hb); (try clear hb2); (try clear hk); (try clear hi))); try go_wp2_with (first | (go_at_call 12; (with_reducible refine (pandectlaw13_few.calls k _ _ l0_0 _ _ l1 true _ ?side1 ?side2 ?side3 ?side4 A9.out).mono ?_); (case side1 => repeat (first | exact (Kd.C_below HR0_0.out HB.out) | (with_reducible refine Kd.C_alloc ?_ _) | (with_reducible refine Kd.C_drewN ?_ _) | (with_reducible refine Kd.C_drew ?_))); (case side2 => exact HC0_0.out); (case side3 => repeat (first | exact (Kd.C_below HR1.out HB.out) | (with_reducible refine Kd.C_alloc ?_ _) | (with_reducible refine Kd.C_drewN ?_ _) | (with_reducible refine Kd.C_drew ?_))); (case side4 => exact HC1.out); rintro e w12 ⟨rfl, hb⟩; have n0_ := Aside0.mk (blk_below (g := gb160) (o := .cells #[.slice A0_0 l0_0.length c0_0] 24 (0, 0)) (by (with_reducible repeat (first | refine blk_drewN ?_ _ | refine blk_drew ?_ | refine blk_alloc ?_ _)); exact BK160.out) hb); have n1_ := Aside0.mk (below_step (by repeat (first | (with_reducible first | exact HB.out | apply below_alloc | apply pw_below_drewN | apply below_drew1 | refine below_set ?_ GE160.out) | exact HB.out)) hb); clear BK160; clear HB; have BK160 := n0_; have HB := n1_; clear n0_ n1_; (try clear hb); (try clear hb2); (try clear hk); (try clear hi))))
      go_meet
      case rel => exact ⟨_, (decide ((wrap64 ((a2.size : Int) + (a3.size : Int))) > 120)), (by first | rfl | (simp; done) | (simp [*]; done)), H', ⟨by first | omega | exact Nat.le_refl _⟩, ⟨by (with_reducible repeat (first | refine blk_drewN ?_ _ | refine blk_drew ?_ | refine blk_alloc ?_ _)); exact BK160.out⟩, ⟨by repeat (first | (with_reducible first | exact HB.out | apply below_alloc | apply pw_below_drewN | apply below_drew1 | refine below_set ?_ GE160.out) | exact HB.out)⟩⟩
    · replace c10 := Bool.eq_false_iff.mpr c10
      subst c10
      have H1 : (pandectlaw13_ScopeNearest.j0 k l1 a2 a3 t161 true l0_0) = some r := by rw [if_neg (show ¬ (false = true) by decide)] at H; exact H
      clear H
      have H := H1
      clear H1
      have H' := Aside0.mk H
      clear H
      have hcz13_0 : w8.cell? ⟨gb160, 0, none⟩ = some (.slice A0_0 l0_0.length c0_0) := (blk_cell BK160.out 0).trans rfl
      have hfz13_0 := blk_frozen BK160.out 0
      go_wp2_with (first | (go_at_call 12; (with_reducible refine (pandectlaw13_few.calls k _ _ l0_0 _ _ l1 false _ ?side1 ?side2 ?side3 ?side4 A9.out).mono ?_); (case side1 => repeat (first | exact (Kd.C_below HR0_0.out HB.out) | (with_reducible refine Kd.C_alloc ?_ _) | (with_reducible refine Kd.C_drewN ?_ _) | (with_reducible refine Kd.C_drew ?_))); (case side2 => exact HC0_0.out); (case side3 => repeat (first | exact (Kd.C_below HR1.out HB.out) | (with_reducible refine Kd.C_alloc ?_ _) | (with_reducible refine Kd.C_drewN ?_ _) | (with_reducible refine Kd.C_drew ?_))); (case side4 => exact HC1.out); rintro e w14 ⟨rfl, hb⟩; have n0_ := Aside0.mk (blk_below (g := gb160) (o := .cells #[.slice A0_0 l0_0.length c0_0] 24 (0, 0)) (by (with_reducible repeat (first | refine blk_drewN ?_ _ | refine blk_drew ?_ | refine blk_alloc ?_ _)); exact BK160.out) hb); have n1_ := Aside0.mk (below_step (by repeat (first | (with_reducible first | exact HB.out | apply below_alloc | apply pw_below_drewN | apply below_drew1 | refine below_set ?_ GE160.out) | exact HB.out)) hb); clear BK160; clear HB; have BK160 := n0_; have HB := n1_; clear n0_ n1_; (try clear hb); (try clear hb2); (try clear hk); (try clear hi)))
      repeat (go_quiet (first | (go_at_call 12; (with_reducible refine (pandectlaw13_few.calls k _ _ l0_0 _ _ l1 false _ ?side1 ?side2 ?side3 ?side4 A9.out).mono ?_); (case side1 => repeat (first | exact (Kd.C_below HR0_0.out HB.out) | (with_reducible refine Kd.C_alloc ?_ _) | (with_reducible refine Kd.C_drewN ?_ _) | (with_reducible refine Kd.C_drew ?_))); (case side2 => exact HC0_0.out); (case side3 => repeat (first | exact (Kd.C_below HR1.out HB.out) | (with_reducible refine Kd.C_alloc ?_ _) | (with_reducible refine Kd.C_drewN ?_ _) | (with_reducible refine Kd.C_drew ?_))); (case side4 => exact HC1.out); rintro e w14 ⟨rfl, hb⟩; have n0_ := Aside0.mk (blk_below (g := gb160) (o := .cells #[.slice A0_0 l0_0.length c0_0] 24 (0, 0)) (by (with_reducible repeat (first | refine blk_drewN ?_ _ | refine blk_drew ?_ | refine blk_alloc ?_ _)); exact BK160.out) hb); have n1_ := Aside0.mk (below_step (by repeat (first | (with_reducible first | exact HB.out | apply below_alloc | apply pw_below_drewN | apply below_drew1 | refine below_set ?_ GE160.out) | exact HB.out)) hb); clear BK160; clear HB; have BK160 := n0_; have HB := n1_; clear n0_ n1_; (try clear hb); (try clear hb2); (try clear hk); (try clear hi))); try go_wp2_with (first | (go_at_call 12; (with_reducible refine (pandectlaw13_few.calls k _ _ l0_0 _ _ l1 false _ ?side1 ?side2 ?side3 ?side4 A9.out).mono ?_); (case side1 => repeat (first | exact (Kd.C_below HR0_0.out HB.out) | (with_reducible refine Kd.C_alloc ?_ _) | (with_reducible refine Kd.C_drewN ?_ _) | (with_reducible refine Kd.C_drew ?_))); (case side2 => exact HC0_0.out); (case side3 => repeat (first | exact (Kd.C_below HR1.out HB.out) | (with_reducible refine Kd.C_alloc ?_ _) | (with_reducible refine Kd.C_drewN ?_ _) | (with_reducible refine Kd.C_drew ?_))); (case side4 => exact HC1.out); rintro e w14 ⟨rfl, hb⟩; have n0_ := Aside0.mk (blk_below (g := gb160) (o := .cells #[.slice A0_0 l0_0.length c0_0] 24 (0, 0)) (by (with_reducible repeat (first | refine blk_drewN ?_ _ | refine blk_drew ?_ | refine blk_alloc ?_ _)); exact BK160.out) hb); have n1_ := Aside0.mk (below_step (by repeat (first | (with_reducible first | exact HB.out | apply below_alloc | apply pw_below_drewN | apply below_drew1 | refine below_set ?_ GE160.out) | exact HB.out)) hb); clear BK160; clear HB; have BK160 := n0_; have HB := n1_; clear n0_ n1_; (try clear hb); (try clear hb2); (try clear hk); (try clear hi))))
      go_meet
      case rel => exact ⟨_, (true), (by first | rfl | (simp; done) | (simp [*]; done)), H', ⟨by first | omega | exact Nat.le_refl _⟩, ⟨by (with_reducible repeat (first | refine blk_drewN ?_ _ | refine blk_drew ?_ | refine blk_alloc ?_ _)); exact BK160.out⟩, ⟨by repeat (first | (with_reducible first | exact HB.out | apply below_alloc | apply pw_below_drewN | apply below_drew1 | refine below_set ?_ GE160.out) | exact HB.out)⟩⟩
  case rest =>
    clear HC6
    try clear c1
    try clear p2
    try clear c5
    try clear p6
    try clear c10
    try clear hcz11_0
    try clear hcz13_0
    try clear hfz11_0
    try clear hfz13_0
    obtain ⟨kq, x29_5, rfl, HA, HJ5, BK160, HB⟩ := hcut
    cases kq with
    | zero => exact absurd HA.out (by simp [pandectlaw13_ScopeNearest.j0])
    | succ kj5 =>
      have H := HA.out
      clear HA
      simp only [pandectlaw13_ScopeNearest.j0] at H
      by_cases c15 : x29_5 = true
      · subst c15
        have H1 : (some t161) = some r := by rw [if_pos rfl] at H; exact H
        clear H
        have H := H1
        clear H1
        obtain rfl := Option.some.inj H
        go_wp2
        repeat (go_quiet (fail); try go_wp2)
        go_ret
        exact ⟨by first | rfl | (simp [errW_none, errW_some] <;> rfl) | (simp [*, errW_none, errW_some] <;> rfl), by repeat (first | (with_reducible first | exact HB.out | apply below_alloc | apply pw_below_drewN | apply below_drew1 | refine below_set ?_ GE160.out) | exact HB.out)⟩
      · replace c15 := Bool.eq_false_iff.mpr c15
        subst c15
        have H1 : ((scope_Find.f kj5 l0_0 l1 a2 a3).bind fun bt163 => (if bt163.2 = 1 then (pandectlaw13_ScopeNearest.j1 kj5 l1 a2 a3 t161 bt163.1 bt163.2 true l0_0) else (pandectlaw13_ScopeNearest.j1 kj5 l1 a2 a3 t161 bt163.1 bt163.2 (bt163.2 == 11) l0_0))) = some r := by rw [if_neg (show ¬ (false = true) by decide)] at H; exact H
        clear H
        have H := H1
        clear H1
        replace H := Option.bind_eq_some_iff.mp H
        obtain ⟨⟨t163, t164⟩, A160, H⟩ := H
        replace H : (if t164 = 1 then (pandectlaw13_ScopeNearest.j1 kj5 l1 a2 a3 t161 t163 t164 true l0_0) else (pandectlaw13_ScopeNearest.j1 kj5 l1 a2 a3 t161 t163 t164 (t164 == 11) l0_0)) = some r := H
        have A16 := Aside0.mk A160
        clear A160
        have HC17 := Aside0.mk H
        clear H
        have hcz18_0 : wc.cell? ⟨gb160, 0, none⟩ = some (.slice A0_0 l0_0.length c0_0) := (blk_cell BK160.out 0).trans rfl
        have hfz18_0 := blk_frozen BK160.out 0
        go_upto_region 5 with (first | (go_at_call 13; (with_reducible refine (scope_Find.calls kj5 _ _ l0_0 _ _ l1 a2 a3 t163 t164 _ ?side1 ?side2 ?side3 ?side4 A16.out).mono ?_); (case side1 => repeat (first | exact (Kd.C_below HR0_0.out HB.out) | (with_reducible refine Kd.C_alloc ?_ _) | (with_reducible refine Kd.C_drewN ?_ _) | (with_reducible refine Kd.C_drew ?_))); (case side2 => exact HC0_0.out); (case side3 => repeat (first | exact (Kd.C_below HR1.out HB.out) | (with_reducible refine Kd.C_alloc ?_ _) | (with_reducible refine Kd.C_drewN ?_ _) | (with_reducible refine Kd.C_drew ?_))); (case side4 => exact HC1.out); rintro e w19 ⟨rfl, hb⟩; have n0_ := Aside0.mk (blk_below (g := gb160) (o := .cells #[.slice A0_0 l0_0.length c0_0] 24 (0, 0)) (by (with_reducible repeat (first | refine blk_drewN ?_ _ | refine blk_drew ?_ | refine blk_alloc ?_ _)); exact BK160.out) hb); have n1_ := Aside0.mk (below_step (by repeat (first | (with_reducible first | exact HB.out | apply below_alloc | apply pw_below_drewN | apply below_drew1 | refine below_set ?_ GE160.out) | exact HB.out)) hb); clear BK160; clear HB; have BK160 := n0_; have HB := n1_; clear n0_ n1_; (try clear hb); (try clear hb2); (try clear hk); (try clear hi)))
        repeat (go_quiet (first | (go_at_call 13; (with_reducible refine (scope_Find.calls kj5 _ _ l0_0 _ _ l1 a2 a3 t163 t164 _ ?side1 ?side2 ?side3 ?side4 A16.out).mono ?_); (case side1 => repeat (first | exact (Kd.C_below HR0_0.out HB.out) | (with_reducible refine Kd.C_alloc ?_ _) | (with_reducible refine Kd.C_drewN ?_ _) | (with_reducible refine Kd.C_drew ?_))); (case side2 => exact HC0_0.out); (case side3 => repeat (first | exact (Kd.C_below HR1.out HB.out) | (with_reducible refine Kd.C_alloc ?_ _) | (with_reducible refine Kd.C_drewN ?_ _) | (with_reducible refine Kd.C_drew ?_))); (case side4 => exact HC1.out); rintro e w19 ⟨rfl, hb⟩; have n0_ := Aside0.mk (blk_below (g := gb160) (o := .cells #[.slice A0_0 l0_0.length c0_0] 24 (0, 0)) (by (with_reducible repeat (first | refine blk_drewN ?_ _ | refine blk_drew ?_ | refine blk_alloc ?_ _)); exact BK160.out) hb); have n1_ := Aside0.mk (below_step (by repeat (first | (with_reducible first | exact HB.out | apply below_alloc | apply pw_below_drewN | apply below_drew1 | refine below_set ?_ GE160.out) | exact HB.out)) hb); clear BK160; clear HB; have BK160 := n0_; have HB := n1_; clear n0_ n1_; (try clear hb); (try clear hb2); (try clear hk); (try clear hi))); go_upto_region 5 with (first | (go_at_call 13; (with_reducible refine (scope_Find.calls kj5 _ _ l0_0 _ _ l1 a2 a3 t163 t164 _ ?side1 ?side2 ?side3 ?side4 A16.out).mono ?_); (case side1 => repeat (first | exact (Kd.C_below HR0_0.out HB.out) | (with_reducible refine Kd.C_alloc ?_ _) | (with_reducible refine Kd.C_drewN ?_ _) | (with_reducible refine Kd.C_drew ?_))); (case side2 => exact HC0_0.out); (case side3 => repeat (first | exact (Kd.C_below HR1.out HB.out) | (with_reducible refine Kd.C_alloc ?_ _) | (with_reducible refine Kd.C_drewN ?_ _) | (with_reducible refine Kd.C_drew ?_))); (case side4 => exact HC1.out); rintro e w19 ⟨rfl, hb⟩; have n0_ := Aside0.mk (blk_below (g := gb160) (o := .cells #[.slice A0_0 l0_0.length c0_0] 24 (0, 0)) (by (with_reducible repeat (first | refine blk_drewN ?_ _ | refine blk_drew ?_ | refine blk_alloc ?_ _)); exact BK160.out) hb); have n1_ := Aside0.mk (below_step (by repeat (first | (with_reducible first | exact HB.out | apply below_alloc | apply pw_below_drewN | apply below_drew1 | refine below_set ?_ GE160.out) | exact HB.out)) hb); clear BK160; clear HB; have BK160 := n0_; have HB := n1_; clear n0_ n1_; (try clear hb); (try clear hb2); (try clear hk); (try clear hi))))
        (try simp only [Act.put, List.setIfInBounds_toArray, List.set_cons_zero, List.set_cons_succ])
        go_cut [44] (fun v44 wc => ∃ (kq : Nat) (x44_16 : Bool), v44 = .bool x44_16 ∧ Aside0 (pandectlaw13_ScopeNearest.j1 kq l1 a2 a3 t161 t163 t164 x44_16 l0_0 = some r) ∧ Aside0 (kq ≤ kj5) ∧ Aside0 (wc.heap[gb160]? = some (.cells #[(.slice A0_0 l0_0.length c0_0)] 24 (0, 0))) ∧ Aside0 (Below w.heap.size w wc))
        case first =>
          have H := HC17.out
          clear HC17
          by_cases c20 : t164 = 1
          · rw [if_pos c20] at H
            have c20b0 : (t164 == 1) = true := beq_iff_eq.mpr c20
            have c20b1 : (t164 != 1) = false := bne_eq_false_iff_eq.mpr c20
            clear c20
            (first | rw [c20b0] | (simp only [i64_w, i32_w]; rw [c20b0]) | skip)
            have H' := Aside0.mk H
            clear H
            go_wp2
            repeat (go_quiet (fail); try go_wp2)
            go_meet
            case rel => exact ⟨_, (true), (by first | rfl | (simp; done) | (simp [*]; done)), H', ⟨by have := HJ5.out; first | omega | exact Nat.le_refl _⟩, ⟨by (with_reducible repeat (first | refine blk_drewN ?_ _ | refine blk_drew ?_ | refine blk_alloc ?_ _)); exact BK160.out⟩, ⟨by repeat (first | (with_reducible first | exact HB.out | apply below_alloc | apply pw_below_drewN | apply below_drew1 | refine below_set ?_ GE160.out) | exact HB.out)⟩⟩
          · rw [if_neg c20] at H
            have c20b0 : (t164 == 1) = false := beq_eq_false_iff_ne.mpr c20
            have c20b1 : (t164 != 1) = true := bne_iff_ne.mpr c20
            (first | rw [c20b0] | (simp only [i64_w, i32_w]; rw [c20b0]) | skip)
            have H' := Aside0.mk H
            clear H
            go_wp2
            repeat (go_quiet (fail); try go_wp2)
            go_meet
            case rel => exact ⟨_, ((t164 == 11)), (by first | rfl | (simp; done) | (simp [*]; done)), H', ⟨by have := HJ5.out; first | omega | exact Nat.le_refl _⟩, ⟨by (with_reducible repeat (first | refine blk_drewN ?_ _ | refine blk_drew ?_ | refine blk_alloc ?_ _)); exact BK160.out⟩, ⟨by repeat (first | (with_reducible first | exact HB.out | apply below_alloc | apply pw_below_drewN | apply below_drew1 | refine below_set ?_ GE160.out) | exact HB.out)⟩⟩
        case rest =>
          clear HC17
          try clear c1
          try clear c2
          try clear p2
          try clear c5
          try clear p6
          try clear c10
          try clear c15
          try clear c20
          try clear c20b0
          try clear c20b1
          try clear hcz11_0
          try clear hcz13_0
          try clear hcz18_0
          try clear hfz11_0
          try clear hfz13_0
          try clear hfz18_0
          try clear p2
          try clear p6
          obtain ⟨kq, x44_16, rfl, HA, HJ16, BK160, HB⟩ := hcut
          cases kq with
          | zero => exact absurd HA.out (by simp [pandectlaw13_ScopeNearest.j1])
          | succ kj16 =>
            have H := HA.out
            clear HA
            simp only [pandectlaw13_ScopeNearest.j1] at H
            by_cases c21 : x44_16 = true
            · subst c21
              have H1 : (if t161 = true then (some (t163.toList == ([] : List UInt8))) else (some false)) = some r := by rw [if_pos rfl] at H; exact H
              clear H
              have H := H1
              clear H1
              by_cases c22 : t161 = true
              · subst c22
                have H1 : (some (t163.toList == ([] : List UInt8))) = some r := by rw [if_pos rfl] at H; exact H
                clear H
                have H := H1
                clear H1
                obtain rfl := Option.some.inj H
                go_wp2
                repeat (go_quiet (fail); try go_wp2)
                go_ret
                exact ⟨by first | rfl | (simp [errW_none, errW_some] <;> rfl) | (simp [*, errW_none, errW_some] <;> rfl), by repeat (first | (with_reducible first | exact HB.out | apply below_alloc | apply pw_below_drewN | apply below_drew1 | refine below_set ?_ GE160.out) | exact HB.out)⟩
              · replace c22 := Bool.eq_false_iff.mpr c22
                subst c22
                have H1 : (some false) = some r := by rw [if_neg (show ¬ (false = true) by decide)] at H; exact H
                clear H
                have H := H1
                clear H1
                obtain rfl := Option.some.inj H
                go_wp2
                repeat (go_quiet (fail); try go_wp2)
                go_ret
                exact ⟨by first | rfl | (simp [errW_none, errW_some] <;> rfl) | (simp [*, errW_none, errW_some] <;> rfl), by repeat (first | (with_reducible first | exact HB.out | apply below_alloc | apply pw_below_drewN | apply below_drew1 | refine below_set ?_ GE160.out) | exact HB.out)⟩
            · replace c21 := Bool.eq_false_iff.mpr c21
              subst c21
              have H1 : ((pandectref13_Around.f kj16 l0_0 a2).bind fun t165 => (pandectlaw13_ScopeNearest.l0 kj16 l1 a3 t161 t163 t164 t165 0 l0_0)) = some r := by rw [if_neg (show ¬ (false = true) by decide)] at H; exact H
              clear H
              have H := H1
              clear H1
              replace H := Option.bind_eq_some_iff.mp H
              obtain ⟨t165, A230, H⟩ := H
              replace H : (pandectlaw13_ScopeNearest.l0 kj16 l1 a3 t161 t163 t164 t165 0 l0_0) = some r := H
              have A23 := Aside0.mk A230
              clear A230
              have H' := Aside0.mk H
              clear H
              have hcz24_0 : wc.cell? ⟨gb160, 0, none⟩ = some (.slice A0_0 l0_0.length c0_0) := (blk_cell BK160.out 0).trans rfl
              have hfz24_0 := blk_frozen BK160.out 0
              go_wp2_with (first | (go_at_call 27; (with_reducible refine (pandectref13_Around.calls kj16 _ _ l0_0 a2 t165 _ ?side1 ?side2 A23.out).mono ?_); (case side1 => repeat (first | exact (Kd.C_below HR0_0.out HB.out) | (with_reducible refine Kd.C_alloc ?_ _) | (with_reducible refine Kd.C_drewN ?_ _) | (with_reducible refine Kd.C_drew ?_))); (case side2 => exact HC0_0.out); rintro e w25 ⟨v166, rfl, ho0, hb⟩; have n0_ := Aside0.mk (Kd.R_lower ho0 (below_size (by repeat (first | (with_reducible first | exact HB.out | apply below_alloc | apply pw_below_drewN | apply below_drew1 | refine below_set ?_ GE160.out) | exact HB.out)))); have n1_ := Aside0.mk (blk_below (g := gb160) (o := .cells #[.slice A0_0 l0_0.length c0_0] 24 (0, 0)) (by (with_reducible repeat (first | refine blk_drewN ?_ _ | refine blk_drew ?_ | refine blk_alloc ?_ _)); exact BK160.out) hb); have n2_ := Aside0.mk (below_step (by repeat (first | (with_reducible first | exact HB.out | apply below_alloc | apply pw_below_drewN | apply below_drew1 | refine below_set ?_ GE160.out) | exact HB.out)) hb); clear BK160; clear HB; have HO167 := n0_; have BK160 := n1_; have HB := n2_; clear n0_ n1_ n2_; (try clear hb); (try clear hb2); (try clear hk); (try clear hi); (try clear ho0)))
              repeat (go_quiet (first | (go_at_call 27; (with_reducible refine (pandectref13_Around.calls kj16 _ _ l0_0 a2 t165 _ ?side1 ?side2 A23.out).mono ?_); (case side1 => repeat (first | exact (Kd.C_below HR0_0.out HB.out) | (with_reducible refine Kd.C_alloc ?_ _) | (with_reducible refine Kd.C_drewN ?_ _) | (with_reducible refine Kd.C_drew ?_))); (case side2 => exact HC0_0.out); rintro e w25 ⟨v166, rfl, ho0, hb⟩; have n0_ := Aside0.mk (Kd.R_lower ho0 (below_size (by repeat (first | (with_reducible first | exact HB.out | apply below_alloc | apply pw_below_drewN | apply below_drew1 | refine below_set ?_ GE160.out) | exact HB.out)))); have n1_ := Aside0.mk (blk_below (g := gb160) (o := .cells #[.slice A0_0 l0_0.length c0_0] 24 (0, 0)) (by (with_reducible repeat (first | refine blk_drewN ?_ _ | refine blk_drew ?_ | refine blk_alloc ?_ _)); exact BK160.out) hb); have n2_ := Aside0.mk (below_step (by repeat (first | (with_reducible first | exact HB.out | apply below_alloc | apply pw_below_drewN | apply below_drew1 | refine below_set ?_ GE160.out) | exact HB.out)) hb); clear BK160; clear HB; have HO167 := n0_; have BK160 := n1_; have HB := n2_; clear n0_ n1_ n2_; (try clear hb); (try clear hb2); (try clear hk); (try clear hi); (try clear ho0))); try go_wp2_with (first | (go_at_call 27; (with_reducible refine (pandectref13_Around.calls kj16 _ _ l0_0 a2 t165 _ ?side1 ?side2 A23.out).mono ?_); (case side1 => repeat (first | exact (Kd.C_below HR0_0.out HB.out) | (with_reducible refine Kd.C_alloc ?_ _) | (with_reducible refine Kd.C_drewN ?_ _) | (with_reducible refine Kd.C_drew ?_))); (case side2 => exact HC0_0.out); rintro e w25 ⟨v166, rfl, ho0, hb⟩; have n0_ := Aside0.mk (Kd.R_lower ho0 (below_size (by repeat (first | (with_reducible first | exact HB.out | apply below_alloc | apply pw_below_drewN | apply below_drew1 | refine below_set ?_ GE160.out) | exact HB.out)))); have n1_ := Aside0.mk (blk_below (g := gb160) (o := .cells #[.slice A0_0 l0_0.length c0_0] 24 (0, 0)) (by (with_reducible repeat (first | refine blk_drewN ?_ _ | refine blk_drew ?_ | refine blk_alloc ?_ _)); exact BK160.out) hb); have n2_ := Aside0.mk (below_step (by repeat (first | (with_reducible first | exact HB.out | apply below_alloc | apply pw_below_drewN | apply below_drew1 | refine below_set ?_ GE160.out) | exact HB.out)) hb); clear BK160; clear HB; have HO167 := n0_; have BK160 := n1_; have HB := n2_; clear n0_ n1_ n2_; (try clear hb); (try clear hb2); (try clear hk); (try clear hi); (try clear ho0))))
              go_loopg [13] kj16 (fun kq v13 w' => ∃ (x13_3 : Int), v13 = .int .i64 x13_3 ∧ Aside0 (pandectlaw13_ScopeNearest.l0 kq l1 a3 t161 t163 t164 t165 x13_3 l0_0 = some r) ∧ Aside0 (kq ≤ kj16) ∧ Aside0 (Kd.R Kd.string 9 w' w.heap.size (fun _ => True) v166 t165) ∧ Aside0 (w'.heap[gb160]? = some (.cells #[(.slice A0_0 l0_0.length c0_0)] 24 (0, 0))) ∧ Aside0 (Below w.heap.size w w'))
              case atStart => exact ⟨(0), (by first | rfl | (simp; done) | (simp [*]; done)), H', ⟨Nat.le_refl _⟩, ⟨by (with_reducible repeat (first | apply Kd.R_alloc | apply Kd.R_drewN | apply Kd.R_drew)); exact HO167.out⟩, ⟨by (with_reducible repeat (first | refine blk_drewN ?_ _ | refine blk_drew ?_ | refine blk_alloc ?_ _)); exact BK160.out⟩, ⟨by repeat (first | (with_reducible first | exact HB.out | apply below_alloc | apply pw_below_drewN | apply below_drew1 | refine below_set ?_ GE160.out) | exact HB.out)⟩⟩
              case round =>
                clear H'
                try clear c1
                try clear c2
                try clear p2
                try clear c5
                try clear p6
                try clear c10
                try clear c15
                try clear c20
                try clear c20b0
                try clear c20b1
                try clear c21
                try clear c22
                try clear hcz11_0
                try clear hcz13_0
                try clear hcz18_0
                try clear hcz24_0
                try clear hfz11_0
                try clear hfz13_0
                try clear hfz18_0
                try clear hfz24_0
                try clear p2
                try clear p6
                obtain ⟨x13_3, rfl, HA, HK3, HO_12, BK160, HB⟩ := hrel
                cases gk with
                | zero => exact absurd HA.out (by simp [pandectlaw13_ScopeNearest.l0])
                | succ k3 =>
                  have H := HA.out
                  clear HA
                  simp only [pandectlaw13_ScopeNearest.l0] at H
                  by_cases c26 : x13_3 < (t165.length : Int)
                  · rw [if_pos c26] at H
                    have c26b0 : decide (x13_3 < (t165.length : Int)) = true := decide_eq_true c26
                    clear c26
                    have H' := Aside0.mk H
                    clear H
                    obtain ⟨Ao27, co27, eo27⟩ := Kd.R_slice HO_12.out
                    subst eo27
                    go_wp2
                    repeat (go_quiet (fail); try go_wp2)
                    go_loopg [14, 15] k3 (fun kq v14 v15 w' => ∃ (x14_4 : Int) (x15_4 : Int), v14 = .int .i64 x14_4 ∧ v15 = .int .i64 x15_4 ∧ Aside0 (pandectlaw13_ScopeNearest.l1 kq l1 a3 t161 t163 t164 t165 x13_3 x14_4 x15_4 l0_0 = some r) ∧ Aside0 (kq ≤ k3) ∧ Aside0 (Kd.R Kd.string 9 w' w.heap.size (fun _ => True) (.slice Ao27 t165.length co27) t165) ∧ Aside0 (w'.heap[gb160]? = some (.cells #[(.slice A0_0 l0_0.length c0_0)] 24 (0, 0))) ∧ Aside0 (Below w.heap.size w w'))
                    case atStart => exact ⟨(0), (0), (by first | rfl | (simp; done) | (simp [*]; done)), (by first | rfl | (simp; done) | (simp [*]; done)), H', ⟨Nat.le_refl _⟩, ⟨by (with_reducible repeat (first | apply Kd.R_alloc | apply Kd.R_drewN | apply Kd.R_drew)); exact HO_12.out⟩, ⟨by (with_reducible repeat (first | refine blk_drewN ?_ _ | refine blk_drew ?_ | refine blk_alloc ?_ _)); exact BK160.out⟩, ⟨by repeat (first | (with_reducible first | exact HB.out | apply below_alloc | apply pw_below_drewN | apply below_drew1 | refine below_set ?_ GE160.out) | exact HB.out)⟩⟩
                    case round =>
                      clear H'
                      try clear c1
                      try clear c2
                      try clear p2
                      try clear c5
                      try clear p6
                      try clear c10
                      try clear c15
                      try clear c20
                      try clear c20b0
                      try clear c20b1
                      try clear c21
                      try clear c22
                      try clear c26
                      try clear c26b0
                      try clear hcz11_0
                      try clear hcz13_0
                      try clear hcz18_0
                      try clear hcz24_0
                      try clear hfz11_0
                      try clear hfz13_0
                      try clear hfz18_0
                      try clear hfz24_0
                      try clear p2
                      try clear p6
                      obtain ⟨x14_4, x15_4, rfl, rfl, HA, HK4, HO_12, BK160, HB⟩ := hrel
                      cases gk with
                      | zero => exact absurd HA.out (by simp [pandectlaw13_ScopeNearest.l1])
                      | succ k4 =>
                        have H := HA.out
                        clear HA
                        simp only [pandectlaw13_ScopeNearest.l1] at H
                        by_cases c28 : x15_4 < (l1.length : Int)
                        · rw [if_pos c28] at H
                          have c28b0 : decide (x15_4 < (l1.length : Int)) = true := decide_eq_true c28
                          clear c28
                          have HC29 := Aside0.mk H
                          clear H
                          go_upto_region 15 with (fail)
                          repeat (go_quiet (fail); go_upto_region 15 with (fail))
                          go_cut [79] (fun v79 wc => ∃ (kq : Nat) (x79_28 : Bool), v79 = .bool x79_28 ∧ Aside0 (pandectlaw13_ScopeNearest.j4 kq l1 a3 t161 t163 t164 t165 x13_3 x14_4 x15_4 x79_28 l0_0 = some r) ∧ Aside0 (kq ≤ k4) ∧ Aside0 (Kd.R Kd.string 9 wc w.heap.size (fun _ => True) (.slice Ao27 t165.length co27) t165) ∧ Aside0 (wc.heap[gb160]? = some (.cells #[(.slice A0_0 l0_0.length c0_0)] 24 (0, 0))) ∧ Aside0 (Below w.heap.size w wc))
                          case first =>
                            have H := HC29.out
                            clear HC29
                            by_cases c30 : 0 ≤ x15_4
                            · rw [if_pos c30] at H
                              have c30b0 : decide (0 ≤ x15_4) = true := decide_eq_true c30
                              clear c30
                              (first | rw [c30b0] | (simp only [i64_w, i32_w]; rw [c30b0]) | skip)
                              by_cases c31 : ((rd_T59 l1 x15_4).f2) = 1
                              · rw [if_pos c31] at H
                                have c31b0 : (((rd_T59 l1 x15_4).f2) == 1) = true := beq_iff_eq.mpr c31
                                have c31b1 : (((rd_T59 l1 x15_4).f2) != 1) = false := bne_eq_false_iff_eq.mpr c31
                                clear c31
                                have H' := Aside0.mk H
                                clear H
                                have p168 : 0 ≤ (x15_4 : Int) := of_decide_eq_true (by first | (with_reducible assumption) | assumption)
                                have q168 : x15_4 < (l1.length : Int) := of_decide_eq_true (by first | (with_reducible assumption) | assumption)
                                obtain ⟨ad168, A168_9, c168_9, A168_10, c168_10, A168_14, c168_14, A168_18, c168_18, A168_22, c168_22, e168, hx168_0, hx168_1, hx168_2, hx168_3, hx168_4, hx168_5, hx168_6, hx168_7, hx168_8, hx168_9, hx168_10, hx168_11, hx168_12, hx168_13, hx168_14, hx168_15, hx168_16, hx168_17, hx168_18, hx168_19, hx168_20, hx168_21, hx168_22, hl168_9, hi168_9, hl168_10, hi168_10, hl168_14, hi168_14, hl168_18, hi168_18, hl168_22, hi168_22⟩ := at_T59 HR1.out x15_4 p168 q168
                                cases e168
                                replace hx168_0 := (HB.out.cell (World.block_lt_of_cell? w _ hx168_0)).trans hx168_0
                                replace hx168_1 := (HB.out.cell (World.block_lt_of_cell? w _ hx168_1)).trans hx168_1
                                replace hx168_2 := (HB.out.cell (World.block_lt_of_cell? w _ hx168_2)).trans hx168_2
                                replace hx168_3 := (HB.out.cell (World.block_lt_of_cell? w _ hx168_3)).trans hx168_3
                                replace hx168_4 := (HB.out.cell (World.block_lt_of_cell? w _ hx168_4)).trans hx168_4
                                replace hx168_5 := (HB.out.cell (World.block_lt_of_cell? w _ hx168_5)).trans hx168_5
                                replace hx168_6 := (HB.out.cell (World.block_lt_of_cell? w _ hx168_6)).trans hx168_6
                                replace hx168_7 := (HB.out.cell (World.block_lt_of_cell? w _ hx168_7)).trans hx168_7
                                replace hx168_8 := (HB.out.cell (World.block_lt_of_cell? w _ hx168_8)).trans hx168_8
                                replace hx168_9 := (HB.out.cell (World.block_lt_of_cell? w _ hx168_9)).trans hx168_9
                                replace hx168_10 := (HB.out.cell (World.block_lt_of_cell? w _ hx168_10)).trans hx168_10
                                replace hx168_11 := (HB.out.cell (World.block_lt_of_cell? w _ hx168_11)).trans hx168_11
                                replace hx168_12 := (HB.out.cell (World.block_lt_of_cell? w _ hx168_12)).trans hx168_12
                                replace hx168_13 := (HB.out.cell (World.block_lt_of_cell? w _ hx168_13)).trans hx168_13
                                replace hx168_14 := (HB.out.cell (World.block_lt_of_cell? w _ hx168_14)).trans hx168_14
                                replace hx168_15 := (HB.out.cell (World.block_lt_of_cell? w _ hx168_15)).trans hx168_15
                                replace hx168_16 := (HB.out.cell (World.block_lt_of_cell? w _ hx168_16)).trans hx168_16
                                replace hx168_17 := (HB.out.cell (World.block_lt_of_cell? w _ hx168_17)).trans hx168_17
                                replace hx168_18 := (HB.out.cell (World.block_lt_of_cell? w _ hx168_18)).trans hx168_18
                                replace hx168_19 := (HB.out.cell (World.block_lt_of_cell? w _ hx168_19)).trans hx168_19
                                replace hx168_20 := (HB.out.cell (World.block_lt_of_cell? w _ hx168_20)).trans hx168_20
                                replace hx168_21 := (HB.out.cell (World.block_lt_of_cell? w _ hx168_21)).trans hx168_21
                                replace hx168_22 := (HB.out.cell (World.block_lt_of_cell? w _ hx168_22)).trans hx168_22
                                have HR168_9 := Aside0.mk hi168_9
                                have HC168_9 := Aside0.mk hl168_9
                                clear hi168_9 hl168_9
                                have HR168_10 := Aside0.mk hi168_10
                                have HC168_10 := Aside0.mk hl168_10
                                clear hi168_10 hl168_10
                                have HR168_14 := Aside0.mk hi168_14
                                have HC168_14 := Aside0.mk hl168_14
                                clear hi168_14 hl168_14
                                have HR168_18 := Aside0.mk hi168_18
                                have HC168_18 := Aside0.mk hl168_18
                                clear hi168_18 hl168_18
                                have HR168_22 := Aside0.mk hi168_22
                                have HC168_22 := Aside0.mk hl168_22
                                clear hi168_22 hl168_22
                                replace p168 := eq_true p168
                                replace q168 := eq_true q168
                                have p169 : 0 ≤ (x15_4 : Int) := of_decide_eq_true (by first | (with_reducible assumption) | assumption)
                                have q169 : x15_4 < (l1.length : Int) := of_decide_eq_true (by first | (with_reducible assumption) | assumption)
                                obtain ⟨ad169, A169_9, c169_9, A169_10, c169_10, A169_14, c169_14, A169_18, c169_18, A169_22, c169_22, e169, hx169_0, hx169_1, hx169_2, hx169_3, hx169_4, hx169_5, hx169_6, hx169_7, hx169_8, hx169_9, hx169_10, hx169_11, hx169_12, hx169_13, hx169_14, hx169_15, hx169_16, hx169_17, hx169_18, hx169_19, hx169_20, hx169_21, hx169_22, hl169_9, hi169_9, hl169_10, hi169_10, hl169_14, hi169_14, hl169_18, hi169_18, hl169_22, hi169_22⟩ := at_T59 HR1.out x15_4 p169 q169
                                obtain rfl : ad168 = ad169 := (by injection e169)
                                replace hx169_0 := (HB.out.cell (World.block_lt_of_cell? w _ hx169_0)).trans hx169_0
                                replace hx169_1 := (HB.out.cell (World.block_lt_of_cell? w _ hx169_1)).trans hx169_1
                                replace hx169_2 := (HB.out.cell (World.block_lt_of_cell? w _ hx169_2)).trans hx169_2
                                replace hx169_3 := (HB.out.cell (World.block_lt_of_cell? w _ hx169_3)).trans hx169_3
                                replace hx169_4 := (HB.out.cell (World.block_lt_of_cell? w _ hx169_4)).trans hx169_4
                                replace hx169_5 := (HB.out.cell (World.block_lt_of_cell? w _ hx169_5)).trans hx169_5
                                replace hx169_6 := (HB.out.cell (World.block_lt_of_cell? w _ hx169_6)).trans hx169_6
                                replace hx169_7 := (HB.out.cell (World.block_lt_of_cell? w _ hx169_7)).trans hx169_7
                                replace hx169_8 := (HB.out.cell (World.block_lt_of_cell? w _ hx169_8)).trans hx169_8
                                replace hx169_9 := (HB.out.cell (World.block_lt_of_cell? w _ hx169_9)).trans hx169_9
                                replace hx169_10 := (HB.out.cell (World.block_lt_of_cell? w _ hx169_10)).trans hx169_10
                                replace hx169_11 := (HB.out.cell (World.block_lt_of_cell? w _ hx169_11)).trans hx169_11
                                replace hx169_12 := (HB.out.cell (World.block_lt_of_cell? w _ hx169_12)).trans hx169_12
                                replace hx169_13 := (HB.out.cell (World.block_lt_of_cell? w _ hx169_13)).trans hx169_13
                                replace hx169_14 := (HB.out.cell (World.block_lt_of_cell? w _ hx169_14)).trans hx169_14
                                replace hx169_15 := (HB.out.cell (World.block_lt_of_cell? w _ hx169_15)).trans hx169_15
                                replace hx169_16 := (HB.out.cell (World.block_lt_of_cell? w _ hx169_16)).trans hx169_16
                                replace hx169_17 := (HB.out.cell (World.block_lt_of_cell? w _ hx169_17)).trans hx169_17
                                replace hx169_18 := (HB.out.cell (World.block_lt_of_cell? w _ hx169_18)).trans hx169_18
                                replace hx169_19 := (HB.out.cell (World.block_lt_of_cell? w _ hx169_19)).trans hx169_19
                                replace hx169_20 := (HB.out.cell (World.block_lt_of_cell? w _ hx169_20)).trans hx169_20
                                replace hx169_21 := (HB.out.cell (World.block_lt_of_cell? w _ hx169_21)).trans hx169_21
                                replace hx169_22 := (HB.out.cell (World.block_lt_of_cell? w _ hx169_22)).trans hx169_22
                                have HR169_9 := Aside0.mk hi169_9
                                have HC169_9 := Aside0.mk hl169_9
                                clear hi169_9 hl169_9
                                have HR169_10 := Aside0.mk hi169_10
                                have HC169_10 := Aside0.mk hl169_10
                                clear hi169_10 hl169_10
                                have HR169_14 := Aside0.mk hi169_14
                                have HC169_14 := Aside0.mk hl169_14
                                clear hi169_14 hl169_14
                                have HR169_18 := Aside0.mk hi169_18
                                have HC169_18 := Aside0.mk hl169_18
                                clear hi169_18 hl169_18
                                have HR169_22 := Aside0.mk hi169_22
                                have HC169_22 := Aside0.mk hl169_22
                                clear hi169_22 hl169_22
                                replace p169 := eq_true p169
                                replace q169 := eq_true q169
                                have ea_ := Option.some.inj (hx168_9.symm.trans hx169_9)
                                injection ea_ with ea_ en_ ec_
                                subst ea_
                                subst ec_
                                clear en_
                                have ea_ := Option.some.inj (hx168_10.symm.trans hx169_10)
                                injection ea_ with ea_ en_ ec_
                                subst ea_
                                subst ec_
                                clear en_
                                have ea_ := Option.some.inj (hx168_14.symm.trans hx169_14)
                                injection ea_ with ea_ en_ ec_
                                subst ea_
                                subst ec_
                                clear en_
                                have ea_ := Option.some.inj (hx168_18.symm.trans hx169_18)
                                injection ea_ with ea_ en_ ec_
                                subst ea_
                                subst ec_
                                clear en_
                                have ea_ := Option.some.inj (hx168_22.symm.trans hx169_22)
                                injection ea_ with ea_ en_ ec_
                                subst ea_
                                subst ec_
                                clear en_
                                go_wp2
                                repeat (go_quiet (fail); try go_wp2)
                                go_meet
                                case rel => exact ⟨_, ((((rd_T59 l1 x15_4).f3).toList != a3.toList)), (by first | rfl | (simp; done) | (simp [*]; done)), H', ⟨by have := HJ5.out; have := HJ16.out; have := HK3.out; have := HK4.out; first | omega | exact Nat.le_refl _⟩, ⟨by (with_reducible repeat (first | apply Kd.R_alloc | apply Kd.R_drewN | apply Kd.R_drew)); exact HO_12.out⟩, ⟨by (with_reducible repeat (first | refine blk_drewN ?_ _ | refine blk_drew ?_ | refine blk_alloc ?_ _)); exact BK160.out⟩, ⟨by repeat (first | (with_reducible first | exact HB.out | apply below_alloc | apply pw_below_drewN | apply below_drew1 | refine below_set ?_ GE160.out) | exact HB.out)⟩⟩
                              · rw [if_neg c31] at H
                                have c31b0 : (((rd_T59 l1 x15_4).f2) == 1) = false := beq_eq_false_iff_ne.mpr c31
                                have c31b1 : (((rd_T59 l1 x15_4).f2) != 1) = true := bne_iff_ne.mpr c31
                                have H' := Aside0.mk H
                                clear H
                                have p168 : 0 ≤ (x15_4 : Int) := of_decide_eq_true (by first | (with_reducible assumption) | assumption)
                                have q168 : x15_4 < (l1.length : Int) := of_decide_eq_true (by first | (with_reducible assumption) | assumption)
                                obtain ⟨ad168, A168_9, c168_9, A168_10, c168_10, A168_14, c168_14, A168_18, c168_18, A168_22, c168_22, e168, hx168_0, hx168_1, hx168_2, hx168_3, hx168_4, hx168_5, hx168_6, hx168_7, hx168_8, hx168_9, hx168_10, hx168_11, hx168_12, hx168_13, hx168_14, hx168_15, hx168_16, hx168_17, hx168_18, hx168_19, hx168_20, hx168_21, hx168_22, hl168_9, hi168_9, hl168_10, hi168_10, hl168_14, hi168_14, hl168_18, hi168_18, hl168_22, hi168_22⟩ := at_T59 HR1.out x15_4 p168 q168
                                cases e168
                                replace hx168_0 := (HB.out.cell (World.block_lt_of_cell? w _ hx168_0)).trans hx168_0
                                replace hx168_1 := (HB.out.cell (World.block_lt_of_cell? w _ hx168_1)).trans hx168_1
                                replace hx168_2 := (HB.out.cell (World.block_lt_of_cell? w _ hx168_2)).trans hx168_2
                                replace hx168_3 := (HB.out.cell (World.block_lt_of_cell? w _ hx168_3)).trans hx168_3
                                replace hx168_4 := (HB.out.cell (World.block_lt_of_cell? w _ hx168_4)).trans hx168_4
                                replace hx168_5 := (HB.out.cell (World.block_lt_of_cell? w _ hx168_5)).trans hx168_5
                                replace hx168_6 := (HB.out.cell (World.block_lt_of_cell? w _ hx168_6)).trans hx168_6
                                replace hx168_7 := (HB.out.cell (World.block_lt_of_cell? w _ hx168_7)).trans hx168_7
                                replace hx168_8 := (HB.out.cell (World.block_lt_of_cell? w _ hx168_8)).trans hx168_8
                                replace hx168_9 := (HB.out.cell (World.block_lt_of_cell? w _ hx168_9)).trans hx168_9
                                replace hx168_10 := (HB.out.cell (World.block_lt_of_cell? w _ hx168_10)).trans hx168_10
                                replace hx168_11 := (HB.out.cell (World.block_lt_of_cell? w _ hx168_11)).trans hx168_11
                                replace hx168_12 := (HB.out.cell (World.block_lt_of_cell? w _ hx168_12)).trans hx168_12
                                replace hx168_13 := (HB.out.cell (World.block_lt_of_cell? w _ hx168_13)).trans hx168_13
                                replace hx168_14 := (HB.out.cell (World.block_lt_of_cell? w _ hx168_14)).trans hx168_14
                                replace hx168_15 := (HB.out.cell (World.block_lt_of_cell? w _ hx168_15)).trans hx168_15
                                replace hx168_16 := (HB.out.cell (World.block_lt_of_cell? w _ hx168_16)).trans hx168_16
                                replace hx168_17 := (HB.out.cell (World.block_lt_of_cell? w _ hx168_17)).trans hx168_17
                                replace hx168_18 := (HB.out.cell (World.block_lt_of_cell? w _ hx168_18)).trans hx168_18
                                replace hx168_19 := (HB.out.cell (World.block_lt_of_cell? w _ hx168_19)).trans hx168_19
                                replace hx168_20 := (HB.out.cell (World.block_lt_of_cell? w _ hx168_20)).trans hx168_20
                                replace hx168_21 := (HB.out.cell (World.block_lt_of_cell? w _ hx168_21)).trans hx168_21
                                replace hx168_22 := (HB.out.cell (World.block_lt_of_cell? w _ hx168_22)).trans hx168_22
                                have HR168_9 := Aside0.mk hi168_9
                                have HC168_9 := Aside0.mk hl168_9
                                clear hi168_9 hl168_9
                                have HR168_10 := Aside0.mk hi168_10
                                have HC168_10 := Aside0.mk hl168_10
                                clear hi168_10 hl168_10
                                have HR168_14 := Aside0.mk hi168_14
                                have HC168_14 := Aside0.mk hl168_14
                                clear hi168_14 hl168_14
                                have HR168_18 := Aside0.mk hi168_18
                                have HC168_18 := Aside0.mk hl168_18
                                clear hi168_18 hl168_18
                                have HR168_22 := Aside0.mk hi168_22
                                have HC168_22 := Aside0.mk hl168_22
                                clear hi168_22 hl168_22
                                replace p168 := eq_true p168
                                replace q168 := eq_true q168
                                go_wp2
                                repeat (go_quiet (fail); try go_wp2)
                                go_meet
                                case rel => exact ⟨_, (true), (by first | rfl | (simp; done) | (simp [*]; done)), H', ⟨by have := HJ5.out; have := HJ16.out; have := HK3.out; have := HK4.out; first | omega | exact Nat.le_refl _⟩, ⟨by (with_reducible repeat (first | apply Kd.R_alloc | apply Kd.R_drewN | apply Kd.R_drew)); exact HO_12.out⟩, ⟨by (with_reducible repeat (first | refine blk_drewN ?_ _ | refine blk_drew ?_ | refine blk_alloc ?_ _)); exact BK160.out⟩, ⟨by repeat (first | (with_reducible first | exact HB.out | apply below_alloc | apply pw_below_drewN | apply below_drew1 | refine below_set ?_ GE160.out) | exact HB.out)⟩⟩
                            · rw [if_neg c30] at H
                              exact absurd H (by simp)
                          case rest =>
                            clear HC29
                            try clear c1
                            try clear p1
                            try clear q1
                            try clear hx1
                            try clear c2
                            try clear p2
                            try clear c3
                            try clear c5
                            try clear p6
                            try clear c10
                            try clear c15
                            try clear c16
                            try clear p16
                            try clear q16
                            try clear hx16
                            try clear c20
                            try clear c20b0
                            try clear c20b1
                            try clear c21
                            try clear c22
                            try clear c26
                            try clear c26b0
                            try clear c28
                            try clear c28b0
                            try clear c30
                            try clear c30b0
                            try clear c31
                            try clear c31b0
                            try clear c31b1
                            try clear hcz11_0
                            try clear hcz13_0
                            try clear hcz18_0
                            try clear hcz24_0
                            try clear hfz11_0
                            try clear hfz13_0
                            try clear hfz18_0
                            try clear hfz24_0
                            try clear hx168_0
                            try clear hx168_1
                            try clear hx168_10
                            try clear hx168_11
                            try clear hx168_12
                            try clear hx168_13
                            try clear hx168_14
                            try clear hx168_15
                            try clear hx168_16
                            try clear hx168_17
                            try clear hx168_18
                            try clear hx168_19
                            try clear hx168_2
                            try clear hx168_20
                            try clear hx168_21
                            try clear hx168_22
                            try clear hx168_3
                            try clear hx168_4
                            try clear hx168_5
                            try clear hx168_6
                            try clear hx168_7
                            try clear hx168_8
                            try clear hx168_9
                            try clear hx169_0
                            try clear hx169_1
                            try clear hx169_10
                            try clear hx169_11
                            try clear hx169_12
                            try clear hx169_13
                            try clear hx169_14
                            try clear hx169_15
                            try clear hx169_16
                            try clear hx169_17
                            try clear hx169_18
                            try clear hx169_19
                            try clear hx169_2
                            try clear hx169_20
                            try clear hx169_21
                            try clear hx169_22
                            try clear hx169_3
                            try clear hx169_4
                            try clear hx169_5
                            try clear hx169_6
                            try clear hx169_7
                            try clear hx169_8
                            try clear hx169_9
                            try clear p168
                            try clear p169
                            try clear p2
                            try clear p6
                            try clear q168
                            try clear q169
                            obtain ⟨kq, x79_28, rfl, HA, HJ28, HO_12, BK160, HB⟩ := hcut
                            cases kq with
                            | zero => exact absurd HA.out (by simp [pandectlaw13_ScopeNearest.j4])
                            | succ kj28 =>
                              have H := HA.out
                              clear HA
                              simp only [pandectlaw13_ScopeNearest.j4] at H
                              by_cases c32 : x79_28 = true
                              · subst c32
                                have H1 : (pandectlaw13_ScopeNearest.l1 kj28 l1 a3 t161 t163 t164 t165 x13_3 x14_4 (wrap64 (x15_4 + 1)) l0_0) = some r := by rw [if_pos rfl] at H; exact H
                                clear H
                                have H := H1
                                clear H1
                                have H' := Aside0.mk H
                                clear H
                                go_wp2
                                repeat (go_quiet (fail); try go_wp2)
                                go_roundg kj28
                                case measure => have := HJ5.out; have := HJ16.out; have := HK3.out; have := HK4.out; have := HJ28.out; omega
                                case rel => exact ⟨(x14_4), (wrap64 (x15_4 + 1)), (by first | rfl | (simp; done) | (simp [*]; done)), (by first | rfl | (simp; done) | (simp [*]; done)), H', ⟨by have := HJ5.out; have := HJ16.out; have := HK3.out; have := HK4.out; have := HJ28.out; omega⟩, ⟨by (with_reducible repeat (first | apply Kd.R_alloc | apply Kd.R_drewN | apply Kd.R_drew)); exact HO_12.out⟩, ⟨by (with_reducible repeat (first | refine blk_drewN ?_ _ | refine blk_drew ?_ | refine blk_alloc ?_ _)); exact BK160.out⟩, ⟨by repeat (first | (with_reducible first | exact HB.out | apply below_alloc | apply pw_below_drewN | apply below_drew1 | refine below_set ?_ GE160.out) | exact HB.out)⟩⟩
                              · replace c32 := Bool.eq_false_iff.mpr c32
                                subst c32
                                have H1 : (pandectlaw13_ScopeNearest.l2 kj28 l1 a3 t161 t163 t164 t165 x13_3 x14_4 x15_4 0 l0_0) = some r := by rw [if_neg (show ¬ (false = true) by decide)] at H; exact H
                                clear H
                                have H := H1
                                clear H1
                                have H' := Aside0.mk H
                                clear H
                                go_wp2
                                repeat (go_quiet (fail); try go_wp2)
                                go_loopg [14, 16] kj28 (fun kq v14 v16 w' => ∃ (x14_6 : Int) (x16_6 : Int), v14 = .int .i64 x14_6 ∧ v16 = .int .i64 x16_6 ∧ Aside0 (pandectlaw13_ScopeNearest.l2 kq l1 a3 t161 t163 t164 t165 x13_3 x14_6 x15_4 x16_6 l0_0 = some r) ∧ Aside0 (kq ≤ kj28) ∧ Aside0 (Kd.R Kd.string 9 w' w.heap.size (fun _ => True) (.slice Ao27 t165.length co27) t165) ∧ Aside0 (w'.heap[gb160]? = some (.cells #[(.slice A0_0 l0_0.length c0_0)] 24 (0, 0))) ∧ Aside0 (Below w.heap.size w w'))
                                case atStart => exact ⟨(x14_4), (0), (by first | rfl | (simp; done) | (simp [*]; done)), (by first | rfl | (simp; done) | (simp [*]; done)), H', ⟨Nat.le_refl _⟩, ⟨by (with_reducible repeat (first | apply Kd.R_alloc | apply Kd.R_drewN | apply Kd.R_drew)); exact HO_12.out⟩, ⟨by (with_reducible repeat (first | refine blk_drewN ?_ _ | refine blk_drew ?_ | refine blk_alloc ?_ _)); exact BK160.out⟩, ⟨by repeat (first | (with_reducible first | exact HB.out | apply below_alloc | apply pw_below_drewN | apply below_drew1 | refine below_set ?_ GE160.out) | exact HB.out)⟩⟩
                                case round =>
                                  clear H'
                                  try clear c1
                                  try clear p1
                                  try clear q1
                                  try clear hx1
                                  try clear c2
                                  try clear p2
                                  try clear c3
                                  try clear c5
                                  try clear p6
                                  try clear c10
                                  try clear c15
                                  try clear c16
                                  try clear p16
                                  try clear q16
                                  try clear hx16
                                  try clear c20
                                  try clear c20b0
                                  try clear c20b1
                                  try clear c21
                                  try clear c22
                                  try clear c26
                                  try clear c26b0
                                  try clear c28
                                  try clear c28b0
                                  try clear c30
                                  try clear c30b0
                                  try clear c31
                                  try clear c31b0
                                  try clear c31b1
                                  try clear c32
                                  try clear hcz11_0
                                  try clear hcz13_0
                                  try clear hcz18_0
                                  try clear hcz24_0
                                  try clear hfz11_0
                                  try clear hfz13_0
                                  try clear hfz18_0
                                  try clear hfz24_0
                                  try clear hx168_0
                                  try clear hx168_1
                                  try clear hx168_10
                                  try clear hx168_11
                                  try clear hx168_12
                                  try clear hx168_13
                                  try clear hx168_14
                                  try clear hx168_15
                                  try clear hx168_16
                                  try clear hx168_17
                                  try clear hx168_18
                                  try clear hx168_19
                                  try clear hx168_2
                                  try clear hx168_20
                                  try clear hx168_21
                                  try clear hx168_22
                                  try clear hx168_3
                                  try clear hx168_4
                                  try clear hx168_5
                                  try clear hx168_6
                                  try clear hx168_7
                                  try clear hx168_8
                                  try clear hx168_9
                                  try clear hx169_0
                                  try clear hx169_1
                                  try clear hx169_10
                                  try clear hx169_11
                                  try clear hx169_12
                                  try clear hx169_13
                                  try clear hx169_14
                                  try clear hx169_15
                                  try clear hx169_16
                                  try clear hx169_17
                                  try clear hx169_18
                                  try clear hx169_19
                                  try clear hx169_2
                                  try clear hx169_20
                                  try clear hx169_21
                                  try clear hx169_22
                                  try clear hx169_3
                                  try clear hx169_4
                                  try clear hx169_5
                                  try clear hx169_6
                                  try clear hx169_7
                                  try clear hx169_8
                                  try clear hx169_9
                                  try clear p1
                                  try clear p16
                                  try clear p168
                                  try clear p169
                                  try clear p2
                                  try clear p6
                                  try clear q1
                                  try clear q16
                                  try clear q168
                                  try clear q169
                                  obtain ⟨x14_6, x16_6, rfl, rfl, HA, HK6, HO_12, BK160, HB⟩ := hrel
                                  cases gk with
                                  | zero => exact absurd HA.out (by simp [pandectlaw13_ScopeNearest.l2])
                                  | succ k6 =>
                                    have H := HA.out
                                    clear HA
                                    simp only [pandectlaw13_ScopeNearest.l2] at H
                                    by_cases c33 : x16_6 < (l0_0.length : Int)
                                    · rw [if_pos c33] at H
                                      have c33b0 : decide (x16_6 < (l0_0.length : Int)) = true := decide_eq_true c33
                                      clear c33
                                      have HC34 := Aside0.mk H
                                      clear H
                                      have hcz35_0 : wr.cell? ⟨gb160, 0, none⟩ = some (.slice A0_0 l0_0.length c0_0) := (blk_cell BK160.out 0).trans rfl
                                      have hfz35_0 := blk_frozen BK160.out 0
                                      go_upto_region 19 with (fail)
                                      repeat (go_quiet (fail); go_upto_region 19 with (fail))
                                      go_cut [111] (fun v111 wc => ∃ (kq : Nat) (x111_33 : Bool), v111 = .bool x111_33 ∧ Aside0 (pandectlaw13_ScopeNearest.j6 kq l1 a3 t161 t163 t164 t165 x13_3 x14_6 x15_4 x16_6 x111_33 l0_0 = some r) ∧ Aside0 (kq ≤ k6) ∧ Aside0 (Kd.R Kd.string 9 wc w.heap.size (fun _ => True) (.slice Ao27 t165.length co27) t165) ∧ Aside0 (wc.heap[gb160]? = some (.cells #[(.slice A0_0 l0_0.length c0_0)] 24 (0, 0))) ∧ Aside0 (Below w.heap.size w wc))
                                      case first =>
                                        have H := HC34.out
                                        clear HC34
                                        by_cases c36 : 0 ≤ x16_6
                                        · rw [if_pos c36] at H
                                          have c36b0 : decide (0 ≤ x16_6) = true := decide_eq_true c36
                                          clear c36
                                          (first | rw [c36b0] | (simp only [i64_w, i32_w]; rw [c36b0]) | skip)
                                          by_cases c37 : 0 ≤ x15_4
                                          · rw [if_pos c37] at H
                                            have c37b0 : decide (0 ≤ x15_4) = true := decide_eq_true c37
                                            clear c37
                                            by_cases c38 : x15_4 < (l1.length : Int)
                                            · rw [if_pos c38] at H
                                              have c38b0 : decide (x15_4 < (l1.length : Int)) = true := decide_eq_true c38
                                              clear c38
                                              by_cases c39 : ((rd_T61 l0_0 x16_6).f1).toList = ((rd_T59 l1 x15_4).f0).toList
                                              · rw [if_pos c39] at H
                                                have c39b0 : (((rd_T61 l0_0 x16_6).f1).toList == ((rd_T59 l1 x15_4).f0).toList) = true := beq_iff_eq.mpr c39
                                                have c39b1 : (((rd_T61 l0_0 x16_6).f1).toList != ((rd_T59 l1 x15_4).f0).toList) = false := bne_eq_false_iff_eq.mpr c39
                                                clear c39
                                                by_cases c40 : 0 ≤ x13_3
                                                · rw [if_pos c40] at H
                                                  have c40b0 : decide (0 ≤ x13_3) = true := decide_eq_true c40
                                                  clear c40
                                                  by_cases c41 : x13_3 < (t165.length : Int)
                                                  · rw [if_pos c41] at H
                                                    have c41b0 : decide (x13_3 < (t165.length : Int)) = true := decide_eq_true c41
                                                    clear c41
                                                    have H' := Aside0.mk H
                                                    clear H
                                                    have hcz42_0 : wr.cell? ⟨gb160, 0, none⟩ = some (.slice A0_0 l0_0.length c0_0) := (blk_cell BK160.out 0).trans rfl
                                                    have hfz42_0 := blk_frozen BK160.out 0
                                                    have p170 : 0 ≤ (x16_6 : Int) := of_decide_eq_true (by first | (with_reducible assumption) | assumption)
                                                    have q170 : x16_6 < (l0_0.length : Int) := of_decide_eq_true (by first | (with_reducible assumption) | assumption)
                                                    obtain ⟨ad170, e170, hx170_0, hx170_1, hx170_2, hx170_3, hx170_4, hx170_5, hx170_6⟩ := at_T61 HR0_0.out x16_6 p170 q170
                                                    cases e170
                                                    replace hx170_0 := (HB.out.cell (World.block_lt_of_cell? w _ hx170_0)).trans hx170_0
                                                    replace hx170_1 := (HB.out.cell (World.block_lt_of_cell? w _ hx170_1)).trans hx170_1
                                                    replace hx170_2 := (HB.out.cell (World.block_lt_of_cell? w _ hx170_2)).trans hx170_2
                                                    replace hx170_3 := (HB.out.cell (World.block_lt_of_cell? w _ hx170_3)).trans hx170_3
                                                    replace hx170_4 := (HB.out.cell (World.block_lt_of_cell? w _ hx170_4)).trans hx170_4
                                                    replace hx170_5 := (HB.out.cell (World.block_lt_of_cell? w _ hx170_5)).trans hx170_5
                                                    replace hx170_6 := (HB.out.cell (World.block_lt_of_cell? w _ hx170_6)).trans hx170_6
                                                    replace p170 := eq_true p170
                                                    replace q170 := eq_true q170
                                                    have p171 : 0 ≤ (x15_4 : Int) := of_decide_eq_true (by first | (with_reducible assumption) | assumption)
                                                    have q171 : x15_4 < (l1.length : Int) := of_decide_eq_true (by first | (with_reducible assumption) | assumption)
                                                    obtain ⟨ad171, A171_9, c171_9, A171_10, c171_10, A171_14, c171_14, A171_18, c171_18, A171_22, c171_22, e171, hx171_0, hx171_1, hx171_2, hx171_3, hx171_4, hx171_5, hx171_6, hx171_7, hx171_8, hx171_9, hx171_10, hx171_11, hx171_12, hx171_13, hx171_14, hx171_15, hx171_16, hx171_17, hx171_18, hx171_19, hx171_20, hx171_21, hx171_22, hl171_9, hi171_9, hl171_10, hi171_10, hl171_14, hi171_14, hl171_18, hi171_18, hl171_22, hi171_22⟩ := at_T59 HR1.out x15_4 p171 q171
                                                    cases e171
                                                    replace hx171_0 := (HB.out.cell (World.block_lt_of_cell? w _ hx171_0)).trans hx171_0
                                                    replace hx171_1 := (HB.out.cell (World.block_lt_of_cell? w _ hx171_1)).trans hx171_1
                                                    replace hx171_2 := (HB.out.cell (World.block_lt_of_cell? w _ hx171_2)).trans hx171_2
                                                    replace hx171_3 := (HB.out.cell (World.block_lt_of_cell? w _ hx171_3)).trans hx171_3
                                                    replace hx171_4 := (HB.out.cell (World.block_lt_of_cell? w _ hx171_4)).trans hx171_4
                                                    replace hx171_5 := (HB.out.cell (World.block_lt_of_cell? w _ hx171_5)).trans hx171_5
                                                    replace hx171_6 := (HB.out.cell (World.block_lt_of_cell? w _ hx171_6)).trans hx171_6
                                                    replace hx171_7 := (HB.out.cell (World.block_lt_of_cell? w _ hx171_7)).trans hx171_7
                                                    replace hx171_8 := (HB.out.cell (World.block_lt_of_cell? w _ hx171_8)).trans hx171_8
                                                    replace hx171_9 := (HB.out.cell (World.block_lt_of_cell? w _ hx171_9)).trans hx171_9
                                                    replace hx171_10 := (HB.out.cell (World.block_lt_of_cell? w _ hx171_10)).trans hx171_10
                                                    replace hx171_11 := (HB.out.cell (World.block_lt_of_cell? w _ hx171_11)).trans hx171_11
                                                    replace hx171_12 := (HB.out.cell (World.block_lt_of_cell? w _ hx171_12)).trans hx171_12
                                                    replace hx171_13 := (HB.out.cell (World.block_lt_of_cell? w _ hx171_13)).trans hx171_13
                                                    replace hx171_14 := (HB.out.cell (World.block_lt_of_cell? w _ hx171_14)).trans hx171_14
                                                    replace hx171_15 := (HB.out.cell (World.block_lt_of_cell? w _ hx171_15)).trans hx171_15
                                                    replace hx171_16 := (HB.out.cell (World.block_lt_of_cell? w _ hx171_16)).trans hx171_16
                                                    replace hx171_17 := (HB.out.cell (World.block_lt_of_cell? w _ hx171_17)).trans hx171_17
                                                    replace hx171_18 := (HB.out.cell (World.block_lt_of_cell? w _ hx171_18)).trans hx171_18
                                                    replace hx171_19 := (HB.out.cell (World.block_lt_of_cell? w _ hx171_19)).trans hx171_19
                                                    replace hx171_20 := (HB.out.cell (World.block_lt_of_cell? w _ hx171_20)).trans hx171_20
                                                    replace hx171_21 := (HB.out.cell (World.block_lt_of_cell? w _ hx171_21)).trans hx171_21
                                                    replace hx171_22 := (HB.out.cell (World.block_lt_of_cell? w _ hx171_22)).trans hx171_22
                                                    have HR171_9 := Aside0.mk hi171_9
                                                    have HC171_9 := Aside0.mk hl171_9
                                                    clear hi171_9 hl171_9
                                                    have HR171_10 := Aside0.mk hi171_10
                                                    have HC171_10 := Aside0.mk hl171_10
                                                    clear hi171_10 hl171_10
                                                    have HR171_14 := Aside0.mk hi171_14
                                                    have HC171_14 := Aside0.mk hl171_14
                                                    clear hi171_14 hl171_14
                                                    have HR171_18 := Aside0.mk hi171_18
                                                    have HC171_18 := Aside0.mk hl171_18
                                                    clear hi171_18 hl171_18
                                                    have HR171_22 := Aside0.mk hi171_22
                                                    have HC171_22 := Aside0.mk hl171_22
                                                    clear hi171_22 hl171_22
                                                    replace p171 := eq_true p171
                                                    replace q171 := eq_true q171
                                                    have p172 : 0 ≤ (x16_6 : Int) := of_decide_eq_true (by first | (with_reducible assumption) | assumption)
                                                    have q172 : x16_6 < (l0_0.length : Int) := of_decide_eq_true (by first | (with_reducible assumption) | assumption)
                                                    obtain ⟨ad172, e172, hx172_0, hx172_1, hx172_2, hx172_3, hx172_4, hx172_5, hx172_6⟩ := at_T61 HR0_0.out x16_6 p172 q172
                                                    obtain rfl : ad170 = ad172 := (by injection e172)
                                                    replace hx172_0 := (HB.out.cell (World.block_lt_of_cell? w _ hx172_0)).trans hx172_0
                                                    replace hx172_1 := (HB.out.cell (World.block_lt_of_cell? w _ hx172_1)).trans hx172_1
                                                    replace hx172_2 := (HB.out.cell (World.block_lt_of_cell? w _ hx172_2)).trans hx172_2
                                                    replace hx172_3 := (HB.out.cell (World.block_lt_of_cell? w _ hx172_3)).trans hx172_3
                                                    replace hx172_4 := (HB.out.cell (World.block_lt_of_cell? w _ hx172_4)).trans hx172_4
                                                    replace hx172_5 := (HB.out.cell (World.block_lt_of_cell? w _ hx172_5)).trans hx172_5
                                                    replace hx172_6 := (HB.out.cell (World.block_lt_of_cell? w _ hx172_6)).trans hx172_6
                                                    replace p172 := eq_true p172
                                                    replace q172 := eq_true q172
                                                    have p173 : 0 ≤ (x13_3 : Int) := of_decide_eq_true (by first | (with_reducible assumption) | assumption)
                                                    have q173 : x13_3 < (t165.length : Int) := of_decide_eq_true (by first | (with_reducible assumption) | assumption)
                                                    obtain ⟨ad173, e173, hx173_0⟩ := Kd.at_string (Kd.R_reads' HO_12.out).2.2 x13_3 p173 q173
                                                    cases e173
                                                    replace p173 := eq_true p173
                                                    replace q173 := eq_true q173
                                                    go_wp2
                                                    repeat (go_quiet (fail); try go_wp2)
                                                    go_meet
                                                    case rel => exact ⟨_, ((((rd_T61 l0_0 x16_6).f2).toList == (rdOf ByteArray.empty t165 x13_3).toList)), (by first | rfl | (simp; done) | (simp [*]; done)), H', ⟨by have := HJ5.out; have := HJ16.out; have := HK3.out; have := HK4.out; have := HJ28.out; have := HK6.out; first | omega | exact Nat.le_refl _⟩, ⟨by (with_reducible repeat (first | apply Kd.R_alloc | apply Kd.R_drewN | apply Kd.R_drew)); exact HO_12.out⟩, ⟨by (with_reducible repeat (first | refine blk_drewN ?_ _ | refine blk_drew ?_ | refine blk_alloc ?_ _)); exact BK160.out⟩, ⟨by repeat (first | (with_reducible first | exact HB.out | apply below_alloc | apply pw_below_drewN | apply below_drew1 | refine below_set ?_ GE160.out) | exact HB.out)⟩⟩
                                                  · rw [if_neg c41] at H
                                                    exact absurd H (by simp)
                                                · rw [if_neg c40] at H
                                                  exact absurd H (by simp)
                                              · rw [if_neg c39] at H
                                                have c39b0 : (((rd_T61 l0_0 x16_6).f1).toList == ((rd_T59 l1 x15_4).f0).toList) = false := beq_eq_false_iff_ne.mpr c39
                                                have c39b1 : (((rd_T61 l0_0 x16_6).f1).toList != ((rd_T59 l1 x15_4).f0).toList) = true := bne_iff_ne.mpr c39
                                                have H' := Aside0.mk H
                                                clear H
                                                have hcz43_0 : wr.cell? ⟨gb160, 0, none⟩ = some (.slice A0_0 l0_0.length c0_0) := (blk_cell BK160.out 0).trans rfl
                                                have hfz43_0 := blk_frozen BK160.out 0
                                                have p170 : 0 ≤ (x16_6 : Int) := of_decide_eq_true (by first | (with_reducible assumption) | assumption)
                                                have q170 : x16_6 < (l0_0.length : Int) := of_decide_eq_true (by first | (with_reducible assumption) | assumption)
                                                obtain ⟨ad170, e170, hx170_0, hx170_1, hx170_2, hx170_3, hx170_4, hx170_5, hx170_6⟩ := at_T61 HR0_0.out x16_6 p170 q170
                                                cases e170
                                                replace hx170_0 := (HB.out.cell (World.block_lt_of_cell? w _ hx170_0)).trans hx170_0
                                                replace hx170_1 := (HB.out.cell (World.block_lt_of_cell? w _ hx170_1)).trans hx170_1
                                                replace hx170_2 := (HB.out.cell (World.block_lt_of_cell? w _ hx170_2)).trans hx170_2
                                                replace hx170_3 := (HB.out.cell (World.block_lt_of_cell? w _ hx170_3)).trans hx170_3
                                                replace hx170_4 := (HB.out.cell (World.block_lt_of_cell? w _ hx170_4)).trans hx170_4
                                                replace hx170_5 := (HB.out.cell (World.block_lt_of_cell? w _ hx170_5)).trans hx170_5
                                                replace hx170_6 := (HB.out.cell (World.block_lt_of_cell? w _ hx170_6)).trans hx170_6
                                                replace p170 := eq_true p170
                                                replace q170 := eq_true q170
                                                have p171 : 0 ≤ (x15_4 : Int) := of_decide_eq_true (by first | (with_reducible assumption) | assumption)
                                                have q171 : x15_4 < (l1.length : Int) := of_decide_eq_true (by first | (with_reducible assumption) | assumption)
                                                obtain ⟨ad171, A171_9, c171_9, A171_10, c171_10, A171_14, c171_14, A171_18, c171_18, A171_22, c171_22, e171, hx171_0, hx171_1, hx171_2, hx171_3, hx171_4, hx171_5, hx171_6, hx171_7, hx171_8, hx171_9, hx171_10, hx171_11, hx171_12, hx171_13, hx171_14, hx171_15, hx171_16, hx171_17, hx171_18, hx171_19, hx171_20, hx171_21, hx171_22, hl171_9, hi171_9, hl171_10, hi171_10, hl171_14, hi171_14, hl171_18, hi171_18, hl171_22, hi171_22⟩ := at_T59 HR1.out x15_4 p171 q171
                                                cases e171
                                                replace hx171_0 := (HB.out.cell (World.block_lt_of_cell? w _ hx171_0)).trans hx171_0
                                                replace hx171_1 := (HB.out.cell (World.block_lt_of_cell? w _ hx171_1)).trans hx171_1
                                                replace hx171_2 := (HB.out.cell (World.block_lt_of_cell? w _ hx171_2)).trans hx171_2
                                                replace hx171_3 := (HB.out.cell (World.block_lt_of_cell? w _ hx171_3)).trans hx171_3
                                                replace hx171_4 := (HB.out.cell (World.block_lt_of_cell? w _ hx171_4)).trans hx171_4
                                                replace hx171_5 := (HB.out.cell (World.block_lt_of_cell? w _ hx171_5)).trans hx171_5
                                                replace hx171_6 := (HB.out.cell (World.block_lt_of_cell? w _ hx171_6)).trans hx171_6
                                                replace hx171_7 := (HB.out.cell (World.block_lt_of_cell? w _ hx171_7)).trans hx171_7
                                                replace hx171_8 := (HB.out.cell (World.block_lt_of_cell? w _ hx171_8)).trans hx171_8
                                                replace hx171_9 := (HB.out.cell (World.block_lt_of_cell? w _ hx171_9)).trans hx171_9
                                                replace hx171_10 := (HB.out.cell (World.block_lt_of_cell? w _ hx171_10)).trans hx171_10
                                                replace hx171_11 := (HB.out.cell (World.block_lt_of_cell? w _ hx171_11)).trans hx171_11
                                                replace hx171_12 := (HB.out.cell (World.block_lt_of_cell? w _ hx171_12)).trans hx171_12
                                                replace hx171_13 := (HB.out.cell (World.block_lt_of_cell? w _ hx171_13)).trans hx171_13
                                                replace hx171_14 := (HB.out.cell (World.block_lt_of_cell? w _ hx171_14)).trans hx171_14
                                                replace hx171_15 := (HB.out.cell (World.block_lt_of_cell? w _ hx171_15)).trans hx171_15
                                                replace hx171_16 := (HB.out.cell (World.block_lt_of_cell? w _ hx171_16)).trans hx171_16
                                                replace hx171_17 := (HB.out.cell (World.block_lt_of_cell? w _ hx171_17)).trans hx171_17
                                                replace hx171_18 := (HB.out.cell (World.block_lt_of_cell? w _ hx171_18)).trans hx171_18
                                                replace hx171_19 := (HB.out.cell (World.block_lt_of_cell? w _ hx171_19)).trans hx171_19
                                                replace hx171_20 := (HB.out.cell (World.block_lt_of_cell? w _ hx171_20)).trans hx171_20
                                                replace hx171_21 := (HB.out.cell (World.block_lt_of_cell? w _ hx171_21)).trans hx171_21
                                                replace hx171_22 := (HB.out.cell (World.block_lt_of_cell? w _ hx171_22)).trans hx171_22
                                                have HR171_9 := Aside0.mk hi171_9
                                                have HC171_9 := Aside0.mk hl171_9
                                                clear hi171_9 hl171_9
                                                have HR171_10 := Aside0.mk hi171_10
                                                have HC171_10 := Aside0.mk hl171_10
                                                clear hi171_10 hl171_10
                                                have HR171_14 := Aside0.mk hi171_14
                                                have HC171_14 := Aside0.mk hl171_14
                                                clear hi171_14 hl171_14
                                                have HR171_18 := Aside0.mk hi171_18
                                                have HC171_18 := Aside0.mk hl171_18
                                                clear hi171_18 hl171_18
                                                have HR171_22 := Aside0.mk hi171_22
                                                have HC171_22 := Aside0.mk hl171_22
                                                clear hi171_22 hl171_22
                                                replace p171 := eq_true p171
                                                replace q171 := eq_true q171
                                                go_wp2
                                                repeat (go_quiet (fail); try go_wp2)
                                                go_meet
                                                case rel => exact ⟨_, (false), (by first | rfl | (simp; done) | (simp [*]; done)), H', ⟨by have := HJ5.out; have := HJ16.out; have := HK3.out; have := HK4.out; have := HJ28.out; have := HK6.out; first | omega | exact Nat.le_refl _⟩, ⟨by (with_reducible repeat (first | apply Kd.R_alloc | apply Kd.R_drewN | apply Kd.R_drew)); exact HO_12.out⟩, ⟨by (with_reducible repeat (first | refine blk_drewN ?_ _ | refine blk_drew ?_ | refine blk_alloc ?_ _)); exact BK160.out⟩, ⟨by repeat (first | (with_reducible first | exact HB.out | apply below_alloc | apply pw_below_drewN | apply below_drew1 | refine below_set ?_ GE160.out) | exact HB.out)⟩⟩
                                            · rw [if_neg c38] at H
                                              exact absurd H (by simp)
                                          · rw [if_neg c37] at H
                                            exact absurd H (by simp)
                                        · rw [if_neg c36] at H
                                          exact absurd H (by simp)
                                      case rest =>
                                        clear HC34
                                        try clear c1
                                        try clear p1
                                        try clear q1
                                        try clear hx1
                                        try clear c2
                                        try clear p2
                                        try clear c3
                                        try clear c4
                                        try clear c5
                                        try clear p6
                                        try clear c10
                                        try clear c15
                                        try clear c16
                                        try clear p16
                                        try clear q16
                                        try clear hx16
                                        try clear c17
                                        try clear p17
                                        try clear q17
                                        try clear hx17
                                        try clear c20
                                        try clear c20b0
                                        try clear c20b1
                                        try clear c21
                                        try clear c22
                                        try clear c26
                                        try clear c26b0
                                        try clear c28
                                        try clear c28b0
                                        try clear c30
                                        try clear c30b0
                                        try clear c31
                                        try clear c31b0
                                        try clear c31b1
                                        try clear c32
                                        try clear c33
                                        try clear c33b0
                                        try clear c36
                                        try clear c36b0
                                        try clear c37
                                        try clear c37b0
                                        try clear c38
                                        try clear c38b0
                                        try clear c39
                                        try clear c39b0
                                        try clear c39b1
                                        try clear c40
                                        try clear c40b0
                                        try clear c41
                                        try clear c41b0
                                        try clear hcz11_0
                                        try clear hcz13_0
                                        try clear hcz18_0
                                        try clear hcz24_0
                                        try clear hcz35_0
                                        try clear hcz42_0
                                        try clear hcz43_0
                                        try clear hfz11_0
                                        try clear hfz13_0
                                        try clear hfz18_0
                                        try clear hfz24_0
                                        try clear hfz35_0
                                        try clear hfz42_0
                                        try clear hfz43_0
                                        try clear hx168_0
                                        try clear hx168_1
                                        try clear hx168_10
                                        try clear hx168_11
                                        try clear hx168_12
                                        try clear hx168_13
                                        try clear hx168_14
                                        try clear hx168_15
                                        try clear hx168_16
                                        try clear hx168_17
                                        try clear hx168_18
                                        try clear hx168_19
                                        try clear hx168_2
                                        try clear hx168_20
                                        try clear hx168_21
                                        try clear hx168_22
                                        try clear hx168_3
                                        try clear hx168_4
                                        try clear hx168_5
                                        try clear hx168_6
                                        try clear hx168_7
                                        try clear hx168_8
                                        try clear hx168_9
                                        try clear hx169_0
                                        try clear hx169_1
                                        try clear hx169_10
                                        try clear hx169_11
                                        try clear hx169_12
                                        try clear hx169_13
                                        try clear hx169_14
                                        try clear hx169_15
                                        try clear hx169_16
                                        try clear hx169_17
                                        try clear hx169_18
                                        try clear hx169_19
                                        try clear hx169_2
                                        try clear hx169_20
                                        try clear hx169_21
                                        try clear hx169_22
                                        try clear hx169_3
                                        try clear hx169_4
                                        try clear hx169_5
                                        try clear hx169_6
                                        try clear hx169_7
                                        try clear hx169_8
                                        try clear hx169_9
                                        try clear hx170_0
                                        try clear hx170_1
                                        try clear hx170_2
                                        try clear hx170_3
                                        try clear hx170_4
                                        try clear hx170_5
                                        try clear hx170_6
                                        try clear hx171_0
                                        try clear hx171_1
                                        try clear hx171_10
                                        try clear hx171_11
                                        try clear hx171_12
                                        try clear hx171_13
                                        try clear hx171_14
                                        try clear hx171_15
                                        try clear hx171_16
                                        try clear hx171_17
                                        try clear hx171_18
                                        try clear hx171_19
                                        try clear hx171_2
                                        try clear hx171_20
                                        try clear hx171_21
                                        try clear hx171_22
                                        try clear hx171_3
                                        try clear hx171_4
                                        try clear hx171_5
                                        try clear hx171_6
                                        try clear hx171_7
                                        try clear hx171_8
                                        try clear hx171_9
                                        try clear hx172_0
                                        try clear hx172_1
                                        try clear hx172_2
                                        try clear hx172_3
                                        try clear hx172_4
                                        try clear hx172_5
                                        try clear hx172_6
                                        try clear hx173_0
                                        try clear p1
                                        try clear p16
                                        try clear p168
                                        try clear p169
                                        try clear p170
                                        try clear p171
                                        try clear p172
                                        try clear p173
                                        try clear p2
                                        try clear p6
                                        try clear q1
                                        try clear q16
                                        try clear q168
                                        try clear q169
                                        try clear q170
                                        try clear q171
                                        try clear q172
                                        try clear q173
                                        obtain ⟨kq, x111_33, rfl, HA, HJ33, HO_12, BK160, HB⟩ := hcut
                                        cases kq with
                                        | zero => exact absurd HA.out (by simp [pandectlaw13_ScopeNearest.j6])
                                        | succ kj33 =>
                                          have H := HA.out
                                          clear HA
                                          simp only [pandectlaw13_ScopeNearest.j6] at H
                                          by_cases c44 : x111_33 = true
                                          · subst c44
                                            have H1 : (if t164 = 0 then (if 0 ≤ x15_4 then (if x15_4 < (l1.length : Int) then (if ((rd_T59 l1 x15_4).f0).toList = t163.toList then (pandectlaw13_ScopeNearest.l2 kj33 l1 a3 t161 t163 t164 t165 x13_3 (wrap64 (x14_6 + 1)) x15_4 (wrap64 (x16_6 + 1)) l0_0) else (some false)) else (none)) else (none)) else (pandectlaw13_ScopeNearest.l2 kj33 l1 a3 t161 t163 t164 t165 x13_3 (wrap64 (x14_6 + 1)) x15_4 (wrap64 (x16_6 + 1)) l0_0)) = some r := by rw [if_pos rfl] at H; exact H
                                            clear H
                                            have H := H1
                                            clear H1
                                            by_cases c45 : t164 = 0
                                            · rw [if_pos c45] at H
                                              have c45b0 : (t164 == 0) = true := beq_iff_eq.mpr c45
                                              have c45b1 : (t164 != 0) = false := bne_eq_false_iff_eq.mpr c45
                                              clear c45
                                              by_cases c46 : 0 ≤ x15_4
                                              · rw [if_pos c46] at H
                                                have c46b0 : decide (0 ≤ x15_4) = true := decide_eq_true c46
                                                clear c46
                                                by_cases c47 : x15_4 < (l1.length : Int)
                                                · rw [if_pos c47] at H
                                                  have c47b0 : decide (x15_4 < (l1.length : Int)) = true := decide_eq_true c47
                                                  clear c47
                                                  by_cases c48 : ((rd_T59 l1 x15_4).f0).toList = t163.toList
                                                  · rw [if_pos c48] at H
                                                    have c48b0 : (((rd_T59 l1 x15_4).f0).toList == t163.toList) = true := beq_iff_eq.mpr c48
                                                    have c48b1 : (((rd_T59 l1 x15_4).f0).toList != t163.toList) = false := bne_eq_false_iff_eq.mpr c48
                                                    clear c48
                                                    have H' := Aside0.mk H
                                                    clear H
                                                    have p174 : 0 ≤ (x15_4 : Int) := of_decide_eq_true (by first | (with_reducible assumption) | assumption)
                                                    have q174 : x15_4 < (l1.length : Int) := of_decide_eq_true (by first | (with_reducible assumption) | assumption)
                                                    obtain ⟨ad174, A174_9, c174_9, A174_10, c174_10, A174_14, c174_14, A174_18, c174_18, A174_22, c174_22, e174, hx174_0, hx174_1, hx174_2, hx174_3, hx174_4, hx174_5, hx174_6, hx174_7, hx174_8, hx174_9, hx174_10, hx174_11, hx174_12, hx174_13, hx174_14, hx174_15, hx174_16, hx174_17, hx174_18, hx174_19, hx174_20, hx174_21, hx174_22, hl174_9, hi174_9, hl174_10, hi174_10, hl174_14, hi174_14, hl174_18, hi174_18, hl174_22, hi174_22⟩ := at_T59 HR1.out x15_4 p174 q174
                                                    cases e174
                                                    replace hx174_0 := (HB.out.cell (World.block_lt_of_cell? w _ hx174_0)).trans hx174_0
                                                    replace hx174_1 := (HB.out.cell (World.block_lt_of_cell? w _ hx174_1)).trans hx174_1
                                                    replace hx174_2 := (HB.out.cell (World.block_lt_of_cell? w _ hx174_2)).trans hx174_2
                                                    replace hx174_3 := (HB.out.cell (World.block_lt_of_cell? w _ hx174_3)).trans hx174_3
                                                    replace hx174_4 := (HB.out.cell (World.block_lt_of_cell? w _ hx174_4)).trans hx174_4
                                                    replace hx174_5 := (HB.out.cell (World.block_lt_of_cell? w _ hx174_5)).trans hx174_5
                                                    replace hx174_6 := (HB.out.cell (World.block_lt_of_cell? w _ hx174_6)).trans hx174_6
                                                    replace hx174_7 := (HB.out.cell (World.block_lt_of_cell? w _ hx174_7)).trans hx174_7
                                                    replace hx174_8 := (HB.out.cell (World.block_lt_of_cell? w _ hx174_8)).trans hx174_8
                                                    replace hx174_9 := (HB.out.cell (World.block_lt_of_cell? w _ hx174_9)).trans hx174_9
                                                    replace hx174_10 := (HB.out.cell (World.block_lt_of_cell? w _ hx174_10)).trans hx174_10
                                                    replace hx174_11 := (HB.out.cell (World.block_lt_of_cell? w _ hx174_11)).trans hx174_11
                                                    replace hx174_12 := (HB.out.cell (World.block_lt_of_cell? w _ hx174_12)).trans hx174_12
                                                    replace hx174_13 := (HB.out.cell (World.block_lt_of_cell? w _ hx174_13)).trans hx174_13
                                                    replace hx174_14 := (HB.out.cell (World.block_lt_of_cell? w _ hx174_14)).trans hx174_14
                                                    replace hx174_15 := (HB.out.cell (World.block_lt_of_cell? w _ hx174_15)).trans hx174_15
                                                    replace hx174_16 := (HB.out.cell (World.block_lt_of_cell? w _ hx174_16)).trans hx174_16
                                                    replace hx174_17 := (HB.out.cell (World.block_lt_of_cell? w _ hx174_17)).trans hx174_17
                                                    replace hx174_18 := (HB.out.cell (World.block_lt_of_cell? w _ hx174_18)).trans hx174_18
                                                    replace hx174_19 := (HB.out.cell (World.block_lt_of_cell? w _ hx174_19)).trans hx174_19
                                                    replace hx174_20 := (HB.out.cell (World.block_lt_of_cell? w _ hx174_20)).trans hx174_20
                                                    replace hx174_21 := (HB.out.cell (World.block_lt_of_cell? w _ hx174_21)).trans hx174_21
                                                    replace hx174_22 := (HB.out.cell (World.block_lt_of_cell? w _ hx174_22)).trans hx174_22
                                                    have HR174_9 := Aside0.mk hi174_9
                                                    have HC174_9 := Aside0.mk hl174_9
                                                    clear hi174_9 hl174_9
                                                    have HR174_10 := Aside0.mk hi174_10
                                                    have HC174_10 := Aside0.mk hl174_10
                                                    clear hi174_10 hl174_10
                                                    have HR174_14 := Aside0.mk hi174_14
                                                    have HC174_14 := Aside0.mk hl174_14
                                                    clear hi174_14 hl174_14
                                                    have HR174_18 := Aside0.mk hi174_18
                                                    have HC174_18 := Aside0.mk hl174_18
                                                    clear hi174_18 hl174_18
                                                    have HR174_22 := Aside0.mk hi174_22
                                                    have HC174_22 := Aside0.mk hl174_22
                                                    clear hi174_22 hl174_22
                                                    replace p174 := eq_true p174
                                                    replace q174 := eq_true q174
                                                    go_wp2
                                                    repeat (go_quiet (fail); try go_wp2)
                                                    go_roundg kj33
                                                    case measure => have := HJ5.out; have := HJ16.out; have := HK3.out; have := HK4.out; have := HJ28.out; have := HK6.out; have := HJ33.out; omega
                                                    case rel => exact ⟨(wrap64 (x14_6 + 1)), (wrap64 (x16_6 + 1)), (by first | rfl | (simp; done) | (simp [*]; done)), (by first | rfl | (simp; done) | (simp [*]; done)), H', ⟨by have := HJ5.out; have := HJ16.out; have := HK3.out; have := HK4.out; have := HJ28.out; have := HK6.out; have := HJ33.out; omega⟩, ⟨by (with_reducible repeat (first | apply Kd.R_alloc | apply Kd.R_drewN | apply Kd.R_drew)); exact HO_12.out⟩, ⟨by (with_reducible repeat (first | refine blk_drewN ?_ _ | refine blk_drew ?_ | refine blk_alloc ?_ _)); exact BK160.out⟩, ⟨by repeat (first | (with_reducible first | exact HB.out | apply below_alloc | apply pw_below_drewN | apply below_drew1 | refine below_set ?_ GE160.out) | exact HB.out)⟩⟩
                                                  · rw [if_neg c48] at H
                                                    have c48b0 : (((rd_T59 l1 x15_4).f0).toList == t163.toList) = false := beq_eq_false_iff_ne.mpr c48
                                                    have c48b1 : (((rd_T59 l1 x15_4).f0).toList != t163.toList) = true := bne_iff_ne.mpr c48
                                                    obtain rfl := Option.some.inj H
                                                    have p174 : 0 ≤ (x15_4 : Int) := of_decide_eq_true (by first | (with_reducible assumption) | assumption)
                                                    have q174 : x15_4 < (l1.length : Int) := of_decide_eq_true (by first | (with_reducible assumption) | assumption)
                                                    obtain ⟨ad174, A174_9, c174_9, A174_10, c174_10, A174_14, c174_14, A174_18, c174_18, A174_22, c174_22, e174, hx174_0, hx174_1, hx174_2, hx174_3, hx174_4, hx174_5, hx174_6, hx174_7, hx174_8, hx174_9, hx174_10, hx174_11, hx174_12, hx174_13, hx174_14, hx174_15, hx174_16, hx174_17, hx174_18, hx174_19, hx174_20, hx174_21, hx174_22, hl174_9, hi174_9, hl174_10, hi174_10, hl174_14, hi174_14, hl174_18, hi174_18, hl174_22, hi174_22⟩ := at_T59 HR1.out x15_4 p174 q174
                                                    cases e174
                                                    replace hx174_0 := (HB.out.cell (World.block_lt_of_cell? w _ hx174_0)).trans hx174_0
                                                    replace hx174_1 := (HB.out.cell (World.block_lt_of_cell? w _ hx174_1)).trans hx174_1
                                                    replace hx174_2 := (HB.out.cell (World.block_lt_of_cell? w _ hx174_2)).trans hx174_2
                                                    replace hx174_3 := (HB.out.cell (World.block_lt_of_cell? w _ hx174_3)).trans hx174_3
                                                    replace hx174_4 := (HB.out.cell (World.block_lt_of_cell? w _ hx174_4)).trans hx174_4
                                                    replace hx174_5 := (HB.out.cell (World.block_lt_of_cell? w _ hx174_5)).trans hx174_5
                                                    replace hx174_6 := (HB.out.cell (World.block_lt_of_cell? w _ hx174_6)).trans hx174_6
                                                    replace hx174_7 := (HB.out.cell (World.block_lt_of_cell? w _ hx174_7)).trans hx174_7
                                                    replace hx174_8 := (HB.out.cell (World.block_lt_of_cell? w _ hx174_8)).trans hx174_8
                                                    replace hx174_9 := (HB.out.cell (World.block_lt_of_cell? w _ hx174_9)).trans hx174_9
                                                    replace hx174_10 := (HB.out.cell (World.block_lt_of_cell? w _ hx174_10)).trans hx174_10
                                                    replace hx174_11 := (HB.out.cell (World.block_lt_of_cell? w _ hx174_11)).trans hx174_11
                                                    replace hx174_12 := (HB.out.cell (World.block_lt_of_cell? w _ hx174_12)).trans hx174_12
                                                    replace hx174_13 := (HB.out.cell (World.block_lt_of_cell? w _ hx174_13)).trans hx174_13
                                                    replace hx174_14 := (HB.out.cell (World.block_lt_of_cell? w _ hx174_14)).trans hx174_14
                                                    replace hx174_15 := (HB.out.cell (World.block_lt_of_cell? w _ hx174_15)).trans hx174_15
                                                    replace hx174_16 := (HB.out.cell (World.block_lt_of_cell? w _ hx174_16)).trans hx174_16
                                                    replace hx174_17 := (HB.out.cell (World.block_lt_of_cell? w _ hx174_17)).trans hx174_17
                                                    replace hx174_18 := (HB.out.cell (World.block_lt_of_cell? w _ hx174_18)).trans hx174_18
                                                    replace hx174_19 := (HB.out.cell (World.block_lt_of_cell? w _ hx174_19)).trans hx174_19
                                                    replace hx174_20 := (HB.out.cell (World.block_lt_of_cell? w _ hx174_20)).trans hx174_20
                                                    replace hx174_21 := (HB.out.cell (World.block_lt_of_cell? w _ hx174_21)).trans hx174_21
                                                    replace hx174_22 := (HB.out.cell (World.block_lt_of_cell? w _ hx174_22)).trans hx174_22
                                                    have HR174_9 := Aside0.mk hi174_9
                                                    have HC174_9 := Aside0.mk hl174_9
                                                    clear hi174_9 hl174_9
                                                    have HR174_10 := Aside0.mk hi174_10
                                                    have HC174_10 := Aside0.mk hl174_10
                                                    clear hi174_10 hl174_10
                                                    have HR174_14 := Aside0.mk hi174_14
                                                    have HC174_14 := Aside0.mk hl174_14
                                                    clear hi174_14 hl174_14
                                                    have HR174_18 := Aside0.mk hi174_18
                                                    have HC174_18 := Aside0.mk hl174_18
                                                    clear hi174_18 hl174_18
                                                    have HR174_22 := Aside0.mk hi174_22
                                                    have HC174_22 := Aside0.mk hl174_22
                                                    clear hi174_22 hl174_22
                                                    replace p174 := eq_true p174
                                                    replace q174 := eq_true q174
                                                    go_wp2
                                                    repeat (go_quiet (fail); try go_wp2)
                                                    go_ret
                                                    exact ⟨by first | rfl | (simp [errW_none, errW_some] <;> rfl) | (simp [*, errW_none, errW_some] <;> rfl), by repeat (first | (with_reducible first | exact HB.out | apply below_alloc | apply pw_below_drewN | apply below_drew1 | refine below_set ?_ GE160.out) | exact HB.out)⟩
                                                · rw [if_neg c47] at H
                                                  exact absurd H (by simp)
                                              · rw [if_neg c46] at H
                                                exact absurd H (by simp)
                                            · rw [if_neg c45] at H
                                              have c45b0 : (t164 == 0) = false := beq_eq_false_iff_ne.mpr c45
                                              have c45b1 : (t164 != 0) = true := bne_iff_ne.mpr c45
                                              have H' := Aside0.mk H
                                              clear H
                                              go_wp2
                                              repeat (go_quiet (fail); try go_wp2)
                                              go_roundg kj33
                                              case measure => have := HJ5.out; have := HJ16.out; have := HK3.out; have := HK4.out; have := HJ28.out; have := HK6.out; have := HJ33.out; omega
                                              case rel => exact ⟨(wrap64 (x14_6 + 1)), (wrap64 (x16_6 + 1)), (by first | rfl | (simp; done) | (simp [*]; done)), (by first | rfl | (simp; done) | (simp [*]; done)), H', ⟨by have := HJ5.out; have := HJ16.out; have := HK3.out; have := HK4.out; have := HJ28.out; have := HK6.out; have := HJ33.out; omega⟩, ⟨by (with_reducible repeat (first | apply Kd.R_alloc | apply Kd.R_drewN | apply Kd.R_drew)); exact HO_12.out⟩, ⟨by (with_reducible repeat (first | refine blk_drewN ?_ _ | refine blk_drew ?_ | refine blk_alloc ?_ _)); exact BK160.out⟩, ⟨by repeat (first | (with_reducible first | exact HB.out | apply below_alloc | apply pw_below_drewN | apply below_drew1 | refine below_set ?_ GE160.out) | exact HB.out)⟩⟩
                                          · replace c44 := Bool.eq_false_iff.mpr c44
                                            subst c44
                                            have H1 : (pandectlaw13_ScopeNearest.l2 kj33 l1 a3 t161 t163 t164 t165 x13_3 x14_6 x15_4 (wrap64 (x16_6 + 1)) l0_0) = some r := by rw [if_neg (show ¬ (false = true) by decide)] at H; exact H
                                            clear H
                                            have H := H1
                                            clear H1
                                            have H' := Aside0.mk H
                                            clear H
                                            go_wp2
                                            repeat (go_quiet (fail); try go_wp2)
                                            go_roundg kj33
                                            case measure => have := HJ5.out; have := HJ16.out; have := HK3.out; have := HK4.out; have := HJ28.out; have := HK6.out; have := HJ33.out; omega
                                            case rel => exact ⟨(x14_6), (wrap64 (x16_6 + 1)), (by first | rfl | (simp; done) | (simp [*]; done)), (by first | rfl | (simp; done) | (simp [*]; done)), H', ⟨by have := HJ5.out; have := HJ16.out; have := HK3.out; have := HK4.out; have := HJ28.out; have := HK6.out; have := HJ33.out; omega⟩, ⟨by (with_reducible repeat (first | apply Kd.R_alloc | apply Kd.R_drewN | apply Kd.R_drew)); exact HO_12.out⟩, ⟨by (with_reducible repeat (first | refine blk_drewN ?_ _ | refine blk_drew ?_ | refine blk_alloc ?_ _)); exact BK160.out⟩, ⟨by repeat (first | (with_reducible first | exact HB.out | apply below_alloc | apply pw_below_drewN | apply below_drew1 | refine below_set ?_ GE160.out) | exact HB.out)⟩⟩
                                    · rw [if_neg c33] at H
                                      have c33b0 : decide (x16_6 < (l0_0.length : Int)) = false := decide_eq_false c33
                                      clear c33
                                      have H' := Aside0.mk H
                                      clear H
                                      have hcz49_0 : wr.cell? ⟨gb160, 0, none⟩ = some (.slice A0_0 l0_0.length c0_0) := (blk_cell BK160.out 0).trans rfl
                                      have hfz49_0 := blk_frozen BK160.out 0
                                      go_wp2
                                      repeat (go_quiet (fail); try go_wp2)
                                      go_roundg k6
                                      case measure => have := HJ5.out; have := HJ16.out; have := HK3.out; have := HK4.out; have := HJ28.out; have := HK6.out; omega
                                      case rel => exact ⟨(x14_6), (wrap64 (x15_4 + 1)), (by first | rfl | (simp; done) | (simp [*]; done)), (by first | rfl | (simp; done) | (simp [*]; done)), H', ⟨by have := HJ5.out; have := HJ16.out; have := HK3.out; have := HK4.out; have := HJ28.out; have := HK6.out; omega⟩, ⟨by (with_reducible repeat (first | apply Kd.R_alloc | apply Kd.R_drewN | apply Kd.R_drew)); exact HO_12.out⟩, ⟨by (with_reducible repeat (first | refine blk_drewN ?_ _ | refine blk_drew ?_ | refine blk_alloc ?_ _)); exact BK160.out⟩, ⟨by repeat (first | (with_reducible first | exact HB.out | apply below_alloc | apply pw_below_drewN | apply below_drew1 | refine below_set ?_ GE160.out) | exact HB.out)⟩⟩
                        · rw [if_neg c28] at H
                          have c28b0 : decide (x15_4 < (l1.length : Int)) = false := decide_eq_false c28
                          clear c28
                          by_cases c50 : x14_4 > 0
                          · rw [if_pos c50] at H
                            have c50b0 : decide (0 < x14_4) = true := decide_eq_true c50
                            clear c50
                            by_cases c51 : t161 = true
                            · subst c51
                              have H1 : (if x14_4 = 1 then (if t164 = 0 then (some true) else (if x14_4 > 1 then (if t164 = 9 then (some (t163.toList == ([] : List UInt8))) else (some false)) else (some false))) else (if x14_4 > 1 then (if t164 = 9 then (some (t163.toList == ([] : List UInt8))) else (some false)) else (some false))) = some r := by rw [if_pos rfl] at H; exact H
                              clear H
                              have H := H1
                              clear H1
                              by_cases c52 : x14_4 = 1
                              · rw [if_pos c52] at H
                                have c52b0 : (x14_4 == 1) = true := beq_iff_eq.mpr c52
                                have c52b1 : (x14_4 != 1) = false := bne_eq_false_iff_eq.mpr c52
                                clear c52
                                by_cases c53 : t164 = 0
                                · rw [if_pos c53] at H
                                  have c53b0 : (t164 == 0) = true := beq_iff_eq.mpr c53
                                  have c53b1 : (t164 != 0) = false := bne_eq_false_iff_eq.mpr c53
                                  clear c53
                                  obtain rfl := Option.some.inj H
                                  go_wp2
                                  repeat (go_quiet (fail); try go_wp2)
                                  go_ret
                                  exact ⟨by first | rfl | (simp [errW_none, errW_some] <;> rfl) | (simp [*, errW_none, errW_some] <;> rfl), by repeat (first | (with_reducible first | exact HB.out | apply below_alloc | apply pw_below_drewN | apply below_drew1 | refine below_set ?_ GE160.out) | exact HB.out)⟩
                                · rw [if_neg c53] at H
                                  have c53b0 : (t164 == 0) = false := beq_eq_false_iff_ne.mpr c53
                                  have c53b1 : (t164 != 0) = true := bne_iff_ne.mpr c53
                                  by_cases c54 : x14_4 > 1
                                  · rw [if_pos c54] at H
                                    have c54b0 : decide (1 < x14_4) = true := decide_eq_true c54
                                    clear c54
                                    by_cases c55 : t164 = 9
                                    · rw [if_pos c55] at H
                                      have c55b0 : (t164 == 9) = true := beq_iff_eq.mpr c55
                                      have c55b1 : (t164 != 9) = false := bne_eq_false_iff_eq.mpr c55
                                      clear c55
                                      obtain rfl := Option.some.inj H
                                      go_wp2
                                      repeat (go_quiet (fail); try go_wp2)
                                      go_ret
                                      exact ⟨by first | rfl | (simp [errW_none, errW_some] <;> rfl) | (simp [*, errW_none, errW_some] <;> rfl), by repeat (first | (with_reducible first | exact HB.out | apply below_alloc | apply pw_below_drewN | apply below_drew1 | refine below_set ?_ GE160.out) | exact HB.out)⟩
                                    · rw [if_neg c55] at H
                                      have c55b0 : (t164 == 9) = false := beq_eq_false_iff_ne.mpr c55
                                      have c55b1 : (t164 != 9) = true := bne_iff_ne.mpr c55
                                      obtain rfl := Option.some.inj H
                                      go_wp2
                                      repeat (go_quiet (fail); try go_wp2)
                                      go_ret
                                      exact ⟨by first | rfl | (simp [errW_none, errW_some] <;> rfl) | (simp [*, errW_none, errW_some] <;> rfl), by repeat (first | (with_reducible first | exact HB.out | apply below_alloc | apply pw_below_drewN | apply below_drew1 | refine below_set ?_ GE160.out) | exact HB.out)⟩
                                  · rw [if_neg c54] at H
                                    have c54b0 : decide (1 < x14_4) = false := decide_eq_false c54
                                    clear c54
                                    obtain rfl := Option.some.inj H
                                    go_wp2
                                    repeat (go_quiet (fail); try go_wp2)
                                    go_ret
                                    exact ⟨by first | rfl | (simp [errW_none, errW_some] <;> rfl) | (simp [*, errW_none, errW_some] <;> rfl), by repeat (first | (with_reducible first | exact HB.out | apply below_alloc | apply pw_below_drewN | apply below_drew1 | refine below_set ?_ GE160.out) | exact HB.out)⟩
                              · rw [if_neg c52] at H
                                have c52b0 : (x14_4 == 1) = false := beq_eq_false_iff_ne.mpr c52
                                have c52b1 : (x14_4 != 1) = true := bne_iff_ne.mpr c52
                                by_cases c56 : x14_4 > 1
                                · rw [if_pos c56] at H
                                  have c56b0 : decide (1 < x14_4) = true := decide_eq_true c56
                                  clear c56
                                  by_cases c57 : t164 = 9
                                  · rw [if_pos c57] at H
                                    have c57b0 : (t164 == 9) = true := beq_iff_eq.mpr c57
                                    have c57b1 : (t164 != 9) = false := bne_eq_false_iff_eq.mpr c57
                                    clear c57
                                    obtain rfl := Option.some.inj H
                                    go_wp2
                                    repeat (go_quiet (fail); try go_wp2)
                                    go_ret
                                    exact ⟨by first | rfl | (simp [errW_none, errW_some] <;> rfl) | (simp [*, errW_none, errW_some] <;> rfl), by repeat (first | (with_reducible first | exact HB.out | apply below_alloc | apply pw_below_drewN | apply below_drew1 | refine below_set ?_ GE160.out) | exact HB.out)⟩
                                  · rw [if_neg c57] at H
                                    have c57b0 : (t164 == 9) = false := beq_eq_false_iff_ne.mpr c57
                                    have c57b1 : (t164 != 9) = true := bne_iff_ne.mpr c57
                                    obtain rfl := Option.some.inj H
                                    go_wp2
                                    repeat (go_quiet (fail); try go_wp2)
                                    go_ret
                                    exact ⟨by first | rfl | (simp [errW_none, errW_some] <;> rfl) | (simp [*, errW_none, errW_some] <;> rfl), by repeat (first | (with_reducible first | exact HB.out | apply below_alloc | apply pw_below_drewN | apply below_drew1 | refine below_set ?_ GE160.out) | exact HB.out)⟩
                                · rw [if_neg c56] at H
                                  have c56b0 : decide (1 < x14_4) = false := decide_eq_false c56
                                  clear c56
                                  obtain rfl := Option.some.inj H
                                  go_wp2
                                  repeat (go_quiet (fail); try go_wp2)
                                  go_ret
                                  exact ⟨by first | rfl | (simp [errW_none, errW_some] <;> rfl) | (simp [*, errW_none, errW_some] <;> rfl), by repeat (first | (with_reducible first | exact HB.out | apply below_alloc | apply pw_below_drewN | apply below_drew1 | refine below_set ?_ GE160.out) | exact HB.out)⟩
                            · replace c51 := Bool.eq_false_iff.mpr c51
                              subst c51
                              have H1 : (some false) = some r := by rw [if_neg (show ¬ (false = true) by decide)] at H; exact H
                              clear H
                              have H := H1
                              clear H1
                              obtain rfl := Option.some.inj H
                              go_wp2
                              repeat (go_quiet (fail); try go_wp2)
                              go_ret
                              exact ⟨by first | rfl | (simp [errW_none, errW_some] <;> rfl) | (simp [*, errW_none, errW_some] <;> rfl), by repeat (first | (with_reducible first | exact HB.out | apply below_alloc | apply pw_below_drewN | apply below_drew1 | refine below_set ?_ GE160.out) | exact HB.out)⟩
                          · rw [if_neg c50] at H
                            have c50b0 : decide (0 < x14_4) = false := decide_eq_false c50
                            clear c50
                            have H' := Aside0.mk H
                            clear H
                            go_wp2
                            repeat (go_quiet (fail); try go_wp2)
                            go_roundg k4
                            case measure => have := HJ5.out; have := HJ16.out; have := HK3.out; have := HK4.out; omega
                            case rel => exact ⟨(wrap64 (x13_3 + 1)), (by first | rfl | (simp; done) | (simp [*]; done)), H', ⟨by have := HJ5.out; have := HJ16.out; have := HK3.out; have := HK4.out; omega⟩, ⟨by (with_reducible repeat (first | apply Kd.R_alloc | apply Kd.R_drewN | apply Kd.R_drew)); exact HO_12.out⟩, ⟨by (with_reducible repeat (first | refine blk_drewN ?_ _ | refine blk_drew ?_ | refine blk_alloc ?_ _)); exact BK160.out⟩, ⟨by repeat (first | (with_reducible first | exact HB.out | apply below_alloc | apply pw_below_drewN | apply below_drew1 | refine below_set ?_ GE160.out) | exact HB.out)⟩⟩
                  · rw [if_neg c26] at H
                    have c26b0 : decide (x13_3 < (t165.length : Int)) = false := decide_eq_false c26
                    clear c26
                    by_cases c58 : t161 = true
                    · subst c58
                      have H1 : (if t164 = 7 then (some (t163.toList == ([] : List UInt8))) else (some false)) = some r := by rw [if_pos rfl] at H; exact H
                      clear H
                      have H := H1
                      clear H1
                      by_cases c59 : t164 = 7
                      · rw [if_pos c59] at H
                        have c59b0 : (t164 == 7) = true := beq_iff_eq.mpr c59
                        have c59b1 : (t164 != 7) = false := bne_eq_false_iff_eq.mpr c59
                        clear c59
                        obtain rfl := Option.some.inj H
                        obtain ⟨Ao60, co60, eo60⟩ := Kd.R_slice HO_12.out
                        subst eo60
                        go_wp2
                        repeat (go_quiet (fail); try go_wp2)
                        go_ret
                        exact ⟨by first | rfl | (simp [errW_none, errW_some] <;> rfl) | (simp [*, errW_none, errW_some] <;> rfl), by repeat (first | (with_reducible first | exact HB.out | apply below_alloc | apply pw_below_drewN | apply below_drew1 | refine below_set ?_ GE160.out) | exact HB.out)⟩
                      · rw [if_neg c59] at H
                        have c59b0 : (t164 == 7) = false := beq_eq_false_iff_ne.mpr c59
                        have c59b1 : (t164 != 7) = true := bne_iff_ne.mpr c59
                        obtain rfl := Option.some.inj H
                        obtain ⟨Ao61, co61, eo61⟩ := Kd.R_slice HO_12.out
                        subst eo61
                        go_wp2
                        repeat (go_quiet (fail); try go_wp2)
                        go_ret
                        exact ⟨by first | rfl | (simp [errW_none, errW_some] <;> rfl) | (simp [*, errW_none, errW_some] <;> rfl), by repeat (first | (with_reducible first | exact HB.out | apply below_alloc | apply pw_below_drewN | apply below_drew1 | refine below_set ?_ GE160.out) | exact HB.out)⟩
                    · replace c58 := Bool.eq_false_iff.mpr c58
                      subst c58
                      have H1 : (some false) = some r := by rw [if_neg (show ¬ (false = true) by decide)] at H; exact H
                      clear H
                      have H := H1
                      clear H1
                      obtain rfl := Option.some.inj H
                      obtain ⟨Ao62, co62, eo62⟩ := Kd.R_slice HO_12.out
                      subst eo62
                      go_wp2
                      repeat (go_quiet (fail); try go_wp2)
                      go_ret
                      exact ⟨by first | rfl | (simp [errW_none, errW_some] <;> rfl) | (simp [*, errW_none, errW_some] <;> rfl), by repeat (first | (with_reducible first | exact HB.out | apply below_alloc | apply pw_below_drewN | apply below_drew1 | refine below_set ?_ GE160.out) | exact HB.out)⟩
end
end Go.Proofs.YtjmojapijbimbaaGreatDoor.Pa
