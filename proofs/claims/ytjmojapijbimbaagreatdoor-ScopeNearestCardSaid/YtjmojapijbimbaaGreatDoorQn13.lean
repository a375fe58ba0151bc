/- A part of the proof of the law: PaG. Conditions: none. -/
import Derived.Test.YtjmojapijbimbaaGreatDoorQn04
import Derived.Test.YtjmojapijbimbaaGreatDoorQn09
import Derived.Test.YtjmojapijbimbaaGreatDoorQn12
set_option linter.unusedVariables false
set_option linter.unusedSimpArgs false
namespace Go.Proofs.YtjmojapijbimbaaGreatDoor.Pa
open Go.RowKit Go.Proofs.YtjmojapijbimbaaGreatDoorW.PrintWords Go.Proofs.YtjmojapijbimbaaGreatDoorW.PrintLast Go.Proofs.YtjmojapijbimbaaGreatDoorW.PrintMore
def Glob (w : World) : Prop := ∃ o, w.heap[2]? = some o ∧ ∃ m : Int, ∀ w' : World, w'.heap[2]? = some o → w'.cell? ⟨2, 0, none⟩ = some (.int .i64 m)
theorem Glob.below {w w' : World} {B : Nat} (h : Glob w) (hb : Below B w w') (hB : B = w.heap.size) : Glob w' := by
  obtain ⟨o, h1, m, h2⟩ := h
  have hlt : 2 < w.heap.size := (Array.getElem?_eq_some_iff.1 h1).1
  exact ⟨o, (hb.block 2 (by omega)).trans h1, m, h2⟩
theorem Glob.alloc {w : World} (h : Glob w) (o : Obj) : Glob (w.alloc o) := h.below (below_alloc (Below.refl _ _) o) rfl
theorem Glob.drew {w : World} (h : Glob w) : Glob w.drew := h.below (below_drew (Below.refl _ _)) rfl
theorem Glob.drewN {w : World} (h : Glob w) (m : Nat) : Glob (w.drewN m) := h.below (pw_below_drewN (Below.refl _ _) m) rfl
theorem Glob.cell {w : World} (h : Glob w) : ∃ m, w.cell? ⟨2, 0, none⟩ = some (.int .i64 m) := by
  obtain ⟨o, h1, m, h2⟩ := h
  exact ⟨m, h2 w h1⟩
def pandectlaw13_head.f : Option Bool := some true
theorem pandectlaw13_head.calls (r : Bool) (w : World) (hg : Glob w) (h : pandectlaw13_head.f = some r) : Calls Tryz.prog 11 #[] w fun e w' => e = .returned (.bool r) ∧ Below w.heap.size w w' := by
  cases h
  obtain ⟨m, hm⟩ := hg.cell
  refine (Go.Eng.head_calls w m hm).mono ?_
  rintro e w' ⟨rfl, h1, h2, h3, h4, h5⟩
  exact ⟨rfl, h4, h3, h5, h1, h2⟩
def toIt (x : S61) : Go.Eng.It := ⟨x.f0, x.f1, x.f2, x.f3, x.f4, x.f5, x.f6⟩
noncomputable def toPv (x : S59) : Go.Eng.Pv := ⟨x.f0, x.f1, x.f2, x.f3, x.f4, List.replicate 18 Go.Eng.junk1, by simp, by kernel_rfl⟩
theorem row_of {α : Type} {d : Kd α} {w : World} {A : Option Addr} {n : Nat} {xs : List α} (h : Kd.C d w A n xs) {j : Nat} {x : α} (hx : xs[j]? = some x) :
    ∃ a c, A = some a ∧ c.length = d.sz ∧ d.K w x c ∧ Go.Eng.CellsN (Go.Eng.allN w) (a.add (j * d.sz)) c := by
  have hlt := (List.getElem?_eq_some_iff.1 hx).1
  obtain ⟨h1, _, h2⟩ := h
  obtain ⟨ad, hA, h3⟩ := h2 (by omega)
  obtain ⟨c, h4, h5, h6⟩ := h3 j x hx
  exact ⟨ad, c, hA, h4, h5, fun i u hu => Go.Eng.cellN_of (by rw [Go.Eng.add_add]; exact h6 i u hu)⟩
theorem isItems_of {w : World} {A : Option Addr} {c : Nat} {xs : List S61} (h : Kd.C k61 w A xs.length xs) : Go.Eng.IsItems (Go.Eng.allN w) (Go.Eng.lit (.slice A xs.length c)) (xs.map toIt) := by
  refine ⟨A, c, by rw [List.length_map], fun j x hx => ?_⟩
  rw [List.getElem?_map] at hx
  cases e : xs[j]? with
  | none => rw [e] at hx; cases hx
  | some y =>
    rw [e] at hx; cases hx
    obtain ⟨a, cs, h1, h2, h3, h4⟩ := row_of h e
    have := k61_open h3
    subst this
    exact ⟨a, h1, h4⟩
theorem junks {φ : Go.Eng.Rn} : ∀ (l : List Value), (∀ v ∈ l, v.oneCell' = true) → Go.Eng.RVs φ (List.replicate l.length Go.Eng.junk1) l
  | [], _ => .nil
  | v :: l, h => .cons _ _ _ _ (.any1 v (h v (by simp))) (junks l fun u hu => h u (by simp [hu]))
theorem isPvs_of {w : World} {A : Option Addr} {c : Nat} {xs : List S59} (h : Kd.C k59 w A xs.length xs) : Go.Eng.IsPvs (Go.Eng.allN w) (Go.Eng.lit (.slice A xs.length c)) (xs.map toPv) := by
  refine ⟨A, c, by rw [List.length_map], fun j p hp => ?_⟩
  rw [List.getElem?_map] at hp
  cases e : xs[j]? with
  | none => rw [e] at hp; cases hp
  | some y =>
    rw [e] at hp; cases hp
    obtain ⟨a, cs, h1, h2, h3, h4⟩ := row_of h e
    have h5 := k59.K_one h3
    obtain ⟨A9, c9, A10, c10, A14, c14, A18, c18, A22, c22, rfl, _⟩ := k59_open h3
    refine ⟨a, _, h1, h4, rfl, fun φ => ?_⟩
    refine .cons _ _ _ _ (.string _) (.cons _ _ _ _ (.int _ _) (.cons _ _ _ _ (.int _ _) (.cons _ _ _ _ (.string _) (.cons _ _ _ _ (.int _ _) ?_))))
    exact junks [.int .i64 y.f5.f0, .string y.f5.f1, .int .i64 y.f5.f2, .int .i64 y.f5.f3, .slice A9 y.f5.f4.length c9, .slice A10 y.f6.length c10, .int .i64 y.f7.f0, .string y.f7.f1, .int .i64 y.f7.f2, .slice A14 y.f7.f3.length c14, .int .i64 y.f8.f0, .string y.f8.f1, .int .i64 y.f8.f2, .slice A18 y.f8.f3.length c18, .int .i64 y.f9.f0, .string y.f9.f1, .int .i64 y.f9.f2, .slice A22 y.f9.f3.length c22] (fun v hv => h5 v (List.mem_cons_of_mem _ (List.mem_cons_of_mem _ (List.mem_cons_of_mem _ (List.mem_cons_of_mem _ (List.mem_cons_of_mem _ hv))))))
noncomputable def scope_Find.f (k : Nat) (l0_0 : List S61) (l1 : List S59) (a2 a3 : ByteArray) : Option (ByteArray × Int) :=
  if l0_0.length ≤ 1000 ∧ l1.length ≤ 1000 then Go.Eng.findS (l0_0.map toIt) (l1.map toPv) k a2 a3 else none
theorem scope_Find.mono : ∀ a0 a1 a2 a3 k, LeO (scope_Find.f k a0 a1 a2 a3) (scope_Find.f (k + 1) a0 a1 a2 a3) := fun a0 a1 a2 a3 k r h => by
  unfold scope_Find.f at h ⊢
  split at h
  · rename_i h1
    rw [if_pos h1]
    exact Go.Eng.findS_mono (Nat.le_succ k) h
  · cases h
theorem scope_Find.calls (k : Nat) (A0_0 : Option Addr) (c0_0 : Nat) (l0_0 : List (S61)) (A1 : Option Addr) (c1 : Nat) (l1 : List (S59)) (a2 : ByteArray) (a3 : ByteArray) (r1 : ByteArray) (r2 : Int) (w : World) (hr0_0 : Kd.C k61 w A0_0 l0_0.length l0_0) (hc0_0 : l0_0.length ≤ c0_0) (hr1 : Kd.C k59 w A1 l1.length l1) (hc1 : l1.length ≤ c1) (h : scope_Find.f k l0_0 l1 a2 a3 = some (r1, r2)) :
    Calls Tryz.prog 13 #[.agg #[.slice A0_0 l0_0.length c0_0], .slice A1 l1.length c1, .string a2, .string a3] w fun e w' => e = .returned (.tuple #[.string r1, .int .i64 r2]) ∧ Below w.heap.size w w' := by
  unfold scope_Find.f at h
  split at h
  · rename_i hb
    have hV := isItems_of (c := c0_0) hr0_0
    have hP := isPvs_of (c := c1) hr1
    have hA := Go.Eng.find13_calls (s := ⟨Go.Eng.hp0, 0⟩) hV hP (by show 0 + 12 + 3 * (l0_0.map toIt).length + 6 * (l1.map toPv).length < 32768; rw [List.length_map, List.length_map]; omega) h
    refine (Go.Eng.calls_of_acalls (args' := [.agg ⟨[.slice A0_0 l0_0.length c0_0]⟩, .slice A1 l1.length c1, .string a2, .string a3]) hA fun φ => ?_).mono ?_
    · exact .cons _ _ _ _ (.agg _ _ (.cons _ _ _ _ (.ofLit (.slice _ _ _)) .nil)) (.cons _ _ _ _ (.ofLit (.slice _ _ _)) (.cons _ _ _ _ (.string _) (.cons _ _ _ _ (.string _) .nil)))
    · rintro e w' ⟨φ, v, v', s', N', ⟨_, _, rfl⟩, rfl, hv, _, hb⟩
      cases hv with
      | tuple l l' e =>
        cases e with
        | cons _ x _ l1 e1 e2 =>
          cases e1
          cases e2 with
          | cons _ y _ l2 e3 e4 =>
            cases e3
            cases e4
            exact ⟨rfl, hb⟩
  · cases h
end Go.Proofs.YtjmojapijbimbaaGreatDoor.Pa
