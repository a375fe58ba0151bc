/- A part of the proof of the law: PaO, PaW, PaS. Conditions: none. -/
import Derived.ChangeArms
import Derived.Carry
import Derived.OpenShut
import Derived.Test.YtjmojapijbimbaaGreatDoorRows
import Derived.Deep.DeepHandedRow
import Derived.Deep.DeepWitnessRowRef
import Derived.LaidLaws
import Derived.KernelRfl
import Derived.Shelf.Vars
import Derived.Test.YtjmojapijbimbaaGreatDoorQn04
import Derived.Test.YtjmojapijbimbaaGreatDoorQn13
set_option linter.unusedVariables false
set_option linter.unusedSimpArgs false
section
namespace Go.Proofs.YtjmojapijbimbaaGreatDoor.Pa
open Go.RowKit Go.ChangeShapes Go.Proofs.YtjmojapijbimbaaGreatDoorW.PrintWords Go.Proofs.YtjmojapijbimbaaGreatDoorW.PrintLast Go.Proofs.YtjmojapijbimbaaGreatDoorW.PrintMore
section
variable {H : Type} {enc : TypeId × Value → H} {w : World} {base : Nat} {spare : Nat → Bool} {held : Bool}
theorem cells_at {a : Addr} : ∀ {n : Nat} {cs : List Value}, w.cells? base a n = some cs → cs.length = n ∧ ∀ (i : Nat) (u : Value), cs[i]? = some u → w.cell? (a.add i) = some u := by
  intro n cs h
  unfold World.cells? at h
  split at h
  · have hl := mapM_some_length h
    rw [List.length_range] at hl
    refine ⟨hl, fun i u hu => ?_⟩
    have hi : i < n := by have := (List.getElem?_eq_some_iff.1 hu).1; omega
    have := mapM_some_get h i i (by simp [hi])
    rw [this, hu]
  · cases h
theorem choose_list {α : Type} {Q : Nat → α → Prop} : ∀ (n : Nat), (∀ i, i < n → ∃ x, Q i x) → ∃ xs : List α, xs.length = n ∧ ∀ i x, xs[i]? = some x → Q i x
  | 0, _ => ⟨[], rfl, fun i x h => by simp at h⟩
  | n + 1, h => by
    obtain ⟨xs, h1, h2⟩ := choose_list n fun i hi => h i (by omega)
    obtain ⟨y, hy⟩ := h n (by omega)
    refine ⟨xs ++ [y], by simp [h1], fun i x hx => ?_⟩
    by_cases hi : i < xs.length
    · rw [List.getElem?_append_left hi] at hx; exact h2 i x hx
    · rw [List.getElem?_append_right (by omega)] at hx
      have : i - xs.length = 0 := by
        apply Classical.byContradiction; intro hne
        rw [List.getElem?_eq_none (by simp; omega)] at hx; cases hx
      rw [this] at hx
      cases hx
      have : i = n := by omega
      rw [this]; exact hy
theorem open_slice {α : Type} {d : Kd α} {e t : TypeId} {fuel : Nat} {cs : List Value} {x : DataW H × List MemPlace} (ht : Tryz.prog.underlying t = some (.slice e)) (hsz : Tryz.prog.cellsOf e = d.sz)
    (he : ∀ n, n < fuel → ∀ cs y, DataW.trod enc Tryz.prog w base spare held n e cs = some y → ∃ v, d.K w v cs) (h : DataW.trod enc Tryz.prog w base spare held fuel t cs = some x) :
    ∃ A c xs, cs = [.slice A xs.length c] ∧ xs.length ≤ c ∧ d.C w A xs.length xs := by
  rcases DataW.trod_slice ht h with ⟨rfl, _⟩ | ⟨a, len, cap, elems, rest, n, rfl, rfl, _, _, hlc, hcm, hlen, hel, _, _⟩
  · exact ⟨none, 0, [], rfl, Nat.le_refl _, rfl, by simp, fun h => absurd h (by simp)⟩
  · have hch : ∀ i, i < len → ∃ v : α, ∃ c, w.cells? base (a.add (i * Tryz.prog.cellsOf e)) (Tryz.prog.cellsOf e) = some c ∧ d.K w v c := fun i hi => by
      have h1 := hel i hi
      have h2 : elems[i]? = some elems[i] := List.getElem?_eq_getElem (by omega)
      rw [h2, Option.bind_eq_some_iff] at h1
      obtain ⟨c, h3, h4⟩ := h1
      obtain ⟨v, h5⟩ := he n (Nat.lt_succ_self n) c _ h4
      exact ⟨v, c, h3, h5⟩
    obtain ⟨xs, h1, h2⟩ := choose_list len hch
    refine ⟨some a, cap, xs, by rw [h1], by omega, rfl, by have : cap ≤ 9223372036854775807 := hcm; omega, fun _ => ⟨a, rfl, fun j p hp => ?_⟩⟩
    obtain ⟨c, h3, h4⟩ := h2 j p hp
    obtain ⟨h5, h6⟩ := cells_at h3
    refine ⟨c, h5.trans hsz, h4, fun i u hu => ?_⟩
    have := h6 i u hu
    rw [Addr.add_add, hsz] at this
    exact this
theorem u3 : Tryz.prog.underlying 3 = some (.int .i64) := by kernel_rfl
theorem u31 : Tryz.prog.underlying 31 = some (.slice 33) := by kernel_rfl
theorem u55 : Tryz.prog.underlying 55 = some (.slice 57) := by kernel_rfl
theorem u39 : Tryz.prog.underlying 39 = some (.slice 9) := by kernel_rfl
theorem u22 : Tryz.prog.underlying 22 = some (.slice 61) := by kernel_rfl
theorem u4 : Tryz.prog.underlying 4 = some .bool := by kernel_rfl
theorem c3 : Tryz.prog.cellsOf 3 = 1 := by kernel_rfl
theorem c4 : Tryz.prog.cellsOf 4 = 1 := by kernel_rfl
theorem c9 : Tryz.prog.cellsOf 9 = 1 := by kernel_rfl
theorem c31 : Tryz.prog.cellsOf 31 = 1 := by kernel_rfl
theorem c55 : Tryz.prog.cellsOf 55 = 1 := by kernel_rfl
theorem c39 : Tryz.prog.cellsOf 39 = 1 := by kernel_rfl
theorem c22 : Tryz.prog.cellsOf 22 = 1 := by kernel_rfl
theorem c33 : Tryz.prog.cellsOf 33 = 5 := by kernel_rfl
theorem c57 : Tryz.prog.cellsOf 57 = 4 := by kernel_rfl
theorem c59 : Tryz.prog.cellsOf 59 = 23 := by kernel_rfl
theorem c61 : Tryz.prog.cellsOf 61 = 7 := by kernel_rfl
theorem c24 : Tryz.prog.cellsOf 24 = 1 := by kernel_rfl
theorem one_int {fuel : Nat} {cs : List Value} {x : DataW H × List MemPlace} (h : DataW.trod enc Tryz.prog w base spare held fuel 3 cs = some x) : ∃ n, cs = [.int .i64 n] := by
  obtain ⟨n, h, _⟩ := DataW.trod_int u3 h; exact ⟨n, h⟩
theorem one_str {fuel : Nat} {cs : List Value} {x : DataW H × List MemPlace} (h : DataW.trod enc Tryz.prog w base spare held fuel 9 cs = some x) : ∃ s, cs = [.string s] := by
  obtain ⟨n, h, _⟩ := DataW.trod_string Tryz.underlying9 h; exact ⟨n, h⟩
theorem one_bool {fuel : Nat} {cs : List Value} {x : DataW H × List MemPlace} (h : DataW.trod enc Tryz.prog w base spare held fuel 4 cs = some x) : ∃ s, cs = [.bool s] := by
  obtain ⟨n, h, _⟩ := DataW.trod_bool u4 h; exact ⟨n, h⟩
theorem part_of {t : TypeId} {fs : Array Field} {fuel : Nat} {cs : List Value} {x : DataW H × List MemPlace} (ht : Tryz.prog.underlying t = some (.struct fs)) (h : DataW.trod enc Tryz.prog w base spare held fuel t cs = some x) :
    ∃ n, fuel = n + 1 ∧ cs.length = Tryz.prog.cellsOf t ∧ ∀ (i : Nat) (f : Field) (t' off m : Nat), fs[i]? = some f → f.type = t' → f.offset = off → Tryz.prog.cellsOf t' = m → ∃ y, DataW.trod enc Tryz.prog w base spare held n t' ((cs.drop off).take m) = some y := by
  obtain ⟨xs, n, h1, _, h2, h3, h4⟩ := DataW.trod_struct ht h
  refine ⟨n, h1, h2, fun i f t' off m hf e1 e2 e3 => ?_⟩
  subst e1; subst e2; subst e3
  have hi : i < xs.length := by rw [h3]; exact (Array.getElem?_eq_some_iff.1 hf).1
  exact ⟨xs[i], by rw [h4 i f hf]; exact List.getElem?_eq_getElem hi⟩
theorem len_cons {n : Nat} {cs : List Value} (h : cs.length = n + 1) : ∃ a t, cs = a :: t ∧ t.length = n := by
  cases cs with
  | nil => cases h
  | cons a t => exact ⟨a, t, rfl, by simpa using h⟩
theorem list1 {cs : List Value} (h0 : cs.length = 1) : ∃ a, cs = [a] := by
  obtain ⟨a, t1, rfl, h1⟩ := len_cons h0
  obtain rfl : t1 = [] := List.length_eq_zero_iff.1 h1
  exact ⟨a, rfl⟩
theorem list4 {cs : List Value} (h0 : cs.length = 4) : ∃ a b c d, cs = [a, b, c, d] := by
  obtain ⟨a, t1, rfl, h1⟩ := len_cons h0
  obtain ⟨b, t2, rfl, h2⟩ := len_cons h1
  obtain ⟨c, t3, rfl, h3⟩ := len_cons h2
  obtain ⟨d, t4, rfl, h4⟩ := len_cons h3
  obtain rfl : t4 = [] := List.length_eq_zero_iff.1 h4
  exact ⟨a, b, c, d, rfl⟩
theorem list5 {cs : List Value} (h0 : cs.length = 5) : ∃ a b c d e, cs = [a, b, c, d, e] := by
  obtain ⟨a, t1, rfl, h1⟩ := len_cons h0
  obtain ⟨b, t2, rfl, h2⟩ := len_cons h1
  obtain ⟨c, t3, rfl, h3⟩ := len_cons h2
  obtain ⟨d, t4, rfl, h4⟩ := len_cons h3
  obtain ⟨e, t5, rfl, h5⟩ := len_cons h4
  obtain rfl : t5 = [] := List.length_eq_zero_iff.1 h5
  exact ⟨a, b, c, d, e, rfl⟩
theorem list7 {cs : List Value} (h0 : cs.length = 7) : ∃ a b c d e f g, cs = [a, b, c, d, e, f, g] := by
  obtain ⟨a, t1, rfl, h1⟩ := len_cons h0
  obtain ⟨b, t2, rfl, h2⟩ := len_cons h1
  obtain ⟨c, t3, rfl, h3⟩ := len_cons h2
  obtain ⟨d, t4, rfl, h4⟩ := len_cons h3
  obtain ⟨e, t5, rfl, h5⟩ := len_cons h4
  obtain ⟨f, t6, rfl, h6⟩ := len_cons h5
  obtain ⟨g, t7, rfl, h7⟩ := len_cons h6
  obtain rfl : t7 = [] := List.length_eq_zero_iff.1 h7
  exact ⟨a, b, c, d, e, f, g, rfl⟩
theorem list23 {cs : List Value} (h0 : cs.length = 23) : ∃ a0 a1 a2 a3 a4 a5 a6 a7 a8 a9 a10 a11 a12 a13 a14 a15 a16 a17 a18 a19 a20 a21 a22, cs = [a0, a1, a2, a3, a4, a5, a6, a7, a8, a9, a10, a11, a12, a13, a14, a15, a16, a17, a18, a19, a20, a21, a22] := by
  obtain ⟨a0, t1, rfl, h1⟩ := len_cons h0
  obtain ⟨a1, t2, rfl, h2⟩ := len_cons h1
  obtain ⟨a2, t3, rfl, h3⟩ := len_cons h2
  obtain ⟨a3, t4, rfl, h4⟩ := len_cons h3
  obtain ⟨a4, t5, rfl, h5⟩ := len_cons h4
  obtain ⟨a5, t6, rfl, h6⟩ := len_cons h5
  obtain ⟨a6, t7, rfl, h7⟩ := len_cons h6
  obtain ⟨a7, t8, rfl, h8⟩ := len_cons h7
  obtain ⟨a8, t9, rfl, h9⟩ := len_cons h8
  obtain ⟨a9, t10, rfl, h10⟩ := len_cons h9
  obtain ⟨a10, t11, rfl, h11⟩ := len_cons h10
  obtain ⟨a11, t12, rfl, h12⟩ := len_cons h11
  obtain ⟨a12, t13, rfl, h13⟩ := len_cons h12
  obtain ⟨a13, t14, rfl, h14⟩ := len_cons h13
  obtain ⟨a14, t15, rfl, h15⟩ := len_cons h14
  obtain ⟨a15, t16, rfl, h16⟩ := len_cons h15
  obtain ⟨a16, t17, rfl, h17⟩ := len_cons h16
  obtain ⟨a17, t18, rfl, h18⟩ := len_cons h17
  obtain ⟨a18, t19, rfl, h19⟩ := len_cons h18
  obtain ⟨a19, t20, rfl, h20⟩ := len_cons h19
  obtain ⟨a20, t21, rfl, h21⟩ := len_cons h20
  obtain ⟨a21, t22, rfl, h22⟩ := len_cons h21
  obtain ⟨a22, t23, rfl, h23⟩ := len_cons h22
  obtain rfl : t23 = [] := List.length_eq_zero_iff.1 h23
  exact ⟨a0, a1, a2, a3, a4, a5, a6, a7, a8, a9, a10, a11, a12, a13, a14, a15, a16, a17, a18, a19, a20, a21, a22, rfl⟩
theorem open33 : ∀ (fuel : Nat) (cs : List Value) (x : DataW H × List MemPlace), DataW.trod enc Tryz.prog w base spare held fuel 33 cs = some x → ∃ v : S33, k33.K w v cs := by
  intro fuel
  induction fuel using Nat.strongRecOn with
  | _ fuel ih =>
    intro cs x h
    obtain ⟨n, rfl, hl, hf⟩ := part_of Tryz.underlying33 h
    rw [c33] at hl
    obtain ⟨y0, h0⟩ := hf 0 _ 3 0 1 rfl rfl rfl c3
    obtain ⟨y1, h1⟩ := hf 1 _ 9 1 1 rfl rfl rfl c9
    obtain ⟨y2, h2⟩ := hf 2 _ 3 2 1 rfl rfl rfl c3
    obtain ⟨y3, h3⟩ := hf 3 _ 3 3 1 rfl rfl rfl c3
    obtain ⟨y4, h4⟩ := hf 4 _ 31 4 1 rfl rfl rfl c31
    obtain ⟨a, b, c, d, e, rfl⟩ := list5 hl
    obtain ⟨f0, e0⟩ := one_int h0
    obtain ⟨f1, e1⟩ := one_str h1
    obtain ⟨f2, e2⟩ := one_int h2
    obtain ⟨f3, e3⟩ := one_int h3
    obtain ⟨A, cp, f4, e4, hcp, hC⟩ := open_slice (d := k33) (α := S33) u31 c33 (fun m hm cs y hy => ih m (by omega) cs y hy) h4
    have e0 : [a] = _ := e0
    have e1 : [b] = _ := e1
    have e2 : [c] = _ := e2
    have e3 : [d] = _ := e3
    have e4 : [e] = _ := e4
    cases e0; cases e1; cases e2; cases e3; cases e4
    exact ⟨⟨f0, f1, f2, f3, f4⟩, k33_mk w ⟨f0, f1, f2, f3, f4⟩ hcp hC⟩
theorem open57 : ∀ (fuel : Nat) (cs : List Value) (x : DataW H × List MemPlace), DataW.trod enc Tryz.prog w base spare held fuel 57 cs = some x → ∃ v : S57, k57.K w v cs := by
  intro fuel
  induction fuel using Nat.strongRecOn with
  | _ fuel ih =>
    intro cs x h
    obtain ⟨n, rfl, hl, hf⟩ := part_of Tryz.underlying57 h
    rw [c57] at hl
    obtain ⟨y0, h0⟩ := hf 0 _ 3 0 1 rfl rfl rfl c3
    obtain ⟨y1, h1⟩ := hf 1 _ 9 1 1 rfl rfl rfl c9
    obtain ⟨y2, h2⟩ := hf 2 _ 3 2 1 rfl rfl rfl c3
    obtain ⟨y3, h3⟩ := hf 3 _ 55 3 1 rfl rfl rfl c55
    obtain ⟨a, b, c, d, rfl⟩ := list4 hl
    obtain ⟨f0, e0⟩ := one_int h0
    obtain ⟨f1, e1⟩ := one_str h1
    obtain ⟨f2, e2⟩ := one_int h2
    obtain ⟨A, cp, f3, e3, hcp, hC⟩ := open_slice (d := k57) (α := S57) u55 c57 (fun m hm cs y hy => ih m (by omega) cs y hy) h3
    have e0 : [a] = _ := e0
    have e1 : [b] = _ := e1
    have e2 : [c] = _ := e2
    have e3 : [d] = _ := e3
    cases e0; cases e1; cases e2; cases e3
    exact ⟨⟨f0, f1, f2, f3⟩, k57_mk w ⟨f0, f1, f2, f3⟩ hcp hC⟩
theorem open9 : ∀ (fuel : Nat) (cs : List Value) (x : DataW H × List MemPlace), DataW.trod enc Tryz.prog w base spare held fuel 9 cs = some x → ∃ v : ByteArray, Kd.string.K w v cs := fun fuel cs x h => by
  obtain ⟨s, e⟩ := one_str h; exact ⟨s, e⟩
theorem open61 : ∀ (fuel : Nat) (cs : List Value) (x : DataW H × List MemPlace), DataW.trod enc Tryz.prog w base spare held fuel 61 cs = some x → ∃ v : S61, k61.K w v cs := by
  intro fuel cs x h
  obtain ⟨n, rfl, hl, hf⟩ := part_of Tryz.underlying61 h
  rw [c61] at hl
  obtain ⟨y0, h0⟩ := hf 0 _ 3 0 1 rfl rfl rfl c3
  obtain ⟨y1, h1⟩ := hf 1 _ 9 1 1 rfl rfl rfl c9
  obtain ⟨y2, h2⟩ := hf 2 _ 9 2 1 rfl rfl rfl c9
  obtain ⟨y3, h3⟩ := hf 3 _ 9 3 1 rfl rfl rfl c9
  obtain ⟨y4, h4⟩ := hf 4 _ 9 4 1 rfl rfl rfl c9
  obtain ⟨y5, h5⟩ := hf 5 _ 9 5 1 rfl rfl rfl c9
  obtain ⟨y6, h6⟩ := hf 6 _ 4 6 1 rfl rfl rfl c4
  obtain ⟨a, b, c, d, e, f, g, rfl⟩ := list7 hl
  obtain ⟨f0, e0⟩ := one_int h0
  obtain ⟨f1, e1⟩ := one_str h1
  obtain ⟨f2, e2⟩ := one_str h2
  obtain ⟨f3, e3⟩ := one_str h3
  obtain ⟨f4, e4⟩ := one_str h4
  obtain ⟨f5, e5⟩ := one_str h5
  obtain ⟨f6, e6⟩ := one_bool h6
  have e0 : [a] = _ := e0
  have e1 : [b] = _ := e1
  have e2 : [c] = _ := e2
  have e3 : [d] = _ := e3
  have e4 : [e] = _ := e4
  have e5 : [f] = _ := e5
  have e6 : [g] = _ := e6
  cases e0; cases e1; cases e2; cases e3; cases e4; cases e5; cases e6
  exact ⟨⟨f0, f1, f2, f3, f4, f5, f6⟩, k61_mk w ⟨f0, f1, f2, f3, f4, f5, f6⟩⟩
theorem open59 : ∀ (fuel : Nat) (cs : List Value) (x : DataW H × List MemPlace), DataW.trod enc Tryz.prog w base spare held fuel 59 cs = some x → ∃ v : S59, k59.K w v cs := by
  intro fuel cs x h
  obtain ⟨n, rfl, hl, hf⟩ := part_of Tryz.underlying59 h
  rw [c59] at hl
  obtain ⟨y0, h0⟩ := hf 0 _ 9 0 1 rfl rfl rfl c9
  obtain ⟨y1, h1⟩ := hf 1 _ 3 1 1 rfl rfl rfl c3
  obtain ⟨y2, h2⟩ := hf 2 _ 3 2 1 rfl rfl rfl c3
  obtain ⟨y3, h3⟩ := hf 3 _ 9 3 1 rfl rfl rfl c9
  obtain ⟨y4, h4⟩ := hf 4 _ 3 4 1 rfl rfl rfl c3
  obtain ⟨y5, h5⟩ := hf 5 _ 33 5 5 rfl rfl rfl c33
  obtain ⟨y6, h6⟩ := hf 6 _ 39 10 1 rfl rfl rfl c39
  obtain ⟨y7, h7⟩ := hf 7 _ 57 11 4 rfl rfl rfl c57
  obtain ⟨y8, h8⟩ := hf 8 _ 57 15 4 rfl rfl rfl c57
  obtain ⟨y9, h9⟩ := hf 9 _ 57 19 4 rfl rfl rfl c57
  obtain ⟨a0, a1, a2, a3, a4, a5, a6, a7, a8, a9, a10, a11, a12, a13, a14, a15, a16, a17, a18, a19, a20, a21, a22, rfl⟩ := list23 hl
  obtain ⟨f0, e0⟩ := one_str h0
  obtain ⟨f1, e1⟩ := one_int h1
  obtain ⟨f2, e2⟩ := one_int h2
  obtain ⟨f3, e3⟩ := one_str h3
  obtain ⟨f4, e4⟩ := one_int h4
  obtain ⟨f5, k5⟩ := open33 _ _ _ h5
  obtain ⟨A6, cp6, f6, e6, hcp6, hC6⟩ := open_slice (d := Kd.string) (α := ByteArray) u39 c9 (fun m hm cs y hy => open9 m cs y hy) h6
  obtain ⟨f7, k7⟩ := open57 _ _ _ h7
  obtain ⟨f8, k8⟩ := open57 _ _ _ h8
  obtain ⟨f9, k9⟩ := open57 _ _ _ h9
  have e0 : [a0] = _ := e0
  have e1 : [a1] = _ := e1
  have e2 : [a2] = _ := e2
  have e3 : [a3] = _ := e3
  have e4 : [a4] = _ := e4
  have e6 : [a10] = _ := e6
  have k5 : k33.K w _ [a5, a6, a7, a8, a9] := k5
  have k7 : k57.K w _ [a11, a12, a13, a14] := k7
  have k8 : k57.K w _ [a15, a16, a17, a18] := k8
  have k9 : k57.K w _ [a19, a20, a21, a22] := k9
  cases e0; cases e1; cases e2; cases e3; cases e4; cases e6
  exact ⟨⟨f0, f1, f2, f3, f4, f5, f6, f7, f8, f9⟩, [.string f0], _, rfl, rfl, [.int .i64 f1], _, rfl, rfl, [.int .i64 f2], _, rfl, rfl, [.string f3], _, rfl, rfl, [.int .i64 f4], _, rfl, rfl, [a5, a6, a7, a8, a9], _, rfl, k5, [.slice A6 f6.length cp6], _, rfl, ⟨A6, cp6, rfl, hcp6, hC6⟩, [a11, a12, a13, a14], _, rfl, k7, [a15, a16, a17, a18], [a19, a20, a21, a22], rfl, k8, k9⟩
set_option maxRecDepth 100000 in
theorem struct_of {t : TypeId} {fs : Array Field} {r : Reach} {b0 : Nat} {v : Value} (ht : Tryz.prog.underlying t = some (.struct fs)) (h : Value.okWide Tryz.prog w r b0 t v) : ∃ cs, v = .agg cs := by
  obtain ⟨cs, h, _⟩ := Go.WideShapes.okWide_struct ht h
  exact ⟨cs, h⟩
set_option maxRecDepth 100000 in
theorem slice_of {t e : TypeId} {r : Reach} {b0 : Nat} {v : Value} (ht : Tryz.prog.underlying t = some (.slice e)) (h : Value.okWide Tryz.prog w r b0 t v) : ∃ a n c, v = .slice a n c := Go.WideShapes.okWide_slice ht h
set_option maxRecDepth 100000 in
theorem open24 {r : Reach} {b0 : Nat} {v : Value} {d : DataW H} {ps : List MemPlace} (hv : Value.okWide Tryz.prog w r b0 24 v) (h : DataW.Trod enc Tryz.prog w base spare held 24 v d ps) : ∃ A c xs, v = .agg #[.slice A xs.length c] ∧ xs.length ≤ c ∧ Kd.C k61 w A xs.length xs := by
  obtain ⟨cs, rfl⟩ := struct_of Tryz.underlying24 hv
  obtain ⟨cs⟩ := cs
  obtain ⟨fuel, h⟩ := h
  obtain ⟨n, rfl, hl, hf⟩ := part_of Tryz.underlying24 h
  rw [c24] at hl
  obtain ⟨y0, h0⟩ := hf 0 _ 22 0 1 rfl rfl rfl c22
  have hl : cs.length = 1 := hl
  obtain ⟨a, rfl⟩ := list1 hl
  obtain ⟨A, cp, f4, e4, hcp, hC⟩ := open_slice (d := k61) (α := S61) u22 c61 (fun m hm cs y hy => open61 m cs y hy) h0
  have e4 : [a] = _ := e4
  cases e4
  exact ⟨A, cp, f4, rfl, hcp, hC⟩
set_option maxRecDepth 100000 in
theorem open25 {r : Reach} {b0 : Nat} {v : Value} {d : DataW H} {ps : List MemPlace} (hv : Value.okWide Tryz.prog w r b0 25 v) (h : DataW.Trod enc Tryz.prog w base spare held 25 v d ps) : ∃ A c xs, v = .slice A xs.length c ∧ xs.length ≤ c ∧ Kd.C k59 w A xs.length xs := by
  obtain ⟨a, len, cap, rfl⟩ := slice_of Tryz.underlying25 hv
  obtain ⟨fuel, h⟩ := h
  obtain ⟨A, cp, f4, e4, hcp, hC⟩ := open_slice (d := k59) (α := S59) Tryz.underlying25 c59 (fun m hm cs y hy => open59 m cs y hy) h
  have e4 : [Value.slice a len cap] = [Value.slice A f4.length cp] := e4
  cases e4
  exact ⟨_, _, f4, rfl, hcp, hC⟩
end
end Go.Proofs.YtjmojapijbimbaaGreatDoor.Pa
end
section
namespace Go.Proofs.YtjmojapijbimbaaGreatDoor.Pa
theorem own : ownKnob Tryz.prog.godebug = none := by kernel_rfl
abbrev synS : ByteArray := { data := #[105, 110, 118, 97, 108, 105, 100, 32, 115, 121, 110, 116, 97, 120] }
abbrev rngS : ByteArray := { data := #[118, 97, 108, 117, 101, 32, 111, 117, 116, 32, 111, 102, 32, 114, 97, 110, 103, 101] }
noncomputable def low : Nat := (World.holding Tryz.prog default ⟨#[], #[], []⟩).heap.size
noncomputable def lay (g : Nat) (cs : Array Value) (h : Array Obj) : Array Obj := h.modify g fun
  | .cells _ t frozen => .cells cs t frozen
  | o => o
noncomputable def laidWorld (os : Os) : World :=
  let w0 := World.holding Tryz.prog os ⟨#[.cells #[.string synS] 368, .cells #[.string rngS] 368], #[], []⟩
  { w0 with heap := lay 0 #[.iface 366 (.pointer (some ⟨low, 0, none⟩))] (lay 1 #[.iface 366 (.pointer (some ⟨low + 1, 0, none⟩))]
      (lay 3 #[.int .u64 1, .int .u64 10, .int .u64 100, .int .u64 1000, .int .u64 10000, .int .u64 100000, .int .u64 1000000, .int .u64 10000000, .int .u64 100000000, .int .u64 1000000000, .int .u64 10000000000, .int .u64 100000000000, .int .u64 1000000000000, .int .u64 10000000000000, .int .u64 100000000000000, .int .u64 1000000000000000, .int .u64 10000000000000000, .int .u64 100000000000000000, .int .u64 1000000000000000000, .int .u64 10000000000000000000]
      (lay 4 #[.int .u8 0, .int .u8 1, .int .u8 28, .int .u8 2, .int .u8 29, .int .u8 14, .int .u8 24, .int .u8 3, .int .u8 30, .int .u8 22, .int .u8 20, .int .u8 15, .int .u8 25, .int .u8 17, .int .u8 4, .int .u8 8, .int .u8 31, .int .u8 27, .int .u8 13, .int .u8 23, .int .u8 21, .int .u8 19, .int .u8 16, .int .u8 7, .int .u8 26, .int .u8 12, .int .u8 18, .int .u8 6, .int .u8 11, .int .u8 5, .int .u8 10, .int .u8 9]
      (lay 5 #[.int .u8 0, .int .u8 1, .int .u8 56, .int .u8 2, .int .u8 57, .int .u8 49, .int .u8 28, .int .u8 3, .int .u8 61, .int .u8 58, .int .u8 42, .int .u8 50, .int .u8 38, .int .u8 29, .int .u8 17, .int .u8 4, .int .u8 62, .int .u8 47, .int .u8 59, .int .u8 36, .int .u8 45, .int .u8 43, .int .u8 51, .int .u8 22, .int .u8 53, .int .u8 39, .int .u8 33, .int .u8 30, .int .u8 24, .int .u8 18, .int .u8 12, .int .u8 5, .int .u8 63, .int .u8 55, .int .u8 48, .int .u8 27, .int .u8 60, .int .u8 41, .int .u8 37, .int .u8 16, .int .u8 46, .int .u8 35, .int .u8 44, .int .u8 21, .int .u8 52, .int .u8 32, .int .u8 23, .int .u8 11, .int .u8 54, .int .u8 26, .int .u8 40, .int .u8 15, .int .u8 34, .int .u8 20, .int .u8 31, .int .u8 10, .int .u8 25, .int .u8 14, .int .u8 19, .int .u8 9, .int .u8 13, .int .u8 8, .int .u8 7, .int .u8 6] w0.heap)))) }
end Go.Proofs.YtjmojapijbimbaaGreatDoor.Pa
end
section
namespace Go.Proofs.YtjmojapijbimbaaGreatDoor.Pa
open Go.RowKit Go.ChangeShapes Go.WideShapes
theorem laidOut : laidOutB Tryz.prog = true := by kernel_rfl
theorem kept_below {W W' : World} (hb : Below W.heap.size W W') (may : MemPlace → Prop) : W.keptBut W' may := by
  refine ⟨hb.os, hb.output, fun i hi => ?_⟩
  rw [hb.block i hi]
  cases W.heap[i]? with
  | none => trivial
  | some o => cases o <;> simp
section
variable {H : Type} {enc : TypeId × Value → H}
theorem all_below {W W' : World} (hb : Below W.heap.size W W') : ∀ (ts : List TypeId) (vs : List Value) (ds : List (DataW H)) (ps : List MemPlace), (∀ t ∈ ts, Tryz.prog.readableRec t = true ∧ t < Tryz.prog.types.size) →
    DataW.TrodAll enc Tryz.prog W 0 (fun _ => true) true ts vs ds ps → (∀ x ∈ ps, x.block < W.heap.size) → DataW.TrodAll enc Tryz.prog W' 0 (fun b => decide (b < W.heap.size)) true ts vs ds ps
  | [], vs, ds, ps, _, h, _ => by
    obtain ⟨rfl, rfl, rfl⟩ := trodAll_nil h
    exact rfl
  | t :: ts, vs, ds, ps, ht, h, hlt => by
    obtain ⟨v, vs1, d, ds1, a, b, rfl, rfl, rfl, h1, h2⟩ := trodAll_cons h
    refine trodAll_cons_mk (Below.trod laidOut (ht t (by simp)).1 (ht t (by simp)).2 h1 hb fun x hx => hlt x (by simp [hx])) (all_below hb ts vs1 ds1 b (fun u hu => ht u (by simp [hu])) h2 fun x hx => hlt x (by simp [hx]))
theorem post_kept {f : Func} {s : ChangeSpec} {W W' : World} {args : Array Value} {ds gs : List (DataW H)} {before : List MemPlace} (hv : s.vars = []) (hW : DataW.Whole enc Tryz.prog f.params.toList s.vars false W args.toList ds gs before)
    (hfn : s.fn H (ds ++ gs) = { results := [.lit (.bool true)], args := ds }) (hr : f.resultTypes = #[4]) (hts : ∀ t ∈ f.params.toList, Tryz.prog.readableRec t = true ∧ t < Tryz.prog.types.size) (hb : Below W.heap.size W W') :
    s.post enc Tryz.prog f false true false false W args (.bool true) W' := by
  have hlt : ∀ x ∈ before, x.block < W.heap.size := fun x hx => hW.lt x hx
  obtain ⟨p, q, hA, hV, hpq, hfz, hnd⟩ := hW
  rw [hv] at hV
  obtain ⟨rfl, rfl⟩ := trodVars_none hV
  rw [List.append_nil] at hpq
  subst hpq
  refine ⟨ds, [], before, [], before, [], ⟨before, [], hA, by rw [hv]; exact rfl, (List.append_nil _).symm, hfz, hnd⟩, ?_, ?_, ?_, kept_below hb _, fun h => by cases h⟩
  · rw [hfn, hr]
    exact trodAll_cons_mk (shut_bool Tryz.underlying4 _) rfl
  · rw [hfn]
    exact all_below hb _ _ _ _ hts hA hlt
  · rw [hfn, hv]
    exact rfl
end
theorem glob_of {W : World} (h : W.ShapedOpen Tryz.prog) : Glob W := by
  obtain ⟨m, hm⟩ := cell_of_shapedOpen_int (g := 2) (zero := #[.int .i64 0]) (t := 3) h (of_decide_eq_true (by kernel_rfl)) (by kernel_rfl) rfl (by kernel_rfl) (by kernel_rfl) Tryz.underlying3
  cases e : W.heap[2]? with
  | none =>
    unfold World.cell? at hm
    simp only [e] at hm
    cases hm
  | some o =>
    refine ⟨o, e, m, fun w' hw' => ?_⟩
    have hw' : w'.heap[2]? = W.heap[2]? := hw'.trans e.symm
    rw [← hm]
    unfold World.cell?
    simp only [hw']
end Go.Proofs.YtjmojapijbimbaaGreatDoor.Pa
end
