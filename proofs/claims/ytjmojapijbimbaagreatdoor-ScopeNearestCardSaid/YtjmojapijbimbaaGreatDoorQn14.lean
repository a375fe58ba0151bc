/- A part of the proof of the law: PaP. Conditions: none. -/
import Derived.Test.YtjmojapijbimbaaGreatDoorQn05
import Derived.Test.YtjmojapijbimbaaGreatDoorQn13
set_option linter.unusedVariables false
set_option linter.unusedSimpArgs false
namespace Go.Proofs.YtjmojapijbimbaaGreatDoor.Pa
open Go.RowKit Go.Proofs.YtjmojapijbimbaaGreatDoorW.PrintWords Go.Proofs.YtjmojapijbimbaaGreatDoorW.PrintLast Go.Proofs.YtjmojapijbimbaaGreatDoorW.PrintMore
open Go.Eng (It Pv findIt itZ plainGo badB parOf kindOf fitsGo findPv termsOf isDef goUp findS goodP)
noncomputable section
def Evn {α : Type} (g : Nat → Option α) (r : α) : Prop := ∃ k0, ∀ k, k0 ≤ k → g k = some r
theorem Evn.step {α : Type} {g h : Nat → Option α} {r : α} (hs : ∀ k, g (k + 1) = h k) (hh : Evn h r) : Evn g r := by
  obtain ⟨k0, h1⟩ := hh
  refine ⟨k0 + 1, fun k hk => ?_⟩
  obtain ⟨m, rfl⟩ : ∃ m, k = m + 1 := ⟨k - 1, by omega⟩
  rw [hs]; exact h1 m (by omega)
theorem Evn.const {α : Type} {g : Nat → Option α} {r : α} (h : ∀ k, g k = some r) : Evn g r := ⟨0, fun k _ => h k⟩
theorem Evn.stop {α : Type} {g : Nat → Option α} {r : α} (h : ∀ k, g (k + 1) = some r) : Evn g r := Evn.step (h := fun _ => some r) h (Evn.const fun _ => rfl)
theorem Evn.bind {α β : Type} {g : Nat → Option α} {x : α} {F : Nat → α → Option β} {r : β} (hg : Evn g x) (hF : Evn (fun k => F k x) r) : Evn (fun k => (g k).bind (F k)) r := by
  obtain ⟨k0, h0⟩ := hg
  obtain ⟨k1, h1⟩ := hF
  refine ⟨max k0 k1, fun k hk => ?_⟩
  show (g k).bind (F k) = some r
  rw [h0 k (by omega)]; exact h1 k (by omega)
theorem Evn.congr {α : Type} {g h : Nat → Option α} {r : α} (hs : ∀ k, g k = h k) (hh : Evn h r) : Evn g r := by
  obtain ⟨k0, h1⟩ := hh
  exact ⟨k0, fun k hk => by rw [hs]; exact h1 k hk⟩
theorem Evn.ex {α : Type} {g : Nat → Option α} {r : α} (h : Evn g r) : ∃ k, g k = some r := by
  obtain ⟨k0, h1⟩ := h
  exact ⟨k0, h1 k0 (Nat.le_refl _)⟩
theorem wrap_nat {i : Nat} (h : (i : Int) + 1 ≤ 9223372036854775807) : wrap64 ((i : Int) + 1) = ((i + 1 : Nat) : Int) := by
  unfold wrap64; omega
theorem bytes_toList {a b : ByteArray} (h : a.toList = b.toList) : a = b := by
  rw [ByteArray.toList_eq, ByteArray.toList_eq] at h
  exact Go.Eng.bytes_ext h
theorem rd61 {l : List S61} {i : Nat} {x : S61} (h : l[i]? = some x) : rd_T61 l (i : Int) = x := by
  unfold rd_T61
  rw [Int.toNat_natCast, List.getD_eq_getElem?_getD, h]; rfl
theorem rd59 {l : List S59} {i : Nat} {x : S59} (h : l[i]? = some x) : rd_T59 l (i : Int) = x := by
  unfold rd_T59
  rw [Int.toNat_natCast, List.getD_eq_getElem?_getD, h]; rfl
theorem rd33 {l : List S33} {i : Nat} {x : S33} (h : l[i]? = some x) : rd_T33 l (i : Int) = x := by
  unfold rd_T33
  rw [Int.toNat_natCast, List.getD_eq_getElem?_getD, h]; rfl
theorem few_ev (m : Int) (l : List S61) (hl : (l.length : Int) ≤ 9223372036854775807) : ∀ (d i : Nat), i + d = l.length → ∃ b, Evn (fun k => pandectref13_Few.l0 k m (i : Int) l) b ∧ (b = true → (l.length : Int) ≤ m) := by
  intro d
  induction d with
  | zero =>
    intro i hi
    refine ⟨_, Evn.stop fun k => ?_, fun h => of_decide_eq_true h⟩
    simp only [pandectref13_Few.l0]
    rw [if_neg (by omega)]
  | succ d ih =>
    intro i hi
    obtain ⟨b, h1, h2⟩ := ih (i + 1) (by omega)
    have hw : wrap64 ((i : Int) + 1) = ((i + 1 : Nat) : Int) := wrap_nat (by omega)
    have hstep : ∀ k, pandectref13_Few.l0 (k + 1) m (i : Int) l = (if (((rd_T61 l i).f1).size : Int) > 60 then (some false) else (if (((rd_T61 l i).f2).size : Int) > 60 then (some false) else (if (((rd_T61 l i).f3).size : Int) > 60 then (some false) else (if (((rd_T61 l i).f4).size : Int) > 1000 then (some false) else (if (((rd_T61 l i).f5).size : Int) > 1000 then (some false) else (pandectref13_Few.l0 k m (((i + 1 : Nat)) : Int) l)))))) := fun k => by
      simp only [pandectref13_Few.l0]
      rw [if_pos (by omega), if_pos (by omega), hw]
    by_cases c1 : (((rd_T61 l i).f1).size : Int) > 60
    · exact ⟨false, Evn.stop fun k => by rw [hstep, if_pos c1], fun h => by cases h⟩
    by_cases c2 : (((rd_T61 l i).f2).size : Int) > 60
    · exact ⟨false, Evn.stop fun k => by rw [hstep, if_neg c1, if_pos c2], fun h => by cases h⟩
    by_cases c3 : (((rd_T61 l i).f3).size : Int) > 60
    · exact ⟨false, Evn.stop fun k => by rw [hstep, if_neg c1, if_neg c2, if_pos c3], fun h => by cases h⟩
    by_cases c4 : (((rd_T61 l i).f4).size : Int) > 1000
    · exact ⟨false, Evn.stop fun k => by rw [hstep, if_neg c1, if_neg c2, if_neg c3, if_pos c4], fun h => by cases h⟩
    by_cases c5 : (((rd_T61 l i).f5).size : Int) > 1000
    · exact ⟨false, Evn.stop fun k => by rw [hstep, if_neg c1, if_neg c2, if_neg c3, if_neg c4, if_pos c5], fun h => by cases h⟩
    exact ⟨b, Evn.step (fun k => by rw [hstep, if_neg c1, if_neg c2, if_neg c3, if_neg c4, if_neg c5]) h1, h2⟩
theorem size_f4 (x : S33) : SizeOf.sizeOf x.f4 < SizeOf.sizeOf x := by
  cases x; simp; omega
theorem count_ev : ∀ (n : Nat) (l : List S33) (f0 : Int) (f1 : ByteArray) (f2 f3 b : Int), SizeOf.sizeOf l < n → 0 ≤ b → b ≤ 1000 → ∃ r, Evn (fun k => pandectref07_count.f k f0 f1 f2 f3 l b) r ∧ 1 ≤ r ∧ r ≤ b + 1 := by
  intro n
  induction n with
  | zero => intro l _ _ _ _ _ h; omega
  | succ n ih =>
    intro l f0 f1 f2 f3 b hsz hb hb2
    have loop : ∀ (d i : Nat) (x : Int), i + d = l.length → (i : Int) + 1 ≤ x → x ≤ b + 1 → ∃ r, Evn (fun k => pandectref07_count.l0 k b x (i : Int) f0 f1 f2 f3 l) r ∧ 1 ≤ r ∧ r ≤ b + 1 := by
      intro d
      induction d with
      | zero =>
        intro i x hi hx hxb
        refine ⟨x, Evn.stop fun k => ?_, by omega, hxb⟩
        simp only [pandectref07_count.l0]
        rw [if_neg (by omega)]
      | succ d ihd =>
        intro i x hi hx hxb
        by_cases hxb2 : x ≤ b
        · have hlt : i < l.length := by omega
          have hx0 : l[i]? = some l[i] := List.getElem?_eq_getElem hlt
          have hs1 : SizeOf.sizeOf l[i] < SizeOf.sizeOf l := List.sizeOf_lt_of_mem (List.getElem_mem hlt)
          have hs2 := size_f4 l[i]
          obtain ⟨r1, h1, h2, h3⟩ := ih l[i].f4 l[i].f0 l[i].f1 l[i].f2 l[i].f3 (b - x) (by omega) (by omega) (by omega)
          obtain ⟨r, h4, h5⟩ := ihd (i + 1) (x + r1) (by omega) (by omega) (by omega)
          refine ⟨r, Evn.step (h := fun k => (pandectref07_count.f k l[i].f0 l[i].f1 l[i].f2 l[i].f3 l[i].f4 (b - x)).bind fun t => pandectref07_count.l0 k b (wrap64 (x + t)) (((i + 1 : Nat)) : Int) f0 f1 f2 f3 l) (fun k => ?_) (Evn.bind h1 (Evn.congr (fun k => ?_) h4)), h5⟩
          · simp only [pandectref07_count.l0]
            have w1 : wrap64 (b - x) = b - x := by unfold wrap64; omega
            rw [if_pos (by omega), if_pos hxb2, if_pos (by omega), rd33 hx0, w1, wrap_nat (by omega)]
          · have w2 : wrap64 (x + r1) = x + r1 := by unfold wrap64; omega
            rw [w2]
        · refine ⟨x, Evn.stop fun k => ?_, by omega, hxb⟩
          simp only [pandectref07_count.l0]
          rw [if_pos (by omega), if_neg hxb2]
    obtain ⟨r, h1, h2⟩ := loop l.length 0 1 (by omega) (by omega) (by omega)
    refine ⟨r, Evn.step (fun k => ?_) h1, h2⟩
    simp only [pandectref07_count.f]
    rfl
theorem small_ev (x : S33) (b : Int) (hb : 0 ≤ b) (hb2 : b ≤ 1000) : ∃ r, Evn (fun k => pandectref07_Small.f k x.f0 x.f1 x.f2 x.f3 x.f4 b) r := by
  obtain ⟨r, h1, _⟩ := count_ev _ x.f4 x.f0 x.f1 x.f2 x.f3 b (Nat.lt_succ_self _) hb hb2
  exact ⟨_, Evn.bind (F := fun _ t => some (decide (t ≤ b))) h1 (Evn.const fun _ => rfl)⟩
theorem light_ev (l : List S59) (hl : (l.length : Int) ≤ 9223372036854775807) : ∀ (d i : Nat), i + d = l.length → ∃ b, Evn (fun k => pandectref13_Light.l0 k l (i : Int)) b ∧ (b = true → (l.length : Int) ≤ 8) := by
  intro d
  induction d with
  | zero =>
    intro i hi
    refine ⟨_, Evn.stop fun k => ?_, fun h => of_decide_eq_true h⟩
    simp only [pandectref13_Light.l0]
    rw [if_neg (by omega)]
  | succ d ih =>
    intro i hi
    obtain ⟨b, h1, h2⟩ := ih (i + 1) (by omega)
    have hw : wrap64 ((i : Int) + 1) = ((i + 1 : Nat) : Int) := wrap_nat (by omega)
    obtain ⟨r, hr⟩ := small_ev (rd_T59 l i).f5 40 (by omega) (by omega)
    have hstep : ∀ k, pandectref13_Light.l0 (k + 1) l (i : Int) = (pandectref07_Small.f k (rd_T59 l i).f5.f0 (rd_T59 l i).f5.f1 (rd_T59 l i).f5.f2 (rd_T59 l i).f5.f3 (rd_T59 l i).f5.f4 40).bind fun t => if t = true then (if (((rd_T59 l i).f0).size : Int) > 60 then (some false) else (if (((rd_T59 l i).f3).size : Int) > 60 then (some false) else (pandectref13_Light.l0 k l (((i + 1 : Nat)) : Int)))) else (some false) := fun k => by
      simp only [pandectref13_Light.l0]
      rw [if_pos (by omega), if_pos (by omega), hw]
    cases r with
    | false => exact ⟨false, Evn.step hstep (Evn.bind hr (Evn.const fun _ => by simp)), fun h => by cases h⟩
    | true =>
      by_cases c1 : (((rd_T59 l i).f0).size : Int) > 60
      · exact ⟨false, Evn.step hstep (Evn.bind hr (Evn.const fun _ => by rw [if_pos rfl, if_pos c1])), fun h => by cases h⟩
      by_cases c2 : (((rd_T59 l i).f3).size : Int) > 60
      · exact ⟨false, Evn.step hstep (Evn.bind hr (Evn.const fun _ => by rw [if_pos rfl, if_neg c1, if_pos c2])), fun h => by cases h⟩
      exact ⟨b, Evn.step hstep (Evn.bind hr (Evn.congr (fun k => by rw [if_pos rfl, if_neg c1, if_neg c2]) h1)), h2⟩
theorem fewAll_ev (c : List S61) (l : List S59) (hc : (c.length : Int) ≤ 9223372036854775807) (hl : (l.length : Int) ≤ 9223372036854775807) : ∃ b, Evn (fun k => pandectlaw13_few.f k c l) b ∧ (b = true → c.length ≤ 16 ∧ l.length ≤ 8) := by
  obtain ⟨b1, h1, h2⟩ := few_ev 16 c hc c.length 0 (by omega)
  obtain ⟨b2, h3, h4⟩ := light_ev l hl l.length 0 (by omega)
  cases b1 with
  | false => exact ⟨false, Evn.bind (F := fun k t => if t = true then ((pandectref13_Light.f k l).bind fun t115 => (some t115)) else (some false)) h1 (Evn.const fun _ => by simp), fun h => by cases h⟩
  | true =>
    refine ⟨b2, Evn.bind (F := fun k t => if t = true then ((pandectref13_Light.f k l).bind fun t115 => (some t115)) else (some false)) h1 (Evn.congr (h := fun k => (pandectref13_Light.l0 k l 0).bind fun t => some t) (fun k => by rw [if_pos rfl]; rfl) (Evn.bind (F := fun _ t => some t) h3 (Evn.const fun _ => rfl))), fun hb => ?_⟩
    have e1 := h2 rfl
    have e2 := h4 hb
    omega
theorem item_ev {l : List S61} (hl : (l.length : Int) ≤ 9223372036854775807) {m : Int} (hm : m ≠ 0) {i : Nat} {x : S61} (hx : l[i]? = some x) (hk : x.f0 = m) (hf : ∀ (j : Nat) (y : S61), j < i → l[j]? = some y → y.f1 ≠ x.f1) : Evn (fun k => pandectref13_Item.f k l m x.f1) (i : Int) := by
  have hil := (List.getElem?_eq_some_iff.1 hx).1
  have loop : ∀ (d j : Nat), j + d = i → Evn (fun k => pandectref13_Item.l0 k m x.f1 (j : Int) l) (i : Int) := by
    intro d
    induction d with
    | zero =>
      intro j hj
      have : j = i := by omega
      subst this
      refine Evn.stop fun k => ?_
      simp only [pandectref13_Item.l0]
      rw [if_pos (by omega), if_pos (by omega), rd61 hx, if_pos rfl, if_neg hm, if_pos hk]
    | succ d ih =>
      intro j hj
      have hjl : j < l.length := by omega
      have hy : l[j]? = some l[j] := List.getElem?_eq_getElem hjl
      refine Evn.step (fun k => ?_) (ih (j + 1) (by omega))
      simp only [pandectref13_Item.l0]
      rw [if_pos (by omega), if_pos (by omega), rd61 hy, if_neg (fun e => hf j _ (by omega) hy (bytes_toList e)), wrap_nat (by omega)]
  exact loop i 0 (by omega)
structure PL (L : List It) : Prop where
  ids : ∀ (i j : Nat) (x y : It), L[i]? = some x → L[j]? = some y → x.id = y.id → i = j
  kinds : ∀ (i : Nat) (x : It), L[i]? = some x → x.kind = 1 ∨ x.kind = 2
  pars : ∀ (i : Nat) (x : It), L[i]? = some x → x.par = ⟨#[]⟩ ∨ ∃ (j : Nat) (y : It), j < i ∧ L[j]? = some y ∧ y.id = x.par ∧ y.kind = 1
theorem beqL_iff {a b : ByteArray} : Go.Eng.beqL a.data.toList b.data.toList = true ↔ a = b := by
  rw [Go.Eng.beqL_eq]
  constructor
  · intro h; exact Go.Eng.bytes_ext (by simpa using h)
  · rintro rfl; simp
theorem ieq_iff {a b : Int} : Go.Eng.ieq a b = true ↔ a = b := by
  rw [Go.Eng.ieq_eq]; simp
theorem findIt_some {L : List It} {y : ByteArray} {x : It} (h : findIt L y = some x) : ∃ i : Nat, L[i]? = some x ∧ x.id = y := by
  unfold findIt at h
  have h1 := List.mem_of_find?_eq_some h
  have h2 := List.find?_some h
  obtain ⟨i, hi, e⟩ := List.getElem_of_mem h1
  exact ⟨i, by rw [List.getElem?_eq_getElem hi, e], (beqL_iff.1 h2).symm⟩
theorem findIt_none {L : List It} {y : ByteArray} (h : findIt L y = none) : ∀ (i : Nat) (x : It), L[i]? = some x → x.id ≠ y := fun i x hx e => by
  unfold findIt at h
  rw [List.find?_eq_none] at h
  exact h x (List.mem_of_getElem? hx) (beqL_iff.2 e.symm)
theorem PL.find {L : List It} (h : PL L) {i : Nat} {x : It} (hx : L[i]? = some x) : findIt L x.id = some x := by
  cases e : findIt L x.id with
  | none => exact (findIt_none e i x hx rfl).elim
  | some y =>
    obtain ⟨j, h1, h2⟩ := findIt_some e
    have := h.ids i j x y hx h1 h2.symm
    subst this
    rw [hx] at h1; cases h1; rfl
theorem PL.snoc {out : List It} {x : It} (h : PL out) (hb : badB (findIt out x.id).isSome x (findIt out x.par).isSome ((findIt out x.par).getD itZ) = false) : PL (out ++ [x]) := by
  unfold badB at hb
  simp only [Bool.or_eq_false_iff] at hb
  obtain ⟨⟨h1, h2⟩, h3⟩ := hb
  have hid : findIt out x.id = none := by
    cases e : findIt out x.id with
    | none => rfl
    | some y => rw [e] at h1; cases h1
  have hget : ∀ (i : Nat) (y : It), (out ++ [x])[i]? = some y → out[i]? = some y ∨ (i = out.length ∧ y = x) := fun i y hy => by
    by_cases hi : i < out.length
    · rw [List.getElem?_append_left hi] at hy; exact .inl hy
    · rw [List.getElem?_append_right (by omega)] at hy
      have : i - out.length = 0 := by
        apply Classical.byContradiction; intro hne
        rw [List.getElem?_eq_none (by simp; omega)] at hy; cases hy
      rw [this] at hy
      cases hy
      exact .inr ⟨by omega, rfl⟩
  have hold : ∀ (j : Nat) (y : It), out[j]? = some y → (out ++ [x])[j]? = some y := fun j y hy => by
    rw [List.getElem?_append_left (List.getElem?_eq_some_iff.1 hy).1]; exact hy
  refine ⟨fun i j y z hy hz e => ?_, fun i y hy => ?_, fun i y hy => ?_⟩
  · rcases hget i y hy with hy1 | ⟨hi, hyx⟩
    · rcases hget j z hz with hz1 | ⟨hj, hzx⟩
      · exact h.ids i j y z hy1 hz1 e
      · rw [hzx] at e; exact (findIt_none hid i y hy1 e).elim
    · rcases hget j z hz with hz1 | ⟨hj, hzx⟩
      · rw [hyx] at e; exact (findIt_none hid j z hz1 e.symm).elim
      · omega
  · rcases hget i y hy with hy | ⟨rfl, rfl⟩
    · exact h.kinds i y hy
    · cases e1 : Go.Eng.ieq y.kind 1 with
      | true => exact .inl (ieq_iff.1 e1)
      | false =>
        cases e2 : Go.Eng.ieq y.kind 2 with
        | true => exact .inr (ieq_iff.1 e2)
        | false => rw [e1, e2] at h2; cases h2
  · rcases hget i y hy with hy | ⟨rfl, rfl⟩
    · rcases h.pars i y hy with h4 | ⟨j, z, h4, h5, h6⟩
      · exact .inl h4
      · exact .inr ⟨j, z, h4, hold j z h5, h6⟩
    · cases e1 : Go.Eng.beqL y.par.data.toList [] with
      | true => exact .inl (beqL_iff.1 e1)
      | false =>
        right
        rw [e1] at h3
        cases e2 : findIt out y.par with
        | none => rw [e2] at h3; cases h3
        | some z =>
          rw [e2] at h3
          obtain ⟨j, h4, h5⟩ := findIt_some e2
          refine ⟨j, z, (List.getElem?_eq_some_iff.1 h4).1, hold j z h4, h5, ?_⟩
          have h3 : (!Go.Eng.ieq z.kind 1) = false := h3
          rw [Bool.not_eq_false'] at h3
          exact ieq_iff.1 h3
theorem plainGo_pl : ∀ (l out : List It) (r : List It), plainGo out l = some r → PL out → PL (out ++ l)
  | [], out, r, _, h => by rw [List.append_nil]; exact h
  | x :: l, out, r, hg, h => by
    unfold plainGo at hg
    split at hg
    · cases hg
    · rename_i hb
      have := plainGo_pl l (out ++ [x]) r hg (h.snoc (by simpa using hb))
      rw [List.append_assoc] at this
      exact this
theorem PL.of {L : List It} (h : plainGo [] L ≠ none) : PL L := by
  cases e : plainGo [] L with
  | none => exact (h e).elim
  | some r => exact plainGo_pl L [] r e ⟨fun i j x y hx => by simp at hx, fun i x hx => by simp at hx, fun i x hx => by simp at hx⟩
inductive Chain (L : List It) : ByteArray → List ByteArray → Prop where
  | top : Chain L ⟨#[]⟩ [⟨#[]⟩]
  | up (d : ByteArray) (ds : List ByteArray) (i : Nat) (y : It) : d ≠ ⟨#[]⟩ → L[i]? = some y → y.id = d → y.kind = 1 → Chain L y.par ds → Chain L d (d :: ds)
theorem chain_ex {L : List It} (h : PL L) : ∀ (n : Nat) (d : ByteArray), (d = ⟨#[]⟩ ∨ ∃ (j : Nat) (y : It), j < n ∧ L[j]? = some y ∧ y.id = d ∧ y.kind = 1) → ∃ ds, Chain L d ds ∧ ds.length ≤ n + 1 := by
  intro n
  induction n with
  | zero =>
    rintro d (rfl | ⟨j, y, hj, _⟩)
    · exact ⟨_, .top, by simp⟩
    · omega
  | succ n ih =>
    intro d hd
    by_cases hd0 : d = ⟨#[]⟩
    · subst hd0; exact ⟨_, .top, by simp⟩
    · rcases hd with hd | ⟨j, y, hj, hy, hid, hk⟩
      · exact (hd0 hd).elim
      · have : y.par = ⟨#[]⟩ ∨ ∃ (j' : Nat) (y' : It), j' < n ∧ L[j']? = some y' ∧ y'.id = y.par ∧ y'.kind = 1 := by
          rcases h.pars j y hy with h1 | ⟨j', y', h1, h2⟩
          · exact .inl h1
          · exact .inr ⟨j', y', by omega, h2⟩
        obtain ⟨ds, h1, h2⟩ := ih y.par this
        exact ⟨d :: ds, .up d ds j y hd0 hy hid hk h1, by simp; omega⟩
theorem chain_of {L : List It} (h : PL L) {i : Nat} {x : It} (hx : L[i]? = some x) : ∃ ds, Chain L x.par ds ∧ ds.length ≤ L.length + 1 := by
  refine chain_ex h L.length x.par ?_
  rcases h.pars i x hx with h1 | ⟨j, y, h1, h2, h3⟩
  · exact .inl h1
  · exact .inr ⟨j, y, (List.getElem?_eq_some_iff.1 h2).1, h2, h3⟩
theorem it_get {c : List S61} {i : Nat} {x : It} (h : (c.map toIt)[i]? = some x) : ∃ y, c[i]? = some y ∧ x = toIt y := by
  rw [List.getElem?_map] at h
  cases e : c[i]? with
  | none => rw [e] at h; cases h
  | some y => rw [e] at h; cases h; exact ⟨y, rfl, rfl⟩
theorem it_mk {c : List S61} {i : Nat} {y : S61} (h : c[i]? = some y) : (c.map toIt)[i]? = some (toIt y) := by rw [List.getElem?_map, h]; rfl
theorem around_ev {c : List S61} (hc : c.length ≤ 1000) (h : PL (c.map toIt)) : ∀ (ds : List ByteArray) (d : ByteArray), Chain (c.map toIt) d ds → ∀ acc : List ByteArray, acc.length + ds.length ≤ 4000 → Evn (fun k => pandectref13_Around.l0 k d acc c) (acc ++ ds) := by
  intro ds d hch
  induction hch with
  | top =>
    intro acc hacc
    refine Evn.stop fun k => ?_
    simp only [pandectref13_Around.l0]
    have : (⟨#[]⟩ : ByteArray).toList = [] := by rw [ByteArray.toList_eq]
    simp at hacc
    rw [if_pos this, if_pos (by omega)]
  | up d ds i y hd hy hid hk _ ih =>
    intro acc hacc
    obtain ⟨z, hz, rfl⟩ := it_get hy
    have hit := item_ev (m := 1) (by omega) (by omega) hz hk (fun j w hj hw e => by
      have := h.ids j i _ _ (it_mk hw) (it_mk hz) e
      omega)
    have hil := (List.getElem?_eq_some_iff.1 hz).1
    have hne : ¬ d.toList = ([] : List UInt8) := fun e => hd (by
      refine Go.Eng.bytes_ext ?_
      rw [← ByteArray.toList_eq, e])
    have h1 := ih (acc ++ [d]) (by simp at hacc ⊢; omega)
    rw [List.append_assoc] at h1
    refine Evn.step (h := fun k => (pandectref13_Item.f k c 1 d).bind fun t => if 0 ≤ t then (if t < (c.length : Int) then (pandectref13_Around.l0 k ((rd_T61 c t).f2) (acc ++ [d]) c) else none) else none) (fun k => ?_) ?_
    · simp only [pandectref13_Around.l0]
      simp at hacc
      rw [if_neg hne, if_pos (by omega)]
    · have hid : z.f1 = d := hid
      rw [← hid]
      refine Evn.bind hit (Evn.congr (fun k => ?_) (by rw [hid]; exact h1))
      rw [if_pos (by omega), if_pos (by omega), rd61 hz, hid]
      rfl
end
end Go.Proofs.YtjmojapijbimbaaGreatDoor.Pa
