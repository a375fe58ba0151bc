/- A part of the proof of the law: Uni7, Uni8. Conditions: none. -/
import Derived.Below
import Derived.Test.YtjmojapijbimbaaGreatDoorQn08
set_option linter.unusedVariables false
set_option linter.unusedSimpArgs false
section
namespace Go.Eng
open Go.Proofs
noncomputable section
def goUp (par : ByteArray → ByteArray) (tm : ByteArray → List ByteArray) : Nat → ByteArray → Option (ByteArray × Int)
  | 0, _ => none
  | k + 1, d => match tm d with
    | _ :: _ :: _ => some (⟨#[]⟩, 9)
    | [x] => some (x, 0)
    | [] => if beqL d.data.toList [] then some (⟨#[]⟩, 7) else goUp par tm k (par d)
theorem bytes_ext {a b : ByteArray} (e : a.data.toList = b.data.toList) : a = b := by
  obtain ⟨⟨a⟩⟩ := a; obtain ⟨⟨b⟩⟩ := b; simp only at e; rw [e]
theorem goUp_fd {par : ByteArray → ByteArray} {tm : ByteArray → List ByteArray} {r : ByteArray} {x : Int} : ∀ (k : Nat) (d : ByteArray), goUp par tm k d = some (r, x) → Fd par tm k d r x
  | 0, d, h => by cases h
  | k + 1, d, h => by
    unfold goUp at h
    unfold Fd
    split at h
    · rename_i h1; rw [h1]; cases h; exact ⟨rfl, rfl⟩
    · rename_i h1; rw [h1]; cases h; exact ⟨rfl, rfl⟩
    · rename_i h1
      rw [h1]
      show if d = ⟨#[]⟩ then _ else _
      split at h
      · rename_i h2
        cases h
        have : d = ⟨#[]⟩ := bytes_ext (by rw [beqL_eq] at h2; simpa using h2)
        rw [if_pos this]; exact ⟨rfl, rfl⟩
      · rename_i h2
        have : d ≠ ⟨#[]⟩ := fun e => h2 (by rw [e]; rfl)
        rw [if_neg this]; exact goUp_fd k _ h
theorem goUp_mono {par : ByteArray → ByteArray} {tm : ByteArray → List ByteArray} {q : ByteArray × Int} : ∀ (k : Nat) (d : ByteArray) (m : Nat), k ≤ m → goUp par tm k d = some q → goUp par tm m d = some q
  | 0, d, m, _, h => by cases h
  | k + 1, d, m, hm, h => by
    obtain ⟨m, rfl⟩ : ∃ n, m = n + 1 := ⟨m - 1, by omega⟩
    unfold goUp at h ⊢
    split at h
    · exact h
    · exact h
    · split at h
      · rename_i h2; rw [if_pos h2]; exact h
      · rename_i h2; rw [if_neg h2]; exact goUp_mono k _ m (by omega) h
def findS (L : List It) (P : List Pv) (k : Nat) (a n : ByteArray) : Option (ByteArray × Int) :=
  if (plainGo [] L).isSome && fitsGo L [] P then (if ieq (kindOf L a) 2 then goUp (parOf L) (fun d => termsOf L P d n) k (parOf L a) else some (⟨#[]⟩, 11)) else some (⟨#[]⟩, 1)
theorem goodP_iff {L : List It} {P : List Pv} : goodP L P ↔ ((plainGo [] L).isSome && fitsGo L [] P) = true := by
  unfold goodP
  rw [Bool.and_eq_true]
  cases plainGo [] L <;> simp
theorem findS_mono {L : List It} {P : List Pv} {k m : Nat} {a n : ByteArray} {q : ByteArray × Int} (hm : k ≤ m) (h : findS L P k a n = some q) : findS L P m a n = some q := by
  unfold findS at h ⊢
  split at h
  · rename_i h1
    rw [if_pos h1]
    split at h
    · rename_i h2; rw [if_pos h2]; exact goUp_mono k _ m hm h
    · rename_i h2; rw [if_neg h2]; exact h
  · rename_i h1; rw [if_neg h1]; exact h
variable {N : Base} {s : St} {V VP : Value} {L : List It} {P : List Pv}
theorem OI.items {s0 s : St} {V : Value} {mi : Nat} {L : List It} {b2 : Nat} {pre : List Pv} {gs : List Gr} (h : OI s0 s V (some mi) L b2 pre gs) : ItemMap EG z61 s mi fun x => ((findIt L x).getD itZ).cells :=
  ⟨_, _, h.mi.2, fun x => look_entsF x L 0⟩
theorem OI.terms {s0 s : St} {V : Value} {rm : Option Nat} {L : List It} {b2 : Nat} {pre : List Pv} {gs : List Gr} (h : OI s0 s V rm L b2 pre gs) (hk : TK L pre gs) : TermMap EG s (b2 + 1) (termsOf L pre) :=
  ⟨_, _, h.ti.map, fun d n => by
    obtain ⟨e, h1, h2⟩ := find_entsG d n gs 0
    refine ⟨e, h1, ?_⟩
    have h3 := hk d n
    rcases h2 with ⟨h4, rfl⟩ | ⟨g, j, h4, rfl⟩
    · rw [h4] at h3
      left
      exact ⟨h3.symm, rfl⟩
    · rw [h4] at h3
      have h3 : g.ids = termsOf L pre d n := h3
      right
      obtain ⟨ex, hr⟩ := h.ti.row g (mem_findG h4).1
      refine ⟨g.b, 0, 0, _, _, _, _, ?_, hr, fun i x hx => ?_⟩
      · rw [← h3]; rfl
      · rw [← h3] at hx
        rw [Nat.zero_add, List.getElem?_map, hx]; rfl⟩
def FindR (s : St) (N : Base) (r : ByteArray) (er : Int) (v : Value) (s' : St) (N' : Base) : Prop := N' = N ∧ Grow s s' ∧ v = .tuple #[.string r, .int .i64 er]
theorem find13_calls {a2 a3 r : ByteArray} {er : Int} {k : Nat} (hV : IsItems N V L) (hP : IsPvs N VP P) (hn : s.n + 12 + 3 * L.length + 6 * P.length < 32768) (hs : findS L P k a2 a3 = some (r, er)) : ACalls EG N 13 [.agg ⟨[V]⟩, VP, .string a2, .string a3] s (FindR s N r er) := by
  have hV0 := hV
  have hP0 := hP
  obtain ⟨AV, cV, rfl, hxV⟩ := hV
  generalize hVV : lit (.slice AV L.length cV) = V at hV0
  have hVv : vcs V = some [V] := by rw [← hVV]; kernel_rfl
  clear hxV hP
  refine ACalls.of_body eok2G (F := Tryz.f13) (by kernel_rfl) rfl (by simp [Tryz.f13]) (by decide) ?_
  refine AW.seq (AW.region eokG ?_)
  refine aop_valX rfl (e_box (E := EG) (t := 24) (l := [V]) (by kernel_rfl) (by omega)) fun s1 N1 => ?_
  have N1n := N1.n
  refine aop_val rfl (v := .string ⟨#[]⟩) (s1 := s1) (by kernel_rfl) ?_
  refine aop_val rfl (v := .int .i64 0) (s1 := s1) (by kernel_rfl) ?_
  have G1 : Grow s s1 := (Grow.refl s).new N1
  refine AW.keep [(1, VP), (2, .string a2), (3, .string a3), (4, .pointer (some ⟨s.n, 0, none⟩))] ⟨⟨rfl, by kernel_rfl⟩, ⟨rfl, by kernel_rfl⟩, ⟨rfl, by kernel_rfl⟩, ⟨rfl, by kernel_rfl⟩, trivial⟩ ?_
  refine AW.seq (AW.region eokG ?_)
  refine aop_val rfl (v := .agg ⟨[V]⟩) (s1 := s1) (e_loadN (n := 1) (b := s.n) (off := 0) (by kernel_rfl) N1.new (by kernel_rfl) (by kernel_rfl) (by kernel_rfl)) ?_
  refine aop_val rfl (v := VP) (s1 := s1) (by kernel_rfl) ?_
  refine aop_call rfl (g := 42) (args := [.agg ⟨[V]⟩, VP]) (s1 := s1) (by kernel_rfl) (open_calls hV0 hP0 (by omega)) ?_
  rintro v s2 N2 _ ⟨hN2, G2, hn2, hcase⟩
  have hN2 := hN2.symm
  subst hN2
  have GA : Grow s s2 := ⟨Nat.le_trans G1.le G2.le, fun b hb h8 => (G2.keep b (by omega) h8).trans (G1.keep b hb h8)⟩
  unfold findS at hs
  rcases hcase with ⟨hbad, x, rfl⟩ | ⟨hgood, mi, b2, gs, rfl, hOI, hTK⟩
  · rw [if_neg (fun h => hbad (goodP_iff.2 h))] at hs
    cases hs
    refine aop_val rfl (v := .tuple ⟨[x, .bool false]⟩) (s1 := s2) (by kernel_rfl) ?_
    refine aop_val rfl (v := x) (s1 := s2) (by kernel_rfl) ?_
    refine aop_val rfl (v := .bool false) (s1 := s2) (by kernel_rfl) ?_
    refine aop_val rfl (v := x) (s1 := s2) (by kernel_rfl) ?_
    refine aop_val rfl (v := .bool false) (s1 := s2) (by kernel_rfl) ?_
    refine AW.keep [(2, .string a2), (3, .string a3), (10, x), (11, .bool false)] ⟨⟨rfl, by kernel_rfl⟩, ⟨rfl, by kernel_rfl⟩, ⟨rfl, by kernel_rfl⟩, ⟨rfl, by kernel_rfl⟩, trivial⟩ ?_
    refine AW.seq (AW.seq (AW.region eokG ?_))
    refine aop_val rfl (v := .bool false) (s1 := s2) (by kernel_rfl) ?_
    refine aop_val rfl (v := .bool true) (s1 := s2) (by kernel_rfl) ?_
    refine AW.keep [(2, .string a2), (3, .string a3), (10, x), (19, .bool true)] ⟨⟨rfl, by kernel_rfl⟩, ⟨rfl, by kernel_rfl⟩, ⟨rfl, by kernel_rfl⟩, ⟨rfl, by kernel_rfl⟩, trivial⟩ ?_
    refine AW.cond (t := true) (by kernel_rfl) (AW.seq (AW.region eokG ?_))
    refine aop_val rfl (v := .string ⟨#[]⟩) (s1 := s2) (by kernel_rfl) ?_
    refine aop_val rfl (v := .int .i64 1) (s1 := s2) (by kernel_rfl) ?_
    refine AW.ret ?_
    exact ⟨.inr rfl, rfl, .tuple #[.string ⟨#[]⟩, .int .i64 1], by kernel_rfl, rfl, GA, rfl⟩
  · rw [if_pos (goodP_iff.1 hgood)] at hs
    refine aop_val rfl (v := .tuple ⟨[.pointer (some ⟨b2 + 2, 0, none⟩), .bool true]⟩) (s1 := s2) (by kernel_rfl) ?_
    refine aop_val rfl (v := .pointer (some ⟨b2 + 2, 0, none⟩)) (s1 := s2) (by kernel_rfl) ?_
    refine aop_val rfl (v := .bool true) (s1 := s2) (by kernel_rfl) ?_
    refine aop_val rfl (v := .pointer (some ⟨b2 + 2, 0, none⟩)) (s1 := s2) (by kernel_rfl) ?_
    refine aop_val rfl (v := .bool true) (s1 := s2) (by kernel_rfl) ?_
    refine AW.keep [(2, .string a2), (3, .string a3), (10, .pointer (some ⟨b2 + 2, 0, none⟩)), (11, .bool true)] ⟨⟨rfl, by kernel_rfl⟩, ⟨rfl, by kernel_rfl⟩, ⟨rfl, by kernel_rfl⟩, ⟨rfl, by kernel_rfl⟩, trivial⟩ ?_
    refine AW.seq (AW.seq (AW.region eokG ?_))
    refine aop_val rfl (v := .bool true) (s1 := s2) (by kernel_rfl) ?_
    refine aop_val rfl (v := .bool false) (s1 := s2) (by kernel_rfl) ?_
    refine AW.keep [(2, .string a2), (3, .string a3), (10, .pointer (some ⟨b2 + 2, 0, none⟩)), (19, .bool false)] ⟨⟨rfl, by kernel_rfl⟩, ⟨rfl, by kernel_rfl⟩, ⟨rfl, by kernel_rfl⟩, ⟨rfl, by kernel_rfl⟩, trivial⟩ ?_
    refine AW.cond (t := false) (by kernel_rfl) (AW.skip ?_)
    refine AW.seq (AW.seq (AW.region eokG ?_))
    refine aop_val rfl (v := .pointer (some ⟨b2 + 2, 0, none⟩)) (s1 := s2) (by kernel_rfl) ?_
    refine aop_val rfl (v := .pointer (some ⟨b2 + 2, 0, none⟩)) (s1 := s2) (by kernel_rfl) ?_
    refine aop_val rfl (v := .pointer (some ⟨b2 + 2, 0, none⟩)) (s1 := s2) (by kernel_rfl) ?_
    refine aop_val rfl (v := .map (some mi)) (s1 := s2) (e_load1 (b := b2 + 2) (off := 0) (by kernel_rfl) hOI.sc (by kernel_rfl) rfl) ?_
    refine aop_val rfl (v := .string a2) (s1 := s2) (by kernel_rfl) ?_
    generalize hx0 : (findIt L a2).getD itZ = x
    refine aop_val rfl (v := .agg ⟨x.cells⟩) (s1 := s2) (by rw [← hx0]; exact e_lookI hOI.mi (by kernel_rfl) (by kernel_rfl)) ?_
    refine aop_val rfl (v := .int .i64 x.kind) (s1 := s2) (by kernel_rfl) ?_
    refine aop_val rfl (v := .bool (!ieq x.kind 2)) (s1 := s2) (by kernel_rfl) ?_
    have hkx : kindOf L a2 = x.kind := by rw [← hx0]; rfl
    rw [hkx] at hs
    generalize hkd : ieq x.kind 2 = kd at hs ⊢
    refine AW.keep [(2, .string a2), (3, .string a3), (10, .pointer (some ⟨b2 + 2, 0, none⟩)), (27, .bool !kd)] ⟨⟨rfl, by kernel_rfl⟩, ⟨rfl, by kernel_rfl⟩, ⟨rfl, by kernel_rfl⟩, ⟨rfl, by kernel_rfl⟩, trivial⟩ ?_
    cases kd with
    | false =>
      rw [if_neg (by simp)] at hs
      cases hs
      refine AW.cond (t := true) (by kernel_rfl) (AW.seq (AW.region eokG ?_))
      refine aop_val rfl (v := .string ⟨#[]⟩) (s1 := s2) (by kernel_rfl) ?_
      refine aop_val rfl (v := .int .i64 11) (s1 := s2) (by kernel_rfl) ?_
      refine AW.ret ?_
      exact ⟨.inr rfl, rfl, .tuple #[.string ⟨#[]⟩, .int .i64 11], by kernel_rfl, rfl, GA, rfl⟩
    | true =>
      rw [if_pos rfl] at hs
      refine AW.cond (t := false) (by kernel_rfl) (AW.skip ?_)
      refine AW.seq (AW.region eokG ?_)
      refine aop_val rfl (v := .pointer (some ⟨b2 + 2, 0, none⟩)) (s1 := s2) (by kernel_rfl) ?_
      refine aop_val rfl (v := .string a2) (s1 := s2) (by kernel_rfl) ?_
      refine aop_val rfl (v := .string a3) (s1 := s2) (by kernel_rfl) ?_
      refine aop_call rfl (g := 43) (args := [.pointer (some ⟨b2 + 2, 0, none⟩), .string a2, .string a3]) (s1 := s2) (by kernel_rfl) (find_calls (parent := parOf L) (terms := termsOf L P) hOI.sc hOI.items (fun x => by unfold parOf; rfl) (hOI.terms hTK) (goUp_fd k _ hs)) ?_
      rintro v s3 N3 _ ⟨rfl, hs3, hN3⟩
      have hs3 := hs3.symm
      subst hs3
      have hN3 := hN3.symm
      subst hN3
      refine aop_val rfl (v := .string r) (s1 := s2) (by kernel_rfl) ?_
      refine aop_val rfl (v := .int .i64 er) (s1 := s2) (by kernel_rfl) ?_
      refine aop_val rfl (v := .string r) (s1 := s2) (by kernel_rfl) ?_
      refine aop_val rfl (v := .int .i64 er) (s1 := s2) (by kernel_rfl) ?_
      refine AW.ret ?_
      exact ⟨.inr rfl, rfl, .tuple #[.string r, .int .i64 er], by kernel_rfl, rfl, GA, rfl⟩
end
end Go.Eng
end
section
namespace Go.Eng
open Go.Proofs Go.RowKit
noncomputable section
def allN (w : World) : Base := fun c => w.heap[c]?
theorem cellN_of {w : World} {a : Addr} {v : Value} (h : w.cell? a = some v) : CellN (allN w) a v := fun w1 hw => by
  cases e : w.heap[a.block]? with
  | none => unfold World.cell? at h; rw [e] at h; cases h
  | some o =>
    have := hw a.block o e
    rw [← h]
    unfold World.cell?
    rw [this, e]
theorem calls_of_acalls {g : FuncId} {args args' : List Value} {R : Value → St → Base → Prop} {w : World} (hA : ACalls EG (allN w) g args ⟨hp0, 0⟩ R) (hr : ∀ φ, RVs φ args args') :
    Calls Tryz.prog g ⟨args'⟩ w fun e w' => ∃ φ v v' s' N', R v s' N' ∧ e = .returned v' ∧ RV φ v v' ∧ RW EG N' φ s' w' ∧ Below w.heap.size w w' := by
  let φ0 : Rn := ⟨fun _ => none, fun _ => 0, fun _ => 0⟩
  have hno : ∀ b o, (⟨hp0, 0⟩ : St).at b = some o → False := fun b o h => by
    have h : Hp.get hp0 b = some o := h
    rw [hp0_get] at h; cases h
  have hw : RW EG (allN w) φ0 ⟨hp0, 0⟩ w := ⟨trivial, Nat.le_refl _, (fun b p h => by cases h), fun b o _ h => (hno b o h).elim, fun b o _ h => (hno b o h).elim, fun b b' o o' c z z' _ _ h => (hno b o h).elim,
    fun b o c z _ h => (hno b o h).elim, (fun b c z h => by cases h), fun _ _ h => h, trivial⟩
  obtain ⟨_, hc⟩ := hA rfl φ0 w args' hw (fun b p h => by cases h) (hr φ0)
  intro cs
  obtain ⟨N1, φ', w', fr, v, s', _, hR, hst, hrw, hs, hk, hfn, l1, l2, fn, v', l3, l4, l5⟩ := hc cs
  exact ⟨.returned v', w', fr, ⟨φ', v, v', s', N1, hR, rfl, l5, hrw, hst.os, hst.tape, hst.output, hst.size, fun c hc => hst.keep c hc fun ho => by
    obtain ⟨b, o, z, _, _, h3, _⟩ := ho
    exact hno b o h3⟩, hs, hfn, l1, l2, hk, fn, l3, l4⟩
end
end Go.Eng
end
