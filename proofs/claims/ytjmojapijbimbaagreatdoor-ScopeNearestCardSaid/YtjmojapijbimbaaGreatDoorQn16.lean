/- A part of the proof of the law: PaQ. Conditions: none. -/
import Derived.Test.YtjmojapijbimbaaGreatDoorQn14
import Derived.Test.YtjmojapijbimbaaGreatDoorQn15
set_option linter.unusedVariables false
set_option linter.unusedSimpArgs false
namespace Go.Proofs.YtjmojapijbimbaaGreatDoor.Pa
open Go.RowKit Go.Proofs.YtjmojapijbimbaaGreatDoorW.PrintWords Go.Proofs.YtjmojapijbimbaaGreatDoorW.PrintLast Go.Proofs.YtjmojapijbimbaaGreatDoorW.PrintMore
open Go.Eng (It Pv findIt itZ plainGo badB parOf kindOf fitsGo findPv termsOf isDef goUp findS goodP)
noncomputable section
def Fit (c : List S61) (l : List S59) : Prop := ∀ (i : Nat) (p : S59), l[i]? = some p → ∃ (m : Nat) (y : S61), c[m]? = some y ∧ y.f1 = p.f0
theorem fits_ex {L : List It} : ∀ (P pre : List Pv), fitsGo L pre P = true → ∀ p ∈ P, kindOf L p.id = 2
  | [], _, _, _, hp => by cases hp
  | q :: P, pre, h, p, hp => by
    unfold fitsGo at h
    split at h
    · cases h
    · rename_i hc
      rcases List.mem_cons.1 hp with rfl | hp
      · have : Go.Eng.ieq (kindOf L p.id) 2 = true := by
          cases e : Go.Eng.ieq (kindOf L p.id) 2 with
          | true => rfl
          | false => rw [e] at hc; simp at hc
        exact ieq_iff.1 this
      · exact fits_ex P _ h p hp
theorem kindOf_ne {L : List It} {y : ByteArray} (h : kindOf L y = 2) : ∃ x, findIt L y = some x ∧ x.kind = 2 := by
  unfold kindOf at h
  cases e : findIt L y with
  | none => rw [e] at h; cases h
  | some x => rw [e] at h; exact ⟨x, rfl, h⟩
theorem fit_of {c : List S61} {l : List S59} (h : fitsGo (c.map toIt) [] (l.map toPv) = true) : Fit c l := fun i p hp => by
  have hm : toPv p ∈ l.map toPv := List.mem_map_of_mem (List.mem_of_getElem? hp)
  obtain ⟨x, h1, _⟩ := kindOf_ne (fits_ex _ _ h _ hm)
  obtain ⟨m, h2, h3⟩ := findIt_some h1
  obtain ⟨y, h4, rfl⟩ := it_get h2
  exact ⟨m, y, h4, h3⟩
section
variable {c : List S61} {l : List S59} {nm id : ByteArray} {er : Int} {ar : List ByteArray}
theorem l2_ev (hc : c.length ≤ 1000) (hl : l.length ≤ 1000) (hpl : PL (c.map toIt)) {pi : Nat} (hpi : pi < ar.length) (hpi2 : ar.length ≤ 4000) {d : ByteArray} (hd : ar[pi]? = some d) {i : Nat} {p : S59} (hp : l[i]? = some p)
    {m0 : Nat} {y0 : S61} (hy0 : c[m0]? = some y0) (hid : y0.f1 = p.f0) (n : Nat) (hn : n + 1000 ≤ 1000000) {r : Bool} (he : er = 0 → y0.f2 = d → p.f0 = id)
    (k1 : Evn (fun k => pandectlaw13_ScopeNearest.l1 k l nm true id er ar (pi : Int) ((n + if y0.f2 = d then 1 else 0 : Nat) : Int) ((i + 1 : Nat) : Int) c) r) :
    Evn (fun k => pandectlaw13_ScopeNearest.l2 k l nm true id er ar (pi : Int) (n : Int) (i : Int) 0 c) r := by
  have hil := (List.getElem?_eq_some_iff.1 hp).1
  have hm0 := (List.getElem?_eq_some_iff.1 hy0).1
  have hrd : rdOf ByteArray.empty ar (pi : Int) = d := by
    unfold rdOf
    rw [Int.toNat_natCast, List.getD_eq_getElem?_getD, hd]; rfl
  -- behind the article's item
  have tail : ∀ (q m : Nat) (n' : Nat), m + q = c.length → m0 < m → Evn (fun k => pandectlaw13_ScopeNearest.l1 k l nm true id er ar (pi : Int) (n' : Int) ((i + 1 : Nat) : Int) c) r → Evn (fun k => pandectlaw13_ScopeNearest.l2 k l nm true id er ar (pi : Int) (n' : Int) (i : Int) (m : Int) c) r := by
    intro q
    induction q with
    | zero =>
      intro m n' hm _ hk
      refine Evn.step (fun k => ?_) hk
      simp only [pandectlaw13_ScopeNearest.l2]
      rw [if_neg (by omega), wrap_nat (by omega)]
    | succ q ih =>
      intro m n' hm hmm hk
      have hmc : m < c.length := by omega
      have hx : c[m]? = some c[m] := List.getElem?_eq_getElem hmc
      have hne : ¬ (c[m].f1).toList = p.f0.toList := fun e => by
        have e1 := bytes_toList e
        have := hpl.ids m m0 _ _ (it_mk hx) (it_mk hy0) (e1.trans hid.symm)
        omega
      refine Evn.step (h := fun k => pandectlaw13_ScopeNearest.j6 k l nm true id er ar (pi : Int) (n' : Int) (i : Int) (m : Int) false c) (fun k => ?_) (Evn.step (fun k => ?_) (ih (m + 1) n' (by omega) (by omega) hk))
      · simp only [pandectlaw13_ScopeNearest.l2]
        rw [if_pos (by omega), if_pos (by omega), if_pos (by omega), if_pos (by omega), rd61 hx, rd59 hp, if_neg hne]
      · simp only [pandectlaw13_ScopeNearest.j6]
        rw [if_neg (by simp), wrap_nat (by omega)]
  have front : ∀ (q m : Nat), m + q = m0 → Evn (fun k => pandectlaw13_ScopeNearest.l2 k l nm true id er ar (pi : Int) (n : Int) (i : Int) (m : Int) c) r := by
    intro q
    induction q with
    | zero =>
      intro m hm
      have : m = m0 := by omega
      subst this
      refine Evn.step (h := fun k => pandectlaw13_ScopeNearest.j6 k l nm true id er ar (pi : Int) (n : Int) (i : Int) (m : Int) (y0.f2.toList == d.toList) c) (fun k => ?_) ?_
      · simp only [pandectlaw13_ScopeNearest.l2]
        rw [if_pos (by omega), if_pos (by omega), if_pos (by omega), if_pos (by omega), rd61 hy0, rd59 hp, if_pos (by rw [hid]), if_pos (by omega), if_pos (by omega), hrd]
      · by_cases hyd : y0.f2 = d
        · rw [if_pos hyd] at k1
          have ht := tail (c.length - (m + 1)) (m + 1) (n + 1) (by omega) (by omega) k1
          have hb : (y0.f2.toList == d.toList) = true := by rw [hyd]; simp
          have hw : wrap64 ((n : Int) + 1) = ((n + 1 : Nat) : Int) := wrap_nat (by omega)
          refine Evn.step (fun k => ?_) ht
          simp only [pandectlaw13_ScopeNearest.j6]
          rw [if_pos hb, hw, wrap_nat (by omega)]
          by_cases h0 : er = 0
          · rw [if_pos h0, if_pos (by omega), if_pos (by omega), rd59 hp, if_pos (by rw [he h0 hyd])]
          · rw [if_neg h0]
        · rw [if_neg hyd] at k1
          have ht := tail (c.length - (m + 1)) (m + 1) n (by omega) (by omega) k1
          have hb : ¬ (y0.f2.toList == d.toList) = true := fun e => hyd (bytes_toList (by simpa using e))
          refine Evn.step (fun k => ?_) ht
          simp only [pandectlaw13_ScopeNearest.j6]
          rw [if_neg hb, wrap_nat (by omega)]
    | succ q ih =>
      intro m hm
      have hmc : m < c.length := by omega
      have hx : c[m]? = some c[m] := List.getElem?_eq_getElem hmc
      have hne : ¬ (c[m].f1).toList = p.f0.toList := fun e => by
        have e1 := bytes_toList e
        have := hpl.ids m m0 _ _ (it_mk hx) (it_mk hy0) (e1.trans hid.symm)
        omega
      refine Evn.step (h := fun k => pandectlaw13_ScopeNearest.j6 k l nm true id er ar (pi : Int) (n : Int) (i : Int) (m : Int) false c) (fun k => ?_) (Evn.step (fun k => ?_) (ih (m + 1) (by omega)))
      · simp only [pandectlaw13_ScopeNearest.l2]
        rw [if_pos (by omega), if_pos (by omega), if_pos (by omega), if_pos (by omega), rd61 hx, rd59 hp, if_neg hne]
      · simp only [pandectlaw13_ScopeNearest.j6]
        rw [if_neg (by simp), wrap_nat (by omega)]
  exact front m0 0 (by omega)
def defsFrom (c : List S61) (l : List S59) (d nm : ByteArray) (i : Nat) : List ByteArray := termsOf (c.map toIt) ((l.drop i).map toPv) d nm
theorem defs_step {d : ByteArray} {i : Nat} {p : S59} (hp : l[i]? = some p) : defsFrom c l d nm i = (if isDef (c.map toIt) d nm (toPv p) then [p.f0] else []) ++ defsFrom c l d nm (i + 1) := by
  have hlt := (List.getElem?_eq_some_iff.1 hp).1
  have hd : l.drop i = p :: l.drop (i + 1) := by
    rw [List.drop_eq_getElem_cons hlt]
    rw [List.getElem?_eq_getElem hlt] at hp
    cases hp; rfl
  unfold defsFrom termsOf
  rw [hd, List.map_cons, List.filter_cons]
  cases isDef (c.map toIt) d nm (toPv p) <;> rfl
theorem l1_ev (hc : c.length ≤ 1000) (hl : l.length ≤ 1000) (hpl : PL (c.map toIt)) (hfit : Fit c l) {pi : Nat} (hpi : pi < ar.length) (hpi2 : ar.length ≤ 4000) {d : ByteArray} (hd : ar[pi]? = some d) {r : Bool} (he : er = 0 → ∀ x ∈ defsFrom c l d nm 0, x = id)
    (k1 : Evn (fun k => if ((defsFrom c l d nm 0).length : Int) > 0 then (if ((defsFrom c l d nm 0).length : Int) = 1 then (if er = 0 then (some true) else (if ((defsFrom c l d nm 0).length : Int) > 1 then (if er = 9 then (some (id.toList == ([] : List UInt8))) else (some false)) else (some false))) else (if ((defsFrom c l d nm 0).length : Int) > 1 then (if er = 9 then (some (id.toList == ([] : List UInt8))) else (some false)) else (some false))) else (pandectlaw13_ScopeNearest.l0 k l nm true id er ar ((pi + 1 : Nat) : Int) c)) r) :
    Evn (fun k => pandectlaw13_ScopeNearest.l1 k l nm true id er ar (pi : Int) 0 0 c) r := by
  have loop : ∀ (q i n : Nat), i + q = l.length → n + (defsFrom c l d nm i).length = (defsFrom c l d nm 0).length → (∀ x ∈ defsFrom c l d nm i, x ∈ defsFrom c l d nm 0) → n ≤ i → Evn (fun k => pandectlaw13_ScopeNearest.l1 k l nm true id er ar (pi : Int) (n : Int) (i : Int) c) r := by
    intro q
    induction q with
    | zero =>
      intro i n hi hn _ _
      have h0 : defsFrom c l d nm i = [] := by
        unfold defsFrom
        rw [List.drop_eq_nil_of_le (by omega)]; rfl
      rw [h0] at hn
      have hn : n = (defsFrom c l d nm 0).length := hn
      refine Evn.step (fun k => ?_) k1
      simp only [pandectlaw13_ScopeNearest.l1]
      rw [if_neg (by omega), ← hn, wrap_nat (by omega)]
      simp only [if_true]
    | succ q ih =>
      intro i n hi hn hsub hni
      have hil : i < l.length := by omega
      have hp : l[i]? = some l[i] := List.getElem?_eq_getElem hil
      generalize l[i] = p at hp
      have hds := defs_step (c := c) (l := l) (nm := nm) (d := d) hp
      have hsub' : ∀ x ∈ defsFrom c l d nm (i + 1), x ∈ defsFrom c l d nm 0 := fun x hx => hsub x (by rw [hds]; exact List.mem_append_right _ hx)
      have hw : wrap64 ((i : Int) + 1) = ((i + 1 : Nat) : Int) := wrap_nat (by omega)
      -- the provision is skipped
      have skip : isDef (c.map toIt) d nm (toPv p) = false → Evn (fun k => pandectlaw13_ScopeNearest.l1 k l nm true id er ar (pi : Int) (n : Int) ((i + 1 : Nat) : Int) c) r := fun hdf => by
        rw [hds, hdf] at hn
        exact ih (i + 1) n (by omega) (by simpa using hn) hsub' (by omega)
      by_cases hk : p.f2 = 1
      · by_cases hnm : p.f3 = nm
        · obtain ⟨m0, y0, hy0, hid⟩ := hfit i p hp
          have hpar : parOf (c.map toIt) p.f0 = y0.f2 := by
            unfold parOf
            have := hpl.find (it_mk hy0)
            have e : (toIt y0).id = p.f0 := hid
            rw [e] at this
            rw [this]; rfl
          have hdef : isDef (c.map toIt) d nm (toPv p) = true ↔ y0.f2 = d := by
            unfold isDef
            show (Go.Eng.ieq p.f2 1 && (Go.Eng.beqL d.data.toList (parOf (c.map toIt) p.f0).data.toList && Go.Eng.beqL nm.data.toList p.f3.data.toList)) = true ↔ _
            rw [Bool.and_eq_true, Bool.and_eq_true, beqL_iff, beqL_iff, ieq_iff, hpar]
            exact ⟨fun h => h.2.1.symm, fun h => ⟨hk, h.symm, hnm.symm⟩⟩
          have hnext : Evn (fun k => pandectlaw13_ScopeNearest.l1 k l nm true id er ar (pi : Int) ((n + if y0.f2 = d then 1 else 0 : Nat) : Int) ((i + 1 : Nat) : Int) c) r := by
            by_cases hyd : y0.f2 = d
            · rw [if_pos hyd]
              rw [hds, if_pos (hdef.2 hyd)] at hn
              exact ih (i + 1) (n + 1) (by omega) (by simp at hn; omega) hsub' (by omega)
            · rw [if_neg hyd]
              have : isDef (c.map toIt) d nm (toPv p) = false := by
                cases e : isDef (c.map toIt) d nm (toPv p) with
                | false => rfl
                | true => exact (hyd (hdef.1 e)).elim
              exact skip this
          have h2 := l2_ev (nm := nm) (id := id) (er := er) hc hl hpl hpi hpi2 hd hp hy0 hid n (by omega) (fun h0 hyd => by
            refine he h0 p.f0 (hsub p.f0 ?_)
            rw [hds, if_pos (hdef.2 hyd)]
            exact List.mem_cons_self) hnext
          refine Evn.step (h := fun k => pandectlaw13_ScopeNearest.j4 k l nm true id er ar (pi : Int) (n : Int) (i : Int) (p.f3.toList != nm.toList) c) (fun k => ?_) (Evn.step (fun k => ?_) h2)
          · simp only [pandectlaw13_ScopeNearest.l1]
            rw [if_pos (by omega), if_pos (by omega), rd59 hp, if_pos hk]
          · simp only [pandectlaw13_ScopeNearest.j4]
            rw [if_neg (by rw [hnm]; simp)]
        · have hs := skip (by
            unfold isDef
            show (Go.Eng.ieq p.f2 1 && (Go.Eng.beqL d.data.toList (parOf (c.map toIt) p.f0).data.toList && Go.Eng.beqL nm.data.toList p.f3.data.toList)) = false
            have : Go.Eng.beqL nm.data.toList p.f3.data.toList = false := by
              cases e : Go.Eng.beqL nm.data.toList p.f3.data.toList with
              | false => rfl
              | true => exact (hnm (beqL_iff.1 e).symm).elim
            rw [this]; simp)
          refine Evn.step (h := fun k => pandectlaw13_ScopeNearest.j4 k l nm true id er ar (pi : Int) (n : Int) (i : Int) (p.f3.toList != nm.toList) c) (fun k => ?_) (Evn.step (fun k => ?_) hs)
          · simp only [pandectlaw13_ScopeNearest.l1]
            rw [if_pos (by omega), if_pos (by omega), rd59 hp, if_pos hk]
          · simp only [pandectlaw13_ScopeNearest.j4]
            rw [if_pos (by
              have : p.f3.toList ≠ nm.toList := fun e => hnm (bytes_toList e)
              simpa using this), hw]
      · have hs := skip (by
          unfold isDef
          show (Go.Eng.ieq p.f2 1 && _) = false
          have : Go.Eng.ieq p.f2 1 = false := by
            cases e : Go.Eng.ieq p.f2 1 with
            | false => rfl
            | true => exact (hk (ieq_iff.1 e)).elim
          rw [this]; rfl)
        refine Evn.step (h := fun k => pandectlaw13_ScopeNearest.j4 k l nm true id er ar (pi : Int) (n : Int) (i : Int) true c) (fun k => ?_) (Evn.step (fun k => ?_) hs)
        · simp only [pandectlaw13_ScopeNearest.l1]
          rw [if_pos (by omega), if_pos (by omega), rd59 hp, if_neg hk]
        · simp only [pandectlaw13_ScopeNearest.j4]
          rw [if_pos trivial, hw]
  exact loop l.length 0 0 (by omega) (by omega) (fun x hx => hx) (by omega)
theorem two_len (x y : ByteArray) (z : List ByteArray) : ((x :: y :: z).length : Int) > 1 := by simp; omega
theorem empty_toList : (⟨#[]⟩ : ByteArray).toList = [] := by rw [ByteArray.toList_eq]
theorem up_ev (hc : c.length ≤ 1000) (hl : l.length ≤ 1000) (hpl : PL (c.map toIt)) (hfit : Fit c l) : ∀ (ds : List ByteArray) (d : ByteArray), Chain (c.map toIt) d ds → ∀ (pre : List ByteArray) (k0 : Nat), pre.length + ds.length ≤ 4000 →
    goUp (parOf (c.map toIt)) (fun d => termsOf (c.map toIt) (l.map toPv) d nm) k0 d = some (id, er) → Evn (fun k => pandectlaw13_ScopeNearest.l0 k l nm true id er (pre ++ ds) (pre.length : Int) c) true := by
  intro ds d hch
  induction hch with
  | top =>
    intro pre k0 hlen hgo
    have hdef0 : defsFrom c l ⟨#[]⟩ nm 0 = termsOf (c.map toIt) (l.map toPv) ⟨#[]⟩ nm := by unfold defsFrom; rw [List.drop_zero]
    obtain ⟨k0, rfl⟩ : ∃ m, k0 = m + 1 := by
      cases k0 with
      | zero => cases hgo
      | succ m => exact ⟨m, rfl⟩
    unfold goUp at hgo
    have hget : (pre ++ [(⟨#[]⟩ : ByteArray)])[pre.length]? = some ⟨#[]⟩ := by simp
    have hstep : ∀ k, pandectlaw13_ScopeNearest.l0 (k + 1) l nm true id er (pre ++ [⟨#[]⟩]) (pre.length : Int) c = pandectlaw13_ScopeNearest.l1 k l nm true id er (pre ++ [⟨#[]⟩]) (pre.length : Int) 0 0 c := fun k => by
      simp only [pandectlaw13_ScopeNearest.l0]
      rw [if_pos (by simp; omega)]
    rw [List.length_singleton] at hlen
    have hlen2 : (pre ++ [(⟨#[]⟩ : ByteArray)]).length ≤ 4000 := by simp; omega
    have hlt : pre.length < (pre ++ [(⟨#[]⟩ : ByteArray)]).length := by simp
    refine Evn.step hstep (l1_ev hc hl hpl hfit hlt hlen2 hget ?_ ?_)
    · intro h0 x hx
      rw [hdef0] at hx
      split at hgo
      · cases hgo; cases h0
      · rename_i y hy
        rw [hy] at hx
        cases hgo
        simpa using hx
      · split at hgo
        · cases hgo; cases h0
        · rename_i h1; exact (h1 rfl).elim
    · rw [hdef0]
      split at hgo
      · rename_i x y z hy
        cases hgo
        rw [hy]
        refine Evn.const fun k => ?_
        have e2 := two_len x y z
        rw [if_pos (by omega), if_neg (by omega), if_pos (by omega), if_pos rfl, empty_toList]
        rfl
      · rename_i y hy
        cases hgo
        rw [hy]
        exact Evn.const fun k => by simp
      · rename_i hy
        rw [hy]
        split at hgo
        · cases hgo
          refine Evn.stop fun k => ?_
          simp only [pandectlaw13_ScopeNearest.l0]
          simp [ByteArray.toList_eq]
        · rename_i h1; exact (h1 rfl).elim
  | up d ds i y hd hy hid hk hch ih =>
    intro pre k0 hlen hgo
    have hdef0 : defsFrom c l d nm 0 = termsOf (c.map toIt) (l.map toPv) d nm := by unfold defsFrom; rw [List.drop_zero]
    obtain ⟨k0, rfl⟩ : ∃ m, k0 = m + 1 := by
      cases k0 with
      | zero => cases hgo
      | succ m => exact ⟨m, rfl⟩
    unfold goUp at hgo
    have hget : (pre ++ d :: ds)[pre.length]? = some d := by simp
    have hlt : pre.length < (pre ++ d :: ds).length := by simp
    have hlen2 : (pre ++ d :: ds).length ≤ 4000 := by simp at hlen ⊢; omega
    have hstep : ∀ k, pandectlaw13_ScopeNearest.l0 (k + 1) l nm true id er (pre ++ d :: ds) (pre.length : Int) c = pandectlaw13_ScopeNearest.l1 k l nm true id er (pre ++ d :: ds) (pre.length : Int) 0 0 c := fun k => by
      simp only [pandectlaw13_ScopeNearest.l0]
      rw [if_pos (by omega)]
    have hdne : ¬ Go.Eng.beqL d.data.toList [] = true := fun e => hd (by
      have : Go.Eng.beqL d.data.toList (⟨#[]⟩ : ByteArray).data.toList = true := e
      exact beqL_iff.1 this)
    refine Evn.step hstep (l1_ev hc hl hpl hfit hlt hlen2 hget ?_ ?_)
    · intro h0 x hx
      rw [hdef0] at hx
      split at hgo
      · cases hgo; cases h0
      · rename_i z hz
        rw [hz] at hx
        cases hgo
        simpa using hx
      · rename_i hz
        rw [hz] at hx; cases hx
    · rw [hdef0]
      split at hgo
      · rename_i x w z hz
        cases hgo
        rw [hz]
        refine Evn.const fun k => ?_
        have e2 := two_len x w z
        rw [if_pos (by omega), if_neg (by omega), if_pos (by omega), if_pos rfl, empty_toList]
        rfl
      · rename_i z hz
        cases hgo
        rw [hz]
        exact Evn.const fun k => by simp
      · rename_i hz
        rw [hz]
        rw [if_neg hdne] at hgo
        have hpar : parOf (c.map toIt) d = y.par := by
          unfold parOf
          have := hpl.find hy
          rw [hid] at this
          rw [this]; rfl
        rw [hpar] at hgo
        have h1 := ih (pre ++ [d]) k0 (by simp at hlen ⊢; omega) hgo
        rw [List.append_assoc] at h1
        refine Evn.congr (fun k => ?_) h1
        rw [if_neg (by simp)]
        simp
theorem nearest_ev (c : List S61) (l : List S59) (at_ nm : ByteArray) (hc : (c.length : Int) ≤ 9223372036854775807) (hl : (l.length : Int) ≤ 9223372036854775807) : Evn (fun k => pandectlaw13_ScopeNearest.f k c l at_ nm) true := by
  obtain ⟨b, hfew, hb⟩ := fewAll_ev c l hc hl
  refine Evn.congr (h := fun k => (pandectlaw13_few.f k c l).bind fun t161 => (if t161 = true then (pandectlaw13_ScopeNearest.j0 k l at_ nm true (decide ((wrap64 ((at_.size : Int) + (nm.size : Int))) > 120)) c) else (pandectlaw13_ScopeNearest.j0 k l at_ nm true true c))) (fun k => rfl) (Evn.bind hfew ?_)
  have triv : Evn (fun k => pandectlaw13_ScopeNearest.j0 k l at_ nm true true c) true := Evn.stop fun k => by
    simp only [pandectlaw13_ScopeNearest.j0]
    rw [if_pos trivial]
  cases b with
  | false => exact Evn.congr (fun k => by rw [if_neg (by simp)]) triv
  | true =>
    obtain ⟨hc16, hl8⟩ := hb rfl
    refine Evn.congr (h := fun k => pandectlaw13_ScopeNearest.j0 k l at_ nm true (decide ((wrap64 ((at_.size : Int) + (nm.size : Int))) > 120)) c) (fun k => by rw [if_pos rfl]) ?_
    by_cases hsz : (wrap64 ((at_.size : Int) + (nm.size : Int))) > 120
    · rw [decide_eq_true hsz]; exact triv
    · rw [decide_eq_false hsz]
      refine Evn.step (h := fun k => (scope_Find.f k c l at_ nm).bind fun bt => if bt.2 = 1 then (pandectlaw13_ScopeNearest.j1 k l at_ nm true bt.1 bt.2 true c) else (pandectlaw13_ScopeNearest.j1 k l at_ nm true bt.1 bt.2 (bt.2 == 11) c)) (fun k => by
        simp only [pandectlaw13_ScopeNearest.j0]
        rw [if_neg (by simp)]) ?_
      have hf : ∀ k, scope_Find.f k c l at_ nm = findS (c.map toIt) (l.map toPv) k at_ nm := fun k => by
        unfold scope_Find.f
        rw [if_pos ⟨by omega, by omega⟩]
      have empty : ∀ e : Int, Evn (fun k => pandectlaw13_ScopeNearest.j1 k l at_ nm true ⟨#[]⟩ e true c) true := fun e => Evn.stop fun k => by
        simp only [pandectlaw13_ScopeNearest.j1]
        rw [if_pos trivial, if_pos trivial]
        simp [ByteArray.toList_eq]
      by_cases hgood : goodP (c.map toIt) (l.map toPv)
      · by_cases hkind : kindOf (c.map toIt) at_ = 2
        · have hpl := PL.of hgood.1
          have hfit := fit_of hgood.2
          obtain ⟨x, hx, hxk⟩ := kindOf_ne hkind
          obtain ⟨i, hi, hxid⟩ := findIt_some hx
          have hpx : parOf (c.map toIt) at_ = x.par := by unfold parOf; rw [hx]; rfl
          obtain ⟨ds, hch, hdl⟩ := chain_of hpl hi
          rw [List.length_map] at hdl
          have hgo : ∃ q, ∃ k0, goUp (parOf (c.map toIt)) (fun d => termsOf (c.map toIt) (l.map toPv) d nm) k0 x.par = some q := by
            have key : ∀ ds d, Chain (c.map toIt) d ds → ∃ q, ∃ k0, goUp (parOf (c.map toIt)) (fun d => termsOf (c.map toIt) (l.map toPv) d nm) k0 d = some q := by
              intro ds d hch
              induction hch with
              | top =>
                cases ht : termsOf (c.map toIt) (l.map toPv) ⟨#[]⟩ nm with
                | nil => exact ⟨(⟨#[]⟩, 7), 1, by unfold goUp; rw [ht]; rfl⟩
                | cons a r => cases r with
                  | nil => exact ⟨(a, 0), 1, by unfold goUp; rw [ht]⟩
                  | cons b r => exact ⟨(⟨#[]⟩, 9), 1, by unfold goUp; rw [ht]⟩
              | up d ds i y hd hy hid hk hch ih =>
                obtain ⟨q, k0, h0⟩ := ih
                have hpar : parOf (c.map toIt) d = y.par := by
                  unfold parOf
                  have := hpl.find hy
                  rw [hid] at this
                  rw [this]; rfl
                have hdne : ¬ Go.Eng.beqL d.data.toList [] = true := fun e => hd (by
                  have : Go.Eng.beqL d.data.toList (⟨#[]⟩ : ByteArray).data.toList = true := e
                  exact beqL_iff.1 this)
                cases ht : termsOf (c.map toIt) (l.map toPv) d nm with
                | nil => exact ⟨q, k0 + 1, by unfold goUp; rw [ht]; show (if Go.Eng.beqL d.data.toList [] = true then _ else _) = _; rw [if_neg hdne, hpar]; exact h0⟩
                | cons a r => cases r with
                  | nil => exact ⟨(a, 0), 1, by unfold goUp; rw [ht]⟩
                  | cons b r => exact ⟨(⟨#[]⟩, 9), 1, by unfold goUp; rw [ht]⟩
            exact key ds x.par hch
          obtain ⟨⟨id, er⟩, k0, hgo⟩ := hgo
          have hF : Evn (fun k => scope_Find.f k c l at_ nm) (id, er) := ⟨k0, fun k hk => by
            refine (hf k).trans ?_
            unfold findS
            rw [if_pos (Go.Eng.goodP_iff.1 hgood), if_pos (ieq_iff.2 hkind), hpx]
            exact Go.Eng.goUp_mono k0 _ k hk hgo⟩
          refine Evn.bind hF ?_
          have her : er = 9 ∨ er = 0 ∨ er = 7 := by
            have key : ∀ (k : Nat) (d : ByteArray), goUp (parOf (c.map toIt)) (fun d => termsOf (c.map toIt) (l.map toPv) d nm) k d = some (id, er) → er = 9 ∨ er = 0 ∨ er = 7 := by
              intro k
              induction k with
              | zero => intro d h; cases h
              | succ k ih =>
                intro d h
                unfold goUp at h
                split at h
                · cases h; exact .inl rfl
                · cases h; exact .inr (.inl rfl)
                · split at h
                  · cases h; exact .inr (.inr rfl)
                  · exact ih _ h
            exact key k0 _ hgo
          have hj1 : Evn (fun k => pandectlaw13_ScopeNearest.j1 k l at_ nm true id er false c) true := by
            obtain ⟨z, hz, rfl⟩ := it_get hi
            have hit := item_ev (m := 2) (by omega) (by omega) hz hxk (fun j w hj hw e => by
              have := hpl.ids j i _ _ (it_mk hw) (it_mk hz) e
              omega)
            have hil := (List.getElem?_eq_some_iff.1 hz).1
            have hid' : z.f1 = at_ := hxid
            rw [hid'] at hit
            have har : Evn (fun k => pandectref13_Around.f k c at_) ds := by
              refine Evn.congr (h := fun k => (pandectref13_Item.f k c 2 at_).bind fun t132 => (if 0 ≤ t132 then (if t132 < (c.length : Int) then (pandectref13_Around.l0 k ((rd_T61 c t132).f2) ([] : List ByteArray) c) else (none)) else (none))) (fun k => rfl) (Evn.bind hit ?_)
              have := around_ev (by omega) hpl ds _ hch [] (by simp; omega)
              refine Evn.congr (fun k => ?_) this
              rw [if_pos (by omega), if_pos (by omega), rd61 hz]
              rfl
            refine Evn.step (h := fun k => (pandectref13_Around.f k c at_).bind fun t164 => (pandectlaw13_ScopeNearest.l0 k l nm true id er t164 0 c)) (fun k => by
              simp only [pandectlaw13_ScopeNearest.j1]
              rw [if_neg (by simp)]) (Evn.bind har ?_)
            have := up_ev (nm := nm) (id := id) (er := er) (by omega) (by omega) hpl hfit ds _ hch [] k0 (by simp; omega) hgo
            exact this
          refine Evn.congr (fun k => ?_) hj1
          have h1 : ¬ er = 1 := by omega
          have h2 : (er == 11) = false := by
            have : er ≠ 11 := by omega
            simpa using this
          show (if er = 1 then _ else _) = _
          rw [if_neg h1, h2]
        · have hF : Evn (fun k => scope_Find.f k c l at_ nm) (⟨#[]⟩, 11) := Evn.const fun k => by
            refine (hf k).trans ?_
            unfold findS
            rw [if_pos (Go.Eng.goodP_iff.1 hgood), if_neg (fun e => hkind (ieq_iff.1 e))]
          exact Evn.bind hF (Evn.congr (fun k => by show (if (11 : Int) = 1 then _ else _) = _; rw [if_neg (by omega)]; rfl) (empty 11))
      · have hF : Evn (fun k => scope_Find.f k c l at_ nm) (⟨#[]⟩, 1) := Evn.const fun k => by
          refine (hf k).trans ?_
          unfold findS
          rw [if_neg (fun e => hgood (Go.Eng.goodP_iff.2 e))]
        exact Evn.bind hF (Evn.congr (fun k => by show (if (1 : Int) = 1 then _ else _) = _; rw [if_pos rfl]) (empty 1))
end
end
end Go.Proofs.YtjmojapijbimbaaGreatDoor.Pa
