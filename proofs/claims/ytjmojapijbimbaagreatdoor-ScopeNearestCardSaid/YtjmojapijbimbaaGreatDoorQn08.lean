/- A part of the proof of the law: Uni4, Uni5, Uni6. Conditions: none. -/
import Derived.Test.YtjmojapijbimbaaGreatDoorQn03
import Derived.Test.YtjmojapijbimbaaGreatDoorQn07
set_option linter.unusedVariables false
set_option linter.unusedSimpArgs false
section
namespace Go.Eng
open Go.Proofs
noncomputable section
theorem takeX_all {α : Type} : ∀ (l : List α), takeX l.length l = some l
  | [] => rfl
  | x :: l => by
    show ob (takeX l.length l) (fun r => some (x :: r)) = _
    rw [takeX_all l, ob_some]
theorem readAt_all {α : Type} (l : List α) {n : Nat} (h : l.length = n) : readAt n 0 l = some l := by
  subst h
  exact takeX_all l
theorem overX_all {α : Type} : ∀ (vs l : List α), vs.length = l.length → overX vs l = some vs
  | [], [], _ => rfl
  | [], _ :: _, h => by cases h
  | _ :: _, [], h => by cases h
  | v :: vs, x :: l, h => by
    show ob (overX vs l) (fun r => some (v :: r)) = _
    rw [overX_all vs l (by simpa using h), ob_some]
theorem writeAt_all {α : Type} {vs l : List α} (h : vs.length = l.length) : writeAt 0 vs l = some vs := overX_all vs l h
structure Pv where
  id : ByteArray
  rank : Int
  kind : Int
  name : ByteArray
  value : Int
  tl : List Value
  hl : tl.length = 18
  hs : allL flat1 tl = true
def Pv.cells (p : Pv) : List Value := .string p.id :: .int .i64 p.rank :: .int .i64 p.kind :: .string p.name :: .int .i64 p.value :: p.tl
theorem Pv.clen (p : Pv) : p.cells.length = 23 := by
  show p.tl.length + 5 = 23
  rw [p.hl]
theorem scalar_flat {v : Value} (h : flat1 v = true) : scalar v = true := by
  unfold flat1 at h
  split at h
  · cases h
  · rename_i hc
    unfold flatV at h
    split at h <;> first | rfl | skip
    · rename_i k a b
      cases k with
      | f32 => exact absurd rfl (hc _ _)
      | f64 => rfl
    · cases h
theorem Pv.flat (p : Pv) : allL flat1 p.cells = true := p.hs
theorem Pv.scal (p : Pv) : allL scalar p.cells = true := by
  have h := p.flat
  rw [allL_eq, List.all_eq_true] at h ⊢
  exact fun v hv => scalar_flat (h v hv)
theorem Pv.lenB (p : Pv) : Nat.beq (len p.cells) 23 = true := by rw [len_eq, p.clen]; rfl
def entP (x : Pv) (k : Nat) : MapEntry := { key := .string x.id, val := .agg ⟨x.cells⟩, born := k }
def entsP : List Pv → Nat → List MapEntry
  | [], _ => []
  | x :: l, k => entP x k :: entsP l (k + 1)
theorem entsP_app : ∀ (l : List Pv) (x : Pv) (k : Nat), entsP (l ++ [x]) k = entsP l k ++ [entP x (k + l.length)]
  | [], x, k => rfl
  | y :: l, x, k => by
    show entP y k :: entsP (l ++ [x]) (k + 1) = entP y k :: (entsP l (k + 1) ++ [_])
    rw [entsP_app l x (k + 1)]
    congr 4
    simp; omega
def findPv (l : List Pv) (y : ByteArray) : Option Pv := l.find? fun x => beqL y.data.toList x.id.data.toList
theorem find_entsP (y : ByteArray) : ∀ (l : List Pv) (k : Nat), ∃ e, findK (EG.eq 3 9 (.string y)) (entsP l k) = some e ∧ ((findPv l y = none ∧ e = none) ∨ ∃ x j, findPv l y = some x ∧ e = some (entP x j))
  | [], k => ⟨none, rfl, .inl ⟨rfl, rfl⟩⟩
  | x :: l, k => by
    obtain ⟨e, h1, h2⟩ := find_entsP y l (k + 1)
    have hs : findK (EG.eq 3 9 (.string y)) (entsP (x :: l) k) = ob (EG.eq 3 9 (.string y) (.string x.id)) fun b => cnd b (some (some (entP x k))) (findK (EG.eq 3 9 (.string y)) (entsP l (k + 1))) := rfl
    rw [hs, eq9, ob_some, h1]
    unfold findPv
    rw [List.find?_cons]
    cases beqL y.data.toList x.id.data.toList with
    | true => exact ⟨_, rfl, .inr ⟨x, k, rfl, rfl⟩⟩
    | false => exact ⟨e, rfl, h2⟩
theorem put_entsP (y : ByteArray) (v : Value) : ∀ (l : List Pv) (k : Nat), findPv l y = none → putK (eqK EG 9 (.string y)) v (entsP l k) = some none
  | [], k, _ => rfl
  | x :: l, k, h => by
    unfold findPv at h
    rw [List.find?_cons] at h
    have hs : putK (eqK EG 9 (.string y)) v (entsP (x :: l) k) = ob (eqK EG 9 (.string y) (.string x.id)) fun b => cnd b (some (some ({ entP x k with val := v } :: entsP l (k + 1))))
      (ob (putK (eqK EG 9 (.string y)) v (entsP l (k + 1))) fun r => match r with
        | none => some none
        | some r => some (some (entP x k :: r))) := rfl
    rw [hs, eqK9, ob_some]
    cases hb : beqL y.data.toList x.id.data.toList with
    | true => rw [hb] at h; cases h
    | false =>
      rw [hb] at h
      rw [cnd_false, put_entsP y v l (k + 1) h, ob_some]
def kindOf (L : List It) (x : ByteArray) : Int := ((findIt L x).getD itZ).kind
def parOf (L : List It) (x : ByteArray) : ByteArray := ((findIt L x).getD itZ).par
def fitsGo (L : List It) (pre : List Pv) : List Pv → Bool
  | [] => true
  | p :: l => if (findPv pre p.id).isSome || !ieq (kindOf L p.id) 2 then false else fitsGo L (pre ++ [p]) l
def isDef (L : List It) (d n : ByteArray) (p : Pv) : Bool := ieq p.kind 1 && (beqL d.data.toList (parOf L p.id).data.toList && beqL n.data.toList p.name.data.toList)
def termsOf (L : List It) (pre : List Pv) (d n : ByteArray) : List ByteArray := (pre.filter (isDef L d n)).map Pv.id
theorem termsOf_app (L : List It) (pre : List Pv) (p : Pv) (d n : ByteArray) : termsOf L (pre ++ [p]) d n = termsOf L pre d n ++ (if isDef L d n p then [p.id] else []) := by
  unfold termsOf
  rw [List.filter_append, List.map_append]
  congr 1
  cases h : isDef L d n p <;> simp [List.filter, h]
structure Gr where
  d : ByteArray
  n : ByteArray
  ids : List ByteArray
  b : Nat
def Gr.val (g : Gr) : Value := .slice (some ⟨g.b, 0, none⟩) g.ids.length 0
def keyG (d n : ByteArray) : Value := .agg ⟨[.string d, .string n]⟩
def entG (g : Gr) (k : Nat) : MapEntry := { key := keyG g.d g.n, val := g.val, born := k }
def entsG : List Gr → Nat → List MapEntry
  | [], _ => []
  | x :: l, k => entG x k :: entsG l (k + 1)
theorem entsG_app : ∀ (l : List Gr) (x : Gr) (k : Nat), entsG (l ++ [x]) k = entsG l k ++ [entG x (k + l.length)]
  | [], x, k => rfl
  | y :: l, x, k => by
    show entG y k :: entsG (l ++ [x]) (k + 1) = entG y k :: (entsG l (k + 1) ++ [_])
    rw [entsG_app l x (k + 1)]
    congr 4
    simp; omega
def sameG (d n : ByteArray) (g : Gr) : Bool := beqL d.data.toList g.d.data.toList && beqL n.data.toList g.n.data.toList
def findG (l : List Gr) (d n : ByteArray) : Option Gr := l.find? (sameG d n)
theorem eq127 (d n d' n' : ByteArray) : EG.eq 3 127 (keyG d n) (keyG d' n') = some (beqL d.data.toList d'.data.toList && beqL n.data.toList n'.data.toList) := by
  have h : EG.eq 3 127 (keyG d n) (keyG d' n') = cnd (beqL d.data.toList d'.data.toList) (cnd (beqL n.data.toList n'.data.toList) (some true) (some false)) (some false) := by kernel_rfl
  rw [h]
  cases beqL d.data.toList d'.data.toList <;> cases beqL n.data.toList n'.data.toList <;> rfl
theorem eqK127 (d n d' n' : ByteArray) : eqK EG 127 (keyG d n) (keyG d' n') = some (beqL d.data.toList d'.data.toList && beqL n.data.toList n'.data.toList) := by
  unfold eqK
  rw [eq127, ob_some]
  have h : plainEq (keyG d n) (keyG d' n') = cnd (beqL d.data.toList d'.data.toList) (cnd (beqL n.data.toList n'.data.toList) true false) false := by kernel_rfl
  rw [h]
  cases beqL d.data.toList d'.data.toList <;> cases beqL n.data.toList n'.data.toList <;> rfl
theorem find_entsG (d n : ByteArray) : ∀ (l : List Gr) (k : Nat), ∃ e, findK (EG.eq 3 127 (keyG d n)) (entsG l k) = some e ∧ ((findG l d n = none ∧ e = none) ∨ ∃ x j, findG l d n = some x ∧ e = some (entG x j))
  | [], k => ⟨none, rfl, .inl ⟨rfl, rfl⟩⟩
  | x :: l, k => by
    obtain ⟨e, h1, h2⟩ := find_entsG d n l (k + 1)
    have hs : findK (EG.eq 3 127 (keyG d n)) (entsG (x :: l) k) = ob (EG.eq 3 127 (keyG d n) (keyG x.d x.n)) fun b => cnd b (some (some (entG x k))) (findK (EG.eq 3 127 (keyG d n)) (entsG l (k + 1))) := rfl
    rw [hs, eq127, ob_some, h1]
    unfold findG
    rw [List.find?_cons]
    show ∃ e1, cnd (sameG d n x) _ _ = _ ∧ _
    cases sameG d n x with
    | true => exact ⟨_, rfl, .inr ⟨x, k, rfl, rfl⟩⟩
    | false => exact ⟨e, rfl, h2⟩
def setG (d n : ByteArray) (g' : Gr) : List Gr → List Gr
  | [] => []
  | x :: l => if sameG d n x then g' :: l else x :: setG d n g' l
theorem setG_len (d n : ByteArray) (g' : Gr) : ∀ l, (setG d n g' l).length = l.length
  | [] => rfl
  | x :: l => by
    unfold setG
    split
    · rfl
    · simp [setG_len d n g' l]
end
end Go.Eng
end
section
namespace Go.Eng
open Go.Proofs
noncomputable section
structure Mov (s : St) (b : Nat) (o : AO) (s1 : St) : Prop where
  n : s1.n = s.n + 1
  new : s1.at s.n = some o
  keep : ∀ j, j < 32768 → j ≠ s.n → j ≠ b → s1.at j = s.at j
theorem New.mov {s s1 : St} {o : AO} (h : New s o s1) (b : Nat) : Mov s b o s1 := ⟨h.n, h.new, fun j h1 h2 _ => h.keep j h1 h2⟩
section
variable {E : Env} {tm : Tm} {s : St}
theorem add_ex {s : St} {o : AO} (hn : s.n < 32768) : ∃ s1, s.add o = some s1 ∧ New s o s1 := by
  have hb : Nat.blt s.n 32768 = true := Nat.ble_eq_true_of_le hn
  refine ⟨⟨Hp.put s.h s.n (some o), s.n + 1⟩, ?_, rfl, ?_, fun b hb hne => ?_⟩
  · unfold St.add
    rw [forceN_eq, hb]; rfl
  · show Hp.get (Hp.put s.h s.n (some o)) s.n = _
    rw [Hp.get_put hn hn, if_pos rfl]
  · show Hp.get (Hp.put s.h s.n (some o)) b = _
    rw [Hp.get_put hb hn, if_neg hne]; rfl
theorem e_lookupNil {t : TypeId} {x k : Operand} {ok : Bool} {p : TypeId × TypeId} {z : Value} (hp : E.mapT t = some p) (hz : E.zeroV p.2 = some z) (hx : ev tm x = .map none) (hk : keyOK E p.1 (ev tm k) = true) :
    opA (.lookup t x k ok) E tm s = some (.val (outL ok z false), s) := by
  show retO s (lookupA E t (ev tm x) (ev tm k) ok s) = _
  have : lookupA E t (ev tm x) (ev tm k) ok s = some (outL ok z false) := by
    unfold lookupA
    rw [hp, ob_some, hz, ob_some, hx]
    show ob (some none) _ = _
    rw [ob_some]
    simp only [hk, cnd_true]
  rw [this]; rfl
theorem e_buildSlice1 {t e : TypeId} {x : Operand} {v z : Value} (hu : E.und t = some (.slice e)) (hs : E.size e = some 1) (hz : E.zero e = some [z]) (hl : vcs (ev tm x) = some [v]) (hn : s.n < 32768) :
    ∃ s1, opA (.buildSlice t 1 #[(0, x)]) E tm s = some (.val (.slice (some ⟨s.n, 0, none⟩) 1 2), s1) ∧ New s (.cells [v] e false 0) s1 := by
  obtain ⟨s1, h1, h2⟩ := newA_ex (o := .cells [v] e false 0) (f := fun b => .slice (some ⟨b, 0, none⟩) 1 2) hn
  refine ⟨s1, ?_, h2⟩
  show ob (E.und t) _ = _
  rw [hu, ob_some]
  show ob (some e) _ = _
  rw [ob_some, hs, ob_some]
  show cnd true _ none = _
  rw [cnd_true, hz, ob_some]
  show ob (ob (some (0, 1)) fun q => ob (vcs (ev tm x)) fun l => cnd (Nat.beq (len l) q.2) (ob (writeAt q.1 l [z]) (fun c => some c)) none) _ = _
  rw [ob_some, hl, ob_some]
  show ob (cnd true (ob (some [v]) fun c => some c) none) _ = _
  rw [cnd_true, ob_some, ob_some]
  exact h1
theorem e_mapEntryF {t : TypeId} {x k : Operand} {p : TypeId × TypeId} {r c : Nat} {es : List MapEntry} {e : MapEntry} (hp : E.mapT t = some p) (hx : ev tm x = .map (some r)) (hg : E.gl = 0) (ho : s.at r = some (.map es c)) (hk : keyOK E p.1 (ev tm k) = true)
    (hf : findK (eqK E p.1 (ev tm k)) es = some (some e)) : opA (.mapEntry t x k) E tm s = some (.val (.tuple #[e.val, natV e.born]), s) := by
  show retP (mapEntryA E t (ev tm x) (ev tm k) s) = _
  have hg' : Nat.blt r E.gl = false := by rw [hg]; rfl
  have : mapEntryA E t (ev tm x) (ev tm k) s = some (.tuple #[e.val, natV e.born], s) := by
    unfold mapEntryA
    rw [hp, ob_some, hx]
    unfold ownMap
    show ob (ob (some (some r)) _) _ = _
    rw [ob_some, ob_some, hg', cnd_false, ho, ob_some]
    show ob (ob (some (es, c)) _) _ = _
    rw [ob_some, ob_some]
    simp only [hk, cnd_true]
    rw [hf, ob_some]
  rw [this]; rfl
theorem e_mapEntryN {t : TypeId} {x k : Operand} {p : TypeId × TypeId} {r c : Nat} {es : List MapEntry} {z : Value} (hp : E.mapT t = some p) (hx : ev tm x = .map (some r)) (hr : r < 32768) (hg : E.gl = 0) (ho : s.at r = some (.map es c)) (hk : keyOK E p.1 (ev tm k) = true)
    (hf : findK (eqK E p.1 (ev tm k)) es = some none) (hz : E.zeroV p.2 = some z) : ∃ s1, opA (.mapEntry t x k) E tm s = some (.val (.tuple #[z, natV c]), s1) ∧ Set1 s r (.map (addK es (ev tm k) z c) (c + 1)) s1 := by
  refine ⟨_, ?_, Set1.of hr _⟩
  show retP (mapEntryA E t (ev tm x) (ev tm k) s) = _
  have hg' : Nat.blt r E.gl = false := by rw [hg]; rfl
  have : mapEntryA E t (ev tm x) (ev tm k) s = some (.tuple #[z, natV c], s.set r (.map (addK es (ev tm k) z c) (c + 1))) := by
    unfold mapEntryA
    rw [hp, ob_some, hx]
    unfold ownMap
    show ob (ob (some (some r)) _) _ = _
    rw [ob_some, ob_some, hg', cnd_false, ho, ob_some]
    show ob (ob (some (es, c)) _) _ = _
    rw [ob_some, ob_some]
    simp only [hk, cnd_true]
    rw [hf, ob_some, hz, ob_some]
  rw [this]; rfl
theorem e_entryStore {t : TypeId} {x b y : Operand} {r c : Nat} {n : Int} {kd : IntKind} {es es' : List MapEntry} (hx : ev tm x = .map (some r)) (hr : r < 32768) (hg : E.gl = 0) (ho : s.at r = some (.map es c)) (hb : ev tm b = .int kd n)
    (hf : putBorn n (ev tm y) es = some es') : ∃ s1, opA (.entryStore t x b y) E tm s = some (.skip, s1) ∧ Set1 s r (.map es' c) s1 := by
  refine ⟨_, ?_, Set1.of hr _⟩
  show skipO (entryStoreA E (ev tm x) (ev tm b) (ev tm y) s) = _
  have hg' : Nat.blt r E.gl = false := by rw [hg]; rfl
  have : entryStoreA E (ev tm x) (ev tm b) (ev tm y) s = some (s.set r (.map es' c)) := by
    unfold entryStoreA ownMap
    rw [hx]
    show ob (ob (some (some r)) _) _ = _
    rw [ob_some, ob_some, hg', cnd_false, ho, ob_some]
    show ob (ob (some (es, c)) _) _ = _
    rw [ob_some, ob_some, hb]
    show ob (some (kd, n)) _ = _
    rw [ob_some]
    show ob (putBorn n (ev tm y) es) _ = _
    rw [hf, ob_some]
  rw [this]; rfl
theorem e_append1 {x y : Operand} {t t2 : TypeId} {ts : Array TypeId} {e : TypeId} {b2 : Nat} {v z : Value} {u2 : TypeDesc} {el2 : TypeId} {ex2 : Bool} {fz2 : Nat} {old : List Value} {bo : Nat}
    (ht : ts.toList = [t, t2]) (hu : E.und t = some (.slice e)) (hu2 : E.und t2 = some u2) (hk2 : Nat.beq (kindD u2) 2 = false) (hs : E.size e = some 1) (hz : E.zero e = some [z]) (hg : E.gl = 0)
    (hy : ev tm y = .slice (some ⟨b2, 0, none⟩) 1 2) (hb2 : s.at b2 = some (.cells [v] el2 ex2 fz2)) (hv : scalar v = true) (hn : s.n < 32768) (hl : old.length + 1 < 1000000)
    (hx : (old = [] ∧ ev tm x = .slice none 0 0) ∨ (ev tm x = .slice (some ⟨bo, 0, none⟩) old.length 0 ∧ ∃ ex, s.at bo = some (.cells old e ex 0) ∧ bo < 32768)) :
    ∃ s1, opA (.call { callee := .builtin .append, args := #[x, y], argTypes := ts }) E tm s = some (.val (.slice (some ⟨s.n, 0, none⟩) (old.length + 1) 0), s1) ∧ Mov s bo (.cells (old ++ [v]) e false 0) s1 := by
  have hfirst : firstA 1 (.slice (some ⟨b2, 0, none⟩) 1 2) s = some (1, [v]) := by
    have h0 : firstA 1 (.slice (some ⟨b2, 0, none⟩) 1 2) s = ob (ob (s.at b2) AO.cell) fun q => ob (readAt 1 0 q.1) fun l => some (1, l) := rfl
    rw [h0, hb2]
    rfl
  have hlt : Nat.blt (Nat.add old.length 1) 1000000 = true := Nat.ble_eq_true_of_le hl
  have main : ∃ s1, appendTo E e 1 (ev tm x) 1 [v] s = some (.slice (some ⟨s.n, 0, none⟩) (old.length + 1) 0, s1) ∧ Mov s bo (.cells (old ++ [v]) e false 0) s1 := by
    rcases hx with ⟨rfl, hx⟩ | ⟨hx, ex, ho, hbo⟩
    · obtain ⟨s1, h1, h2⟩ := add_ex (s := s) (o := .cells [v] e false 0) hn
      refine ⟨s1, ?_, h2.mov bo⟩
      rw [hx]
      show ob (some (none, 0, 0)) _ = _
      rw [ob_some]
      show grown s [v] e 1 = _
      unfold grown
      rw [forceN_eq, h1, ob_some]; rfl
    · have hd : (s.del bo).n < 32768 := hn
      obtain ⟨s1, h1, h2⟩ := add_ex (s := s.del bo) (o := .cells (old ++ [v]) e false 0) hd
      refine ⟨s1, ?_, h2.n, h2.new, fun j hj hne hnb => ?_⟩
      · rw [hx]
        show ob (some (some (bo, 0), old.length, 0)) _ = _
        rw [ob_some]
        show cnd (Nat.blt (Nat.add old.length 1) 1000000) (appendOpen E e 1 (bo, 0) old.length 1 [v] s) none = _
        rw [hlt, cnd_true]
        unfold appendOpen
        have hg' : Nat.blt bo E.gl = false := by rw [hg]; rfl
        rw [hg', cnd_false, ho, ob_some]
        show ob (some (old, e, ex, 0)) _ = _
        rw [ob_some]
        have he : (wok 0 0 && Nat.beq e e) = true := by simp [wok]
        have hm : Nat.mul old.length 1 = old.length := Nat.mul_one _
        dsimp only
        rw [he, cnd_true, readAt_all old hm.symm, ob_some, app_eq]
        unfold grown
        rw [forceN_eq, h1, ob_some]; rfl
      · rw [h2.keep j hj hne]
        show Hp.get (Hp.put s.h bo none) j = _
        rw [Hp.get_put hj hbo, if_neg hnb]; rfl
  obtain ⟨s1, h1, h2⟩ := main
  refine ⟨s1, ?_, h2⟩
  show builtinA E .append ts.toList (mapOps tm [x, y]) s = _
  rw [ht]
  have h0 : builtinA E .append [t, t2] (mapOps tm [x, y]) s = ob (E.und t2) fun u2 => cnd (Nat.beq (kindD u2) 2) none (retP (appendA E t (ev tm x) (ev tm y) s)) := rfl
  rw [h0, hu2, ob_some, hk2, cnd_false]
  have : appendA E t (ev tm x) (ev tm y) s = some (.slice (some ⟨s.n, 0, none⟩) (old.length + 1) 0, s1) := by
    unfold appendA
    rw [hu, ob_some]
    show ob (some e) _ = _
    rw [ob_some, hs, ob_some, hz, ob_some]
    show cnd false none _ = _
    rw [cnd_false, hy, hfirst, ob_some]
    have : allL scalar [v] = true := by
      show cnd (scalar v) true false = true
      rw [hv]; rfl
    rw [this, cnd_true]
    exact h1
  show retP (appendA E t (ev tm x) (ev tm y) s) = _
  rw [this]; rfl
end
theorem e_appendS {tm : Tm} {s : St} {x y : Operand} {ids : List ByteArray} {id : ByteArray} {b2 bo : Nat} (hy : ev tm y = .slice (some ⟨b2, 0, none⟩) 1 2) (hb2 : s.at b2 = some (.cells [.string id] 9 false 0)) (hn : s.n < 32768) (hl : ids.length + 1 < 1000000)
    (hx : (ids = [] ∧ ev tm x = .slice none 0 0) ∨ (ev tm x = .slice (some ⟨bo, 0, none⟩) ids.length 0 ∧ ∃ ex, s.at bo = some (.cells (ids.map Value.string) 9 ex 0) ∧ bo < 32768)) :
    ∃ s1, opA (.call { callee := .builtin .append, args := #[x, y], argTypes := #[39, 39] }) EG tm s = some (.val (.slice (some ⟨s.n, 0, none⟩) (ids.length + 1) 0), s1) ∧ Mov s bo (.cells ((ids ++ [id]).map Value.string) 9 false 0) s1 := by
  have h := e_append1 (E := EG) (tm := tm) (s := s) (x := x) (y := y) (t := 39) (t2 := 39) (ts := #[39, 39]) (e := 9) (b2 := b2) (v := .string id) (z := .string ⟨#[]⟩) (u2 := .slice 9) (old := ids.map Value.string) (bo := bo) rfl (by kernel_rfl) (by kernel_rfl) (by kernel_rfl) (by kernel_rfl) (by kernel_rfl) rfl hy hb2 rfl hn (by rw [List.length_map]; exact hl) (by
    rcases hx with ⟨rfl, hx⟩ | ⟨hx, hb⟩
    · exact .inl ⟨rfl, hx⟩
    · exact .inr ⟨by rw [List.length_map]; exact hx, hb⟩)
  rw [List.length_map] at h
  rw [List.map_append]
  exact h
theorem mapT91 : EG.mapT 91 = some (9, 59) := by kernel_rfl
def pvZ : Pv := ⟨⟨#[]⟩, 0, 0, ⟨#[]⟩, 0, [.int .i64 0, .string ⟨#[]⟩, .int .i64 0, .int .i64 0, .slice none 0 0, .slice none 0 0, .int .i64 0, .string ⟨#[]⟩, .int .i64 0, .slice none 0 0, .int .i64 0, .string ⟨#[]⟩, .int .i64 0, .slice none 0 0, .int .i64 0, .string ⟨#[]⟩, .int .i64 0, .slice none 0 0], rfl, by kernel_rfl⟩
theorem zero59 : EG.zeroV 59 = some (.agg ⟨pvZ.cells⟩) := by kernel_rfl
theorem zero59c : EG.zero 59 = some pvZ.cells := by kernel_rfl
theorem zero127c : EG.zero 127 = some [.string ⟨#[]⟩, .string ⟨#[]⟩] := by kernel_rfl
theorem look_entsP (y : ByteArray) (l : List Pv) (k : Nat) : ∃ e, findK (EG.eq 3 9 (.string y)) (entsP l k) = some e ∧ lookR true (.agg ⟨pvZ.cells⟩) e = .tuple ⟨[.agg ⟨((findPv l y).getD pvZ).cells⟩, .bool (findPv l y).isSome]⟩ := by
  obtain ⟨e, h1, h2⟩ := find_entsP y l k
  refine ⟨e, h1, ?_⟩
  rcases h2 with ⟨h3, rfl⟩ | ⟨x, j, h3, rfl⟩
  · rw [h3]; rfl
  · rw [h3]; rfl
theorem look_entsF (y : ByteArray) (l : List It) (k : Nat) : ∃ e, findK (EG.eq 3 9 (.string y)) (ents l k) = some e ∧ lookR false z61 e = .agg ⟨((findIt l y).getD itZ).cells⟩ := by
  obtain ⟨e, h1, h2⟩ := find_ents y l k
  refine ⟨e, h1, ?_⟩
  rcases h2 with ⟨h3, rfl⟩ | ⟨x, j, h3, rfl⟩
  · rw [h3, z61_eq]; rfl
  · rw [h3]; rfl
def MapI (s : St) (rm : Option Nat) (L : List It) : Prop := match rm with
  | none => L = []
  | some m => m < s.n ∧ s.at m = some (.map (ents L 0) L.length)
theorem e_lookI {tm : Tm} {s : St} {rm : Option Nat} {L : List It} {x k : Operand} {y : ByteArray} (h : MapI s rm L) (hx : ev tm x = .map rm) (hk : ev tm k = .string y) :
    opA (.lookup 90 x k false) EG tm s = some (.val (.agg ⟨((findIt L y).getD itZ).cells⟩), s) := by
  cases rm with
  | none =>
    have h : L = [] := h
    subst h
    have := e_lookupNil (E := EG) (tm := tm) (s := s) (t := 90) (x := x) (k := k) (ok := false) mapT90 zero61 hx (by rw [hk]; kernel_rfl)
    rw [this, z61_eq]; rfl
  | some m =>
    obtain ⟨e, h1, h2⟩ := look_entsF y L 0
    rw [← h2]
    exact e_lookup mapT90 zero61 hx (by rw [hk]; kernel_rfl) h.2 (by rw [hk]; exact h1)
theorem find_entsGK (d n : ByteArray) : ∀ (l : List Gr) (k : Nat), ∃ e, findK (eqK EG 127 (keyG d n)) (entsG l k) = some e ∧ ((findG l d n = none ∧ e = none) ∨ ∃ x j, k ≤ j ∧ findG l d n = some x ∧ e = some (entG x j) ∧ ∀ g', keyG g'.d g'.n = keyG x.d x.n → putBorn (Int.ofNat j) g'.val (entsG l k) = some (entsG (setG d n g' l) k))
  | [], k => ⟨none, rfl, .inl ⟨rfl, rfl⟩⟩
  | x :: l, k => by
    obtain ⟨e, h1, h2⟩ := find_entsGK d n l (k + 1)
    have hs : findK (eqK EG 127 (keyG d n)) (entsG (x :: l) k) = ob (eqK EG 127 (keyG d n) (keyG x.d x.n)) fun b => cnd b (some (some (entG x k))) (findK (eqK EG 127 (keyG d n)) (entsG l (k + 1))) := rfl
    rw [hs, eqK127, ob_some, h1]
    unfold findG
    rw [List.find?_cons]
    show ∃ e1, cnd (sameG d n x) _ _ = _ ∧ _
    have hb : ∀ (b : Int) v, putBorn b v (entsG (x :: l) k) = cnd (ieq (Int.ofNat k) b) (some ({ entG x k with val := v } :: entsG l (k + 1))) (ob (putBorn b v (entsG l (k + 1))) fun r => some (entG x k :: r)) := fun _ _ => rfl
    cases hsg : sameG d n x with
    | true =>
      refine ⟨_, rfl, .inr ⟨x, k, Nat.le_refl _, rfl, rfl, fun g' hg' => ?_⟩⟩
      rw [hb]
      have : ieq (Int.ofNat k) (Int.ofNat k) = true := by simp [ieq]
      have h3 : setG d n g' (x :: l) = g' :: l := by simp [setG, hsg]
      have h4 : ({ entG x k with val := g'.val } : MapEntry) = entG g' k := by unfold entG; rw [hg']
      rw [this, cnd_true, h3, h4]
      rfl
    | false =>
      refine ⟨e, rfl, ?_⟩
      rcases h2 with h2 | ⟨y, j, h3, h4, h5, h6⟩
      · exact .inl h2
      · refine .inr ⟨y, j, by omega, h4, h5, fun g' hg' => ?_⟩
        rw [hb]
        have : ieq (Int.ofNat k) (Int.ofNat j) = false := by
          cases e : ieq (Int.ofNat k) (Int.ofNat j) with
          | false => rfl
          | true => simp [ieq] at e; omega
        have h7 : setG d n g' (x :: l) = x :: setG d n g' l := by simp [setG, hsg]
        rw [this, cnd_false, h6 g' hg', ob_some, h7]
        rfl
theorem put_last (v : Value) (e : MapEntry) : ∀ (l : List Gr) (k : Nat), e.born = k + l.length → putBorn (Int.ofNat (k + l.length)) v (entsG l k ++ [e]) = some (entsG l k ++ [{ e with val := v }])
  | [], k, h => by
    show cnd (ieq (Int.ofNat e.born) (Int.ofNat k)) (some [{ e with val := v }]) _ = _
    have : ieq (Int.ofNat e.born) (Int.ofNat k) = true := by rw [h]; simp [ieq]
    rw [this]; rfl
  | x :: l, k, h => by
    show cnd (ieq (Int.ofNat k) (Int.ofNat (k + (x :: l).length))) _ (ob (putBorn _ v (entsG l (k + 1) ++ [e])) fun r => some (entG x k :: r)) = _
    have h1 : ieq (Int.ofNat k) (Int.ofNat (k + (x :: l).length)) = false := by
      cases e : ieq (Int.ofNat k) (Int.ofNat (k + (x :: l).length)) with
      | false => rfl
      | true => simp [ieq] at e
    have h2 : k + (x :: l).length = (k + 1) + l.length := by simp; omega
    rw [h1, cnd_false, h2, put_last v e l (k + 1) (by rw [h, h2]), ob_some]
    rfl
structure TI (lo : Nat) (s : St) (mt : Nat) (gs : List Gr) : Prop where
  map : s.at mt = some (.map (entsG gs 0) gs.length)
  row : ∀ g ∈ gs, ∃ ex, s.at g.b = some (.cells (g.ids.map Value.string) 9 ex 0)
  lt : ∀ g ∈ gs, lo ≤ g.b ∧ g.b < s.n
  dist : gs.Pairwise fun a b => a.b ≠ b.b
theorem TI.keep {lo mt : Nat} {s s' : St} {gs : List Gr} (h : TI lo s mt gs) (hn : s.n ≤ s'.n) (hm : s'.at mt = s.at mt) (hk : ∀ b, lo ≤ b → b < s.n → s'.at b = s.at b) : TI lo s' mt gs :=
  ⟨hm.trans h.map, fun g hg => by rw [hk g.b (h.lt g hg).1 (h.lt g hg).2]; exact h.row g hg, fun g hg => ⟨(h.lt g hg).1, Nat.lt_of_lt_of_le (h.lt g hg).2 hn⟩, h.dist⟩
theorem findG_set (d n : ByteArray) (g' : Gr) (hd : g'.d = d) (hn : g'.n = n) : ∀ (l : List Gr) (g : Gr), findG l d n = some g → ∀ d' n', findG (setG d n g' l) d' n' = if sameG d' n' g' then some g' else findG l d' n'
  | [], g, h, _, _ => by cases h
  | x :: l, g, h, d', n' => by
    unfold findG at h
    rw [List.find?_cons] at h
    cases hb : sameG d n x with
    | true =>
      have h3 : setG d n g' (x :: l) = g' :: l := by simp [setG, hb]
      rw [h3]
      unfold findG
      rw [List.find?_cons, List.find?_cons]
      have hx : sameG d' n' x = sameG d' n' g' := by
        unfold sameG at hb ⊢
        rw [Bool.and_eq_true, beqL_eq, beqL_eq] at hb
        simp only [beq_iff_eq] at hb
        rw [hd, hn, ← hb.1, ← hb.2]
      rw [hx]
      cases sameG d' n' g' <;> rfl
    | false =>
      rw [hb] at h
      have h3 : setG d n g' (x :: l) = x :: setG d n g' l := by simp [setG, hb]
      rw [h3]
      have ih := findG_set d n g' hd hn l g h d' n'
      unfold findG at ih ⊢
      rw [List.find?_cons, List.find?_cons]
      cases hx : sameG d' n' x with
      | false => exact ih
      | true =>
        have : sameG d' n' g' = false := by
          cases hg : sameG d' n' g' with
          | false => rfl
          | true =>
            unfold sameG at hb hx hg
            rw [Bool.and_eq_true, beqL_eq, beqL_eq] at hx hg
            simp only [beq_iff_eq] at hx hg
            rw [← hd, ← hn, ← hg.1, ← hg.2, hx.1, hx.2, beqL_self, beqL_self] at hb
            cases hb
        rw [this]; rfl
theorem mem_set {d n : ByteArray} {g' : Gr} : ∀ {l : List Gr} {g : Gr}, findG l d n = some g → l.Pairwise (fun a b => a.b ≠ b.b) → ∀ x ∈ setG d n g' l, x = g' ∨ (x ∈ l ∧ x.b ≠ g.b)
  | [], g, h, _, _, hx => by cases hx
  | y :: l, g, h, hp, x, hx => by
    unfold findG at h
    rw [List.find?_cons] at h
    rw [List.pairwise_cons] at hp
    cases hb : sameG d n y with
    | true =>
      rw [hb] at h
      have h3 : setG d n g' (y :: l) = g' :: l := by simp [setG, hb]
      rw [h3] at hx
      cases h
      rcases List.mem_cons.1 hx with rfl | hx
      · exact .inl rfl
      · exact .inr ⟨List.mem_cons_of_mem _ hx, fun e => hp.1 x hx e.symm⟩
    | false =>
      rw [hb] at h
      have h3 : setG d n g' (y :: l) = y :: setG d n g' l := by simp [setG, hb]
      rw [h3] at hx
      have hg : g ∈ l := List.mem_of_find?_eq_some h
      rcases List.mem_cons.1 hx with rfl | hx
      · exact .inr ⟨List.mem_cons_self, hp.1 g hg⟩
      · rcases mem_set (g' := g') h hp.2 x hx with h4 | ⟨h4, h5⟩
        · exact .inl h4
        · exact .inr ⟨List.mem_cons_of_mem _ h4, h5⟩
theorem dist_set {d n : ByteArray} {g' : Gr} : ∀ {l : List Gr}, l.Pairwise (fun a b => a.b ≠ b.b) → (∀ x ∈ l, x.b ≠ g'.b) → (setG d n g' l).Pairwise fun a b => a.b ≠ b.b
  | [], h, _ => by exact List.Pairwise.nil
  | y :: l, h, hf => by
    rw [List.pairwise_cons] at h
    unfold setG
    split
    · exact List.pairwise_cons.2 ⟨fun x hx => (hf x (List.mem_cons_of_mem _ hx)).symm, h.2⟩
    · refine List.pairwise_cons.2 ⟨fun x hx => ?_, dist_set h.2 fun x hx => hf x (List.mem_cons_of_mem _ hx)⟩
      have key : ∀ (l : List Gr), x ∈ setG d n g' l → x = g' ∨ x ∈ l := by
        intro l
        induction l with
        | nil => intro h; cases h
        | cons z l ih =>
          intro h
          unfold setG at h
          split at h
          · rcases List.mem_cons.1 h with rfl | h
            · exact .inl rfl
            · exact .inr (List.mem_cons_of_mem _ h)
          · rcases List.mem_cons.1 h with rfl | h
            · exact .inr List.mem_cons_self
            · rcases ih h with h | h
              · exact .inl h
              · exact .inr (List.mem_cons_of_mem _ h)
      rcases key l hx with rfl | hx
      · exact hf y List.mem_cons_self
      · exact h.1 x hx
theorem mem_findG {l : List Gr} {d n : ByteArray} {g : Gr} (h : findG l d n = some g) : g ∈ l ∧ keyG g.d g.n = keyG d n := by
  refine ⟨List.mem_of_find?_eq_some h, ?_⟩
  have := List.find?_some h
  unfold sameG at this
  rw [Bool.and_eq_true, beqL_eq, beqL_eq] at this
  simp only [beq_iff_eq] at this
  have h1 : ∀ {a b : ByteArray}, a.data.toList = b.data.toList → a = b := fun {a b} e => by
    obtain ⟨⟨a⟩⟩ := a; obtain ⟨⟨b⟩⟩ := b; simp only at e; rw [e]
  rw [h1 this.1, h1 this.2]
theorem TI.more {lo mt : Nat} {s s1 s2 : St} {gs : List Gr} (h : TI lo s mt gs) {d n id : ByteArray} {g : Gr} (hf : findG gs d n = some g) (hm : mt < lo) (h8 : s.n < 32768) (hlo : lo ≤ s.n) (M : Mov s g.b (.cells ((g.ids ++ [id]).map Value.string) 9 false 0) s1)
    (S : Set1 s1 mt (.map (entsG (setG d n ⟨d, n, g.ids ++ [id], s.n⟩ gs) 0) gs.length) s2) : TI lo s2 mt (setG d n ⟨d, n, g.ids ++ [id], s.n⟩ gs) := by
  have hn := M.n
  have hn2 := S.n
  have hat : ∀ b, lo ≤ b → b < s.n → b ≠ g.b → s2.at b = s.at b := fun b h1 h2 h3 => (S.keep b (by omega) (by omega)).trans (M.keep b (by omega) (by omega) h3)
  refine ⟨by rw [S.new, setG_len], fun x hx => ?_, fun x hx => ?_, dist_set h.dist fun x hx => by have := (h.lt x hx).2; show x.b ≠ s.n; omega⟩
  · rcases mem_set hf h.dist x hx with rfl | ⟨h1, h2⟩
    · refine ⟨false, ?_⟩
      show s2.at s.n = _
      rw [S.keep _ (by omega) (by omega)]; exact M.new
    · rw [hat x.b (h.lt x h1).1 (h.lt x h1).2 h2]; exact h.row x h1
  · rcases mem_set hf h.dist x hx with rfl | ⟨h1, h2⟩
    · exact ⟨hlo, by show s.n < s2.n; omega⟩
    · have := h.lt x h1; exact ⟨this.1, by omega⟩
theorem TI.first {lo mt : Nat} {s s1 s2 s0 : St} {gs : List Gr} (h : TI lo s0 mt gs) {d n id : ByteArray} {bo : Nat} {o1 : AO} (S0 : Set1 s0 mt o1 s) (hm : mt < lo) (h8 : s.n < 32768) (hlo : lo ≤ s.n) (M : Mov s bo (.cells ([id].map Value.string) 9 false 0) s1) (hbo : bo = s.n)
    (S : Set1 s1 mt (.map (entsG (gs ++ [⟨d, n, [id], s.n⟩]) 0) (gs.length + 1)) s2) : TI lo s2 mt (gs ++ [⟨d, n, [id], s.n⟩]) := by
  have hn := M.n
  have hn2 := S.n
  have hn0 := S0.n
  have hat : ∀ b, lo ≤ b → b < s0.n → s2.at b = s0.at b := fun b h1 h2 => (S.keep b (by omega) (by omega)).trans ((M.keep b (by omega) (by omega) (by omega)).trans (S0.keep b (by omega) (by omega)))
  refine ⟨by rw [S.new, List.length_append]; rfl, fun x hx => ?_, fun x hx => ?_, List.pairwise_append.2 ⟨h.dist, List.pairwise_singleton _ _, fun a ha b hb => ?_⟩⟩
  · rcases List.mem_append.1 hx with hx | hx
    · rw [hat x.b (h.lt x hx).1 (h.lt x hx).2]; exact h.row x hx
    · rw [List.mem_singleton] at hx; subst hx
      refine ⟨false, ?_⟩
      show s2.at s.n = _
      rw [S.keep _ (by omega) (by omega)]; exact M.new
  · rcases List.mem_append.1 hx with hx | hx
    · have := h.lt x hx; exact ⟨this.1, by omega⟩
    · rw [List.mem_singleton] at hx; subst hx
      exact ⟨hlo, by show s.n < s2.n; omega⟩
  · rw [List.mem_singleton] at hb; subst hb
    have := (h.lt a ha).2
    show a.b ≠ s.n
    omega
def TK (L : List It) (pre : List Pv) (gs : List Gr) : Prop := ∀ d n, ((findG gs d n).map Gr.ids).getD [] = termsOf L pre d n
theorem isDef_key {L : List It} {p : Pv} {d n : ByteArray} (hk : ieq p.kind 1 = true) : isDef L d n p = (beqL d.data.toList (parOf L p.id).data.toList && beqL n.data.toList p.name.data.toList) := by
  unfold isDef; rw [hk]; rfl
theorem TK.not {L : List It} {pre : List Pv} {gs : List Gr} {p : Pv} (h : TK L pre gs) (hk : ieq p.kind 1 = false) : TK L (pre ++ [p]) gs := fun d n => by
  rw [termsOf_app, h d n]
  have : isDef L d n p = false := by unfold isDef; rw [hk]; rfl
  rw [this]; simp
theorem TK.more {L : List It} {pre : List Pv} {gs : List Gr} {p : Pv} {g : Gr} {b : Nat} (h : TK L pre gs) (hk : ieq p.kind 1 = true) (hf : findG gs (parOf L p.id) p.name = some g) : TK L (pre ++ [p]) (setG (parOf L p.id) p.name ⟨parOf L p.id, p.name, g.ids ++ [p.id], b⟩ gs) := fun d n => by
  rw [termsOf_app, findG_set (parOf L p.id) p.name ⟨parOf L p.id, p.name, g.ids ++ [p.id], b⟩ rfl rfl gs g hf d n]
  have h1 : sameG d n ⟨parOf L p.id, p.name, g.ids ++ [p.id], b⟩ = isDef L d n p := by rw [isDef_key hk]; rfl
  rw [h1]
  cases h2 : isDef L d n p with
  | false => simpa using h d n
  | true =>
    have h3 := h d n
    have h4 : findG gs d n = some g := by
      rw [isDef_key hk, Bool.and_eq_true, beqL_eq, beqL_eq] at h2
      simp only [beq_iff_eq] at h2
      have e : ∀ {a b : ByteArray}, a.data.toList = b.data.toList → a = b := fun {a b} e => by
        obtain ⟨⟨a⟩⟩ := a; obtain ⟨⟨b⟩⟩ := b; simp only at e; rw [e]
      rw [e h2.1, e h2.2]; exact hf
    rw [h4] at h3
    simp only [Option.map_some, Option.getD_some] at h3
    simp [← h3]
theorem TK.first {L : List It} {pre : List Pv} {gs : List Gr} {p : Pv} {b : Nat} (h : TK L pre gs) (hk : ieq p.kind 1 = true) (hf : findG gs (parOf L p.id) p.name = none) : TK L (pre ++ [p]) (gs ++ [⟨parOf L p.id, p.name, [p.id], b⟩]) := fun d n => by
  rw [termsOf_app]
  have h1 : sameG d n ⟨parOf L p.id, p.name, [p.id], b⟩ = isDef L d n p := by rw [isDef_key hk]; rfl
  have h0 := h d n
  unfold findG at h0 ⊢
  rw [List.find?_append]
  cases h2 : isDef L d n p with
  | false =>
    have : List.find? (sameG d n) [⟨parOf L p.id, p.name, [p.id], b⟩] = none := by rw [List.find?_cons, h1, h2]; rfl
    rw [this, Option.or_none]
    simpa using h0
  | true =>
    have h4 : findG gs d n = none := by
      rw [isDef_key hk, Bool.and_eq_true, beqL_eq, beqL_eq] at h2
      simp only [beq_iff_eq] at h2
      have e : ∀ {a b : ByteArray}, a.data.toList = b.data.toList → a = b := fun {a b} e => by
        obtain ⟨⟨a⟩⟩ := a; obtain ⟨⟨b⟩⟩ := b; simp only at e; rw [e]
      rw [e h2.1, e h2.2]; exact hf
    unfold findG at h4
    rw [h4] at h0 ⊢
    have : List.find? (sameG d n) [⟨parOf L p.id, p.name, [p.id], b⟩] = some ⟨parOf L p.id, p.name, [p.id], b⟩ := by rw [List.find?_cons, h1, h2]
    rw [this, Option.none_or]
    simp only [Option.map_none, Option.getD_none] at h0
    simp [← h0]
end
end Go.Eng
end
section
namespace Go.Eng
open Go.Proofs
noncomputable section
def IsPvs (N : Base) (V : Value) (l : List Pv) : Prop := ∃ A c, V = lit (.slice A l.length c) ∧ ∀ j p, l[j]? = some p → ∃ a l', A = some a ∧ CellsN N (a.add (j * 23)) l' ∧ l'.length = 23 ∧ ∀ φ, RVs φ p.cells l'
structure OI (s0 s : St) (V : Value) (rm : Option Nat) (L : List It) (b2 : Nat) (pre : List Pv) (gs : List Gr) : Prop where
  grow : Grow s0 s
  lo : s0.n ≤ b2
  hi : b2 + 3 ≤ s.n
  mi : MapI s rm L
  lt : ∀ m, rm = some m → m < b2
  sc : s.at (b2 + 2) = some (.cells [.map rm, V, .map (some b2), .map (some (b2 + 1))] 94 true 0)
  by_ : s.at b2 = some (.map (entsP pre 0) pre.length)
  ti : TI (b2 + 3) s (b2 + 1) gs
theorem MapI.keep {s s' : St} {rm : Option Nat} {L : List It} (h : MapI s rm L) (hn : s.n ≤ s'.n) (hk : ∀ m, rm = some m → s'.at m = s.at m) : MapI s' rm L := by
  cases rm with
  | none => exact h
  | some m => exact ⟨Nat.lt_of_lt_of_le h.1 hn, (hk m rfl).trans h.2⟩
theorem OI.keep {s0 s s' : St} {V : Value} {rm : Option Nat} {L : List It} {b2 : Nat} {pre : List Pv} {gs : List Gr} (h : OI s0 s V rm L b2 pre gs) (g : Grow s s') (h8 : s.n ≤ 32768) : OI s0 s' V rm L b2 pre gs := by
  have hle := g.le
  have hhi := h.hi
  have hlo := h.lo
  have h0 := h.grow.le
  refine ⟨⟨by omega, fun b hb h9 => ?_⟩, h.lo, by omega, h.mi.keep hle fun m hm => g.keep m ?_ ?_, h.lt, ?_, ?_, h.ti.keep hle (g.keep _ (by omega) (by omega)) fun b _ h2 => g.keep b h2 (by omega)⟩
  · exact (g.keep b (by omega) h9).trans (h.grow.keep b hb h9)
  · have := h.lt m hm; omega
  · have := h.lt m hm; omega
  · exact (g.keep _ (by omega) (by omega)).trans h.sc
  · exact (g.keep _ (by omega) (by omega)).trans h.by_
theorem OI.put {s0 s s' : St} {V : Value} {rm : Option Nat} {L : List It} {b2 : Nat} {pre : List Pv} {gs : List Gr} {p : Pv} (h : OI s0 s V rm L b2 pre gs) (h8 : s.n ≤ 32768) (S : Set1 s b2 (.map (addK (entsP pre 0) (.string p.id) (.agg ⟨p.cells⟩) pre.length) (pre.length + 1)) s') : OI s0 s' V rm L b2 (pre ++ [p]) gs := by
  have hn := S.n
  have hhi := h.hi
  have hlo := h.lo
  refine ⟨h.grow.set S h.lo, h.lo, by omega, h.mi.keep (by omega) fun m hm => S.keep m ?_ ?_, h.lt, ?_, ?_, h.ti.keep (by omega) (S.keep _ (by omega) (by omega)) fun b h1 h2 => S.keep b (by omega) (by omega)⟩
  · have := h.lt m hm; omega
  · have := h.lt m hm; omega
  · exact (S.keep _ (by omega) (by omega)).trans h.sc
  · rw [S.new, entsP_app, List.length_append, Nat.zero_add]
    unfold addK
    rw [app_eq]
    rfl
theorem OI.grp {s0 s s' : St} {V : Value} {rm : Option Nat} {L : List It} {b2 : Nat} {pre : List Pv} {gs gs' : List Gr} (h : OI s0 s V rm L b2 pre gs) (hn : s.n ≤ s'.n) (h8 : s.n ≤ 32768) (hk : ∀ b, b < b2 + 3 → b ≠ b2 + 1 → s'.at b = s.at b) (ti : TI (b2 + 3) s' (b2 + 1) gs') : OI s0 s' V rm L b2 pre gs' := by
  have hhi := h.hi
  have hlo := h.lo
  have h0 := h.grow.le
  refine ⟨⟨by omega, fun b hb h9 => ?_⟩, h.lo, by omega, h.mi.keep hn fun m hm => hk m ?_ ?_, h.lt, ?_, ?_, ti⟩
  · exact (hk b (by omega) (by omega)).trans (h.grow.keep b hb h9)
  · have := h.lt m hm; omega
  · have := h.lt m hm; omega
  · exact (hk _ (by omega) (by omega)).trans h.sc
  · exact (hk _ (by omega) (by omega)).trans h.by_
def goodP (L : List It) (P : List Pv) : Prop := plainGo [] L ≠ none ∧ fitsGo L [] P = true
def OpenR (s : St) (L : List It) (P : List Pv) (V : Value) (N : Base) (v : Value) (s' : St) (N' : Base) : Prop := N' = N ∧ Grow s s' ∧ s'.n ≤ s.n + 10 + 3 * L.length + 6 * P.length ∧
  ((¬ goodP L P ∧ ∃ x, v = .tuple #[x, .bool false]) ∨ (goodP L P ∧ ∃ mi b2 gs, v = .tuple #[.pointer (some ⟨b2 + 2, 0, none⟩), .bool true] ∧ OI s s' V (some mi) L b2 P gs ∧ TK L P gs))
variable {N : Base} {s : St} {V VP : Value} {L : List It} {P : List Pv}
theorem open_calls (hV : IsItems N V L) (hP : IsPvs N VP P) (hn : s.n + 10 + 3 * L.length + 6 * P.length < 32768) : ACalls EG N 42 [.agg ⟨[V]⟩, VP] s (OpenR s L P VP N) := by
  obtain ⟨AP, cP, rfl, hx⟩ := hP
  have hV0 := hV
  obtain ⟨AV, cV, rfl, hxV⟩ := hV
  generalize hVV : lit (.slice AV L.length cV) = V at hV0
  have hVv : vcs V = some [V] := by rw [← hVV]; kernel_rfl
  clear hxV
  refine ACalls.of_body eok2G (F := Tryz.f42) (by kernel_rfl) rfl (by simp [Tryz.f42]) (by decide) ?_
  refine AW.seq (AW.region eokG ?_)
  refine aop_valX rfl (e_box (E := EG) (t := 24) (l := [V]) (by kernel_rfl) (by omega)) fun s1 N1 => ?_
  have N1n := N1.n
  refine aop_val rfl (v := .pointer none) (s1 := s1) (by kernel_rfl) ?_
  refine aop_val rfl (v := .bool false) (s1 := s1) (by kernel_rfl) ?_
  have G1 : Grow s s1 := (Grow.refl s).new N1
  refine AW.keep [(1, lit (.slice AP P.length cP)), (2, .pointer (some ⟨s.n, 0, none⟩))] ⟨⟨rfl, by kernel_rfl⟩, ⟨rfl, by kernel_rfl⟩, trivial⟩ ?_
  refine AW.seq (AW.region eokG ?_)
  refine aop_val rfl (v := .agg ⟨[V]⟩) (s1 := s1) (e_loadN (n := 1) (b := s.n) (off := 0) (by kernel_rfl) N1.new (by kernel_rfl) (by kernel_rfl) (by kernel_rfl)) ?_
  refine aop_call rfl (g := 55) (args := [.agg ⟨[V]⟩]) (s1 := s1) (by kernel_rfl) (items_calls hV0 (by omega)) ?_
  rintro v s2 N2 _ ⟨hN2, G2, hn2, hcase⟩
  have hN2 := hN2.symm
  subst hN2
  obtain ⟨rm, pl, L0, rfl, hmi, hp1, hp0⟩ : ∃ (rm : Option Nat) (pl : Bool) (L0 : List It), v = .tuple #[.map rm, .bool pl] ∧ MapI s2 rm L0 ∧ (pl = true → plainGo [] L ≠ none ∧ L0 = L ∧ ∃ m, rm = some m) ∧ (pl = false → plainGo [] L = none) := by
    rcases hcase with ⟨h1, rfl⟩ | ⟨m, h1, h2, h3, rfl, h5⟩
    · exact ⟨none, false, [], rfl, rfl, (fun h => by cases h), fun _ => h1⟩
    · exact ⟨some m, true, L, rfl, ⟨h3, h5⟩, fun _ => ⟨h1, rfl, m, rfl⟩, (fun h => by cases h)⟩
  have N1n := N1.n
  refine aop_val rfl (v := .tuple ⟨[.map rm, .bool pl]⟩) (s1 := s2) (by kernel_rfl) ?_
  refine aop_val rfl (v := .map rm) (s1 := s2) (by kernel_rfl) ?_
  refine aop_val rfl (v := .bool pl) (s1 := s2) (by kernel_rfl) ?_
  refine aop_val rfl (v := .map rm) (s1 := s2) (by kernel_rfl) ?_
  refine aop_val rfl (v := .bool pl) (s1 := s2) (by kernel_rfl) ?_
  have GA : Grow s s2 := ⟨Nat.le_trans G1.le G2.le, fun b hb h8 => (G2.keep b (by omega) h8).trans (G1.keep b hb h8)⟩
  refine AW.keep [(1, lit (.slice AP P.length cP)), (6, .map rm), (7, .bool pl)] ⟨⟨rfl, by kernel_rfl⟩, ⟨rfl, by kernel_rfl⟩, ⟨rfl, by kernel_rfl⟩, trivial⟩ ?_
  refine AW.seq (AW.region eokG ?_)
  refine aop_val rfl (v := .map rm) (s1 := s2) (by kernel_rfl) ?_
  refine aop_val rfl (v := lit (.slice AP P.length cP)) (s1 := s2) (by kernel_rfl) ?_
  refine aop_valX rfl (e_makeMap (by omega)) fun s3 N3 => ?_
  have N3n := N3.n
  refine aop_valX rfl (e_makeMap (by omega)) fun s4 N4 => ?_
  have N4n := N4.n
  refine aop_val rfl (v := .agg ⟨[.map rm, lit (.slice AP P.length cP), .map (some s2.n), .map (some s3.n)]⟩) (s1 := s4) (by kernel_rfl) ?_
  refine aop_valX rfl (e_box (E := EG) (t := 94) (l := [.map rm, lit (.slice AP P.length cP), .map (some s2.n), .map (some s3.n)]) (by kernel_rfl) (by omega)) fun s5 N5 => ?_
  have N5n := N5.n
  refine aop_val rfl (v := .pointer (some ⟨s4.n, 0, none⟩)) (s1 := s5) (by kernel_rfl) ?_
  refine AW.keep [(1, lit (.slice AP P.length cP)), (6, .map rm), (7, .bool pl), (8, .pointer (some ⟨s4.n, 0, none⟩))] ⟨⟨rfl, by kernel_rfl⟩, ⟨rfl, by kernel_rfl⟩, ⟨rfl, by kernel_rfl⟩, ⟨rfl, by kernel_rfl⟩, trivial⟩ ?_
  have e4 : s4.n = s2.n + 2 := by omega
  have e3 : s3.n = s2.n + 1 := by omega
  have GAn := GA.le
  have hOI : OI s s5 (lit (.slice AP P.length cP)) rm L0 s2.n [] [] := by
    refine ⟨((GA.new N3).new N4).new N5, by omega, by omega, hmi.keep (by omega) fun m hm => ?_, fun m hm => ?_, ?_, ?_, ⟨?_, (fun g hg => by cases hg), (fun g hg => by cases hg), List.Pairwise.nil⟩⟩
    · rw [hm] at hmi
      have := hmi.1
      exact (N5.keep _ (by omega) (by omega)).trans ((N4.keep _ (by omega) (by omega)).trans (N3.keep _ (by omega) (by omega)))
    · rw [hm] at hmi
      exact hmi.1
    · rw [← e4, ← e3]; exact N5.new
    · exact (N5.keep _ (by omega) (by omega)).trans ((N4.keep _ (by omega) (by omega)).trans N3.new)
    · rw [← e3]; exact (N5.keep _ (by omega) (by omega)).trans N4.new
  rw [e4]
  refine AW.seq (AW.seq (AW.region eokG ?_) )
  refine aop_val rfl (v := lit (.slice AP P.length cP)) (s1 := s5) (by kernel_rfl) ?_
  refine aop_v rfl (natV P.length) (v_len eokG (e := 59) (a := AP) (c := cP) (by kernel_rfl) rfl (by kernel_rfl)) ?_
  refine aop_val rfl (v := .int .i64 ((0 : Nat) : Int)) (s1 := s5) (by kernel_rfl) ?_
  refine AW.block (AW.loop (G := Nat) (fun j tm df s' N' => N' = N ∧ j ≤ P.length ∧ Has tm [(6, .map rm), (7, .bool pl), (8, .pointer (some ⟨s2.n + 2, 0, none⟩)), (26, lit (.slice AP P.length cP)), (27, natV P.length), (28, .int .i64 (j : Int))] ∧ df = [] ∧ s'.n ≤ s5.n + 6 * j ∧ ∃ gs, OI s s' (lit (.slice AP P.length cP)) rm L0 s2.n (P.take j) gs ∧ TK L0 (P.take j) gs ∧ (0 < j → pl = true) ∧ fitsGo L0 (P.take j) (P.drop j) = fitsGo L0 [] P) (fun j => P.length - j) 0
    ⟨rfl, Nat.zero_le _, ⟨⟨rfl, by kernel_rfl⟩, ⟨rfl, by kernel_rfl⟩, ⟨rfl, by kernel_rfl⟩, ⟨rfl, by kernel_rfl⟩, ⟨rfl, by kernel_rfl⟩, ⟨rfl, by kernel_rfl⟩, trivial⟩, rfl, by omega, [], hOI, fun _ _ => rfl, fun h => absurd h (Nat.lt_irrefl _), rfl⟩ ?_)
  clear hOI N3 N4 N5 G1 G2 hcase N1
  rintro j tm df s6 N6 _ ⟨hN6, hj, htm, rfl, hs6, gs, I6, hTK, hpl, hfit⟩
  have hN6 := hN6.symm
  subst hN6
  refine AW.keep _ htm ?_
  clear htm
  refine AW.seq (AW.region eokG ?_)
  refine aop_val rfl (v := .bool (!ile (Int.ofNat P.length) (j : Int))) (s1 := s6) (by kernel_rfl) ?_
  have hile : (!ile (Int.ofNat P.length) (j : Int)) = decide (j < P.length) := by
    show (!Nat.ble P.length j) = _
    by_cases h : j < P.length
    · have : Nat.ble P.length j = false := by
        cases e : Nat.ble P.length j with
        | false => rfl
        | true => have := Nat.le_of_ble_eq_true e; omega
      simp [this, h]
    · have : Nat.ble P.length j = true := Nat.ble_eq_true_of_le (by omega)
      simp [this, h]
  rw [hile]
  have hhi := I6.hi
  have hlo := I6.lo
  by_cases hlt : j < P.length
  · rw [show decide (j < P.length) = true from by simp [hlt]]
    refine AW.keep [(6, .map rm), (7, .bool pl), (8, .pointer (some ⟨s2.n + 2, 0, none⟩)), (26, lit (.slice AP P.length cP)), (27, natV P.length), (28, .int .i64 (j : Int)), (29, .bool true)] ⟨⟨rfl, by kernel_rfl⟩, ⟨rfl, by kernel_rfl⟩, ⟨rfl, by kernel_rfl⟩, ⟨rfl, by kernel_rfl⟩, ⟨rfl, by kernel_rfl⟩, ⟨rfl, by kernel_rfl⟩, ⟨rfl, by kernel_rfl⟩, trivial⟩ ?_
    refine AW.seq (AW.cond (t := true) (by kernel_rfl) (AW.skip ?_))
    have hxj : P[j]? = some P[j] := List.getElem?_eq_getElem hlt
    generalize P[j] = p at hxj
    obtain ⟨a, l', rfl, hr, hl', hrv⟩ := hx j p hxj
    refine AW.seq (AW.block ?_)
    refine AW.seq (AW.region eokG ?_)
    refine aop_v rfl (lit (.pointer (some (a.add (j * 23))))) (v_indexAddr eokG (e := 59) (size := 23) (k := .i64) (c := cP) (by kernel_rfl) (by kernel_rfl) (by kernel_rfl) (by kernel_rfl) hlt) ?_
    refine aop_v rfl (.agg ⟨p.cells⟩) (v_loadN eokG (a := a.add (j * 23)) (by kernel_rfl) hr hrv (by kernel_rfl) (by rw [hl']; kernel_rfl)) ?_
    refine aop_valX rfl (e_alloc zero59c (by omega)) fun s7 N7 => ?_
    have N7n := N7.n
    refine aop_skipX rfl (e_store (b := s6.n) (o := 0) (n := 23) (l := p.cells) (by kernel_rfl) (by kernel_rfl) (by kernel_rfl) (by omega) (Nat.zero_le _) N7.new (by kernel_rfl) p.scal p.lenB (writeAt_all (p.clen.trans pvZ.clen.symm))) fun s8 S8 => ?_
    have S8n := S8.n
    have G8 : Grow s6 s8 := ((Grow.refl s6).new N7).set S8 (by omega)
    have I8 := I6.keep G8 (by omega)
    have hp8 : s8.at s6.n = some (.cells p.cells 59 true 0) := S8.new
    refine AW.keep [(6, .map rm), (7, .bool pl), (8, .pointer (some ⟨s2.n + 2, 0, none⟩)), (10, .pointer (some ⟨s6.n, 0, none⟩)), (26, lit (.slice (some a) P.length cP)), (27, natV P.length), (28, .int .i64 (j : Int))] ⟨⟨rfl, by kernel_rfl⟩, ⟨rfl, by kernel_rfl⟩, ⟨rfl, by kernel_rfl⟩, ⟨rfl, by kernel_rfl⟩, ⟨rfl, by kernel_rfl⟩, ⟨rfl, by kernel_rfl⟩, ⟨rfl, by kernel_rfl⟩, trivial⟩ ?_
    refine AW.seq (AW.drawnF eok2G (by kernel_rfl) (by kernel_rfl) ?_)
    refine FD.still0X 0 (.pointer (some ⟨s2.n + 2, 0, none⟩)) rfl (by kernel_rfl) rfl (s1 := s8) (by kernel_rfl) (by kernel_rfl) ?_
    refine FD.still0X 1 (.pointer (some ⟨s2.n + 2, 0, none⟩)) rfl (by kernel_rfl) rfl (s1 := s8) (by kernel_rfl) (by kernel_rfl) ?_
    refine FD.still0X 3 (.pointer (some ⟨s2.n + 2, 2, none⟩)) rfl (by kernel_rfl) rfl (s1 := s8) (by kernel_rfl) (by kernel_rfl) ?_
    refine FD.still0X 7 (.map (some s2.n)) rfl (by kernel_rfl) rfl (s1 := s8) (e_load1 (b := s2.n + 2) (off := 2) (by kernel_rfl) I8.sc (by kernel_rfl) rfl) (by kernel_rfl) ?_
    refine FD.still0X 0 (.pointer (some ⟨s6.n, 0, none⟩)) rfl (by kernel_rfl) rfl (s1 := s8) (by kernel_rfl) (by kernel_rfl) ?_
    refine FD.still0X 16 (.string p.id) rfl (by kernel_rfl) rfl (s1 := s8) (e_load1 (b := s6.n) (off := 0) (by kernel_rfl) hp8 (by kernel_rfl) rfl) (by kernel_rfl) ?_
    obtain ⟨e8, he8, hle8⟩ := look_entsP p.id (P.take j) 0
    generalize hq : (findPv (P.take j) p.id).getD pvZ = q at hle8
    generalize htw : (findPv (P.take j) p.id).isSome = tw at hle8
    refine FD.still0 63 (.tuple ⟨[.agg ⟨q.cells⟩, .bool tw]⟩) rfl (by kernel_rfl) rfl (s1 := s8) (by rw [← hle8]; exact e_lookup mapT91 zero59 (by kernel_rfl) (by kernel_rfl) I8.by_ he8) ((Sm.tuple (d := 2) (by intro v hv; rcases List.mem_cons.1 hv with rfl | hv; exact Sm.agg (Sm.flats q.flat); rcases List.mem_cons.1 hv with rfl | hv; exact (Sm.flat rfl).up (by decide); cases hv)).up (by decide)) ?_
    refine FD.still0 127 (.tuple ⟨[.agg ⟨q.cells⟩, .bool tw]⟩) rfl (by kernel_rfl) rfl (s1 := s8) (by kernel_rfl) ((Sm.tuple (d := 2) (by intro v hv; rcases List.mem_cons.1 hv with rfl | hv; exact Sm.agg (Sm.flats q.flat); rcases List.mem_cons.1 hv with rfl | hv; exact (Sm.flat rfl).up (by decide); cases hv)).up (by decide)) ?_
    refine FD.still0 255 (.agg ⟨q.cells⟩) rfl (by kernel_rfl) rfl (s1 := s8) (by kernel_rfl) ((Sm.agg (Sm.flats q.flat)).up (by decide)) ?_
    refine FD.still0X 255 (.bool tw) rfl (by kernel_rfl) rfl (s1 := s8) (by kernel_rfl) (by kernel_rfl) ?_
    refine FD.allocX 0 (.pointer (some ⟨s8.n, 0, none⟩)) rfl (by kernel_rfl) rfl (e_alloc zero59c (by omega)) fun s9 N9 => ?_
    have N9n := N9.n
    refine FD.skipX 1535 rfl (by kernel_rfl) rfl (by kernel_rfl) (e_store (b := s8.n) (o := 0) (n := 23) (l := q.cells) (by kernel_rfl) (by kernel_rfl) (by kernel_rfl) (by omega) (Nat.zero_le _) N9.new (by kernel_rfl) q.scal q.lenB (writeAt_all (q.clen.trans pvZ.clen.symm))) (fun _ => by cases tw <;> kernel_rfl) fun s10 S10 => ?_
    have S10n := S10.n
    refine FD.act 4095 (.bool tw) rfl (by kernel_rfl) rfl (by kernel_rfl) (s1 := s10) (by kernel_rfl) (by kernel_rfl) ?_
    refine FD.nil ?_
    have G10 : Grow s6 s10 := (G8.new N9).set S10 (by omega)
    have I10 := I6.keep G10 (by omega)
    have hp10 : s10.at s6.n = some (.cells p.cells 59 true 0) := (S10.keep _ (by omega) (by omega)).trans ((N9.keep _ (by omega) (by omega)).trans hp8)
    refine AW.keep [(6, .map rm), (7, .bool pl), (8, .pointer (some ⟨s2.n + 2, 0, none⟩)), (10, .pointer (some ⟨s6.n, 0, none⟩)), (12, .bool tw), (26, lit (.slice (some a) P.length cP)), (27, natV P.length), (28, .int .i64 (j : Int))] ⟨⟨rfl, by kernel_rfl⟩, ⟨rfl, by kernel_rfl⟩, ⟨rfl, by kernel_rfl⟩, ⟨rfl, by kernel_rfl⟩, ⟨rfl, by kernel_rfl⟩, ⟨rfl, by kernel_rfl⟩, ⟨rfl, by kernel_rfl⟩, ⟨rfl, by kernel_rfl⟩, trivial⟩ ?_
    refine AW.seq (AW.region eokG ?_)
    refine aop_val rfl (v := .map rm) (s1 := s10) (by kernel_rfl) ?_
    refine aop_val rfl (v := .pointer (some ⟨s6.n, 0, none⟩)) (s1 := s10) (by kernel_rfl) ?_
    refine aop_val rfl (v := .string p.id) (s1 := s10) (e_load1 (b := s6.n) (off := 0) (by kernel_rfl) hp10 (by kernel_rfl) rfl) ?_
    generalize hx0 : (findIt L0 p.id).getD itZ = x
    refine aop_val rfl (v := .agg ⟨x.cells⟩) (s1 := s10) (by rw [← hx0]; exact e_lookI I10.mi (by kernel_rfl) (by kernel_rfl)) ?_
    refine aop_valX rfl (e_alloc zero61c (by omega)) fun s11 N11 => ?_
    have N11n := N11.n
    refine aop_skipX rfl (e_store (b := s10.n) (o := 0) (n := 7) (l := x.cells) (by kernel_rfl) (by kernel_rfl) (by kernel_rfl) (by omega) (Nat.zero_le _) N11.new (by kernel_rfl) (by kernel_rfl) (by kernel_rfl) (show writeAt 0 x.cells itZ.cells = some x.cells from by kernel_rfl)) fun s12 S12 => ?_
    have S12n := S12.n
    have G12 : Grow s6 s12 := (G10.new N11).set S12 (by omega)
    have I12 := I6.keep G12 (by omega)
    have hp12 : s12.at s6.n = some (.cells p.cells 59 true 0) := (S12.keep _ (by omega) (by omega)).trans ((N11.keep _ (by omega) (by omega)).trans hp10)
    have hi12 : s12.at s10.n = some (.cells x.cells 61 true 0) := S12.new
    refine AW.keep [(6, .map rm), (7, .bool pl), (8, .pointer (some ⟨s2.n + 2, 0, none⟩)), (10, .pointer (some ⟨s6.n, 0, none⟩)), (12, .bool tw), (13, .pointer (some ⟨s10.n, 0, none⟩)), (26, lit (.slice (some a) P.length cP)), (27, natV P.length), (28, .int .i64 (j : Int))] ⟨⟨rfl, by kernel_rfl⟩, ⟨rfl, by kernel_rfl⟩, ⟨rfl, by kernel_rfl⟩, ⟨rfl, by kernel_rfl⟩, ⟨rfl, by kernel_rfl⟩, ⟨rfl, by kernel_rfl⟩, ⟨rfl, by kernel_rfl⟩, ⟨rfl, by kernel_rfl⟩, ⟨rfl, by kernel_rfl⟩, trivial⟩ ?_
    have hfs : fitsGo L0 (P.take j) (P.drop j) = if tw || !ieq x.kind 2 then false else fitsGo L0 (P.take (j + 1)) (P.drop (j + 1)) := by
      have hd : P.drop j = p :: P.drop (j + 1) := by rw [List.drop_eq_getElem_cons hlt]; rw [List.getElem?_eq_getElem hlt] at hxj; cases hxj; rfl
      have ht : P.take (j + 1) = P.take j ++ [p] := by rw [List.take_add_one, hxj]; rfl
      rw [hd, ht, ← htw, ← hx0]
      rfl
    rw [hfs] at hfit
    refine AW.seq (AW.seq (AW.region eokG ?_))
    cases pl with
    | false =>
      refine aop_val rfl (v := .bool false) (s1 := s12) (by kernel_rfl) ?_
      refine aop_val rfl (v := .bool true) (s1 := s12) (by kernel_rfl) ?_
      refine aop_val rfl (v := .bool true) (s1 := s12) (by kernel_rfl) ?_
      refine aop_wanted (b := false) (by kernel_rfl) (fun _ => ?_) (fun h => by cases h)
      refine aop_val rfl (v := .bool true) (s1 := s12) (by kernel_rfl) ?_
      refine aop_val rfl (v := .bool true) (s1 := s12) (by kernel_rfl) ?_
      refine aop_wanted (b := false) (by kernel_rfl) (fun _ => ?_) (fun h => by cases h)
      refine aop_wanted (b := false) (by kernel_rfl) (fun _ => ?_) (fun h => by cases h)
      refine aop_wanted (b := false) (by kernel_rfl) (fun _ => ?_) (fun h => by cases h)
      refine aop_val rfl (v := .bool true) (s1 := s12) (by kernel_rfl) ?_
      refine AW.keep [(55, .bool true)] ⟨⟨rfl, by kernel_rfl⟩, trivial⟩ ?_
      refine AW.cond (t := true) (by kernel_rfl) (AW.seq (AW.region eokG ?_))
      refine aop_val rfl (v := .pointer none) (s1 := s12) (by kernel_rfl) ?_
      refine aop_val rfl (v := .bool false) (s1 := s12) (by kernel_rfl) ?_
      refine AW.ret ?_
      exact ⟨.inr rfl, rfl, .tuple #[.pointer none, .bool false], by kernel_rfl, rfl, I12.grow, by omega, .inl ⟨fun h => h.1 (hp0 rfl), _, rfl⟩⟩
    | true =>
      obtain ⟨hpg, hL0, mm, hrm⟩ := hp1 rfl
      refine aop_val rfl (v := .bool true) (s1 := s12) (by kernel_rfl) ?_
      refine aop_val rfl (v := .bool false) (s1 := s12) (by kernel_rfl) ?_
      refine aop_val rfl (v := .bool false) (s1 := s12) (by kernel_rfl) ?_
      refine aop_wanted (b := true) (by kernel_rfl) (fun h => by cases h) (fun _ => ⟨.bool tw, s12, by kernel_rfl, ?_⟩)
      refine aop_val rfl (v := .bool tw) (s1 := s12) (by kernel_rfl) ?_
      refine aop_val rfl (v := .bool tw) (s1 := s12) (by kernel_rfl) ?_
      cases tw with
      | true =>
        refine aop_wanted (b := false) (by kernel_rfl) (fun _ => ?_) (fun h => by cases h)
        refine aop_wanted (b := false) (by kernel_rfl) (fun _ => ?_) (fun h => by cases h)
        refine aop_wanted (b := false) (by kernel_rfl) (fun _ => ?_) (fun h => by cases h)
        refine aop_val rfl (v := .bool true) (s1 := s12) (by kernel_rfl) ?_
        refine AW.keep [(55, .bool true)] ⟨⟨rfl, by kernel_rfl⟩, trivial⟩ ?_
        refine AW.cond (t := true) (by kernel_rfl) (AW.seq (AW.region eokG ?_))
        refine aop_val rfl (v := .pointer none) (s1 := s12) (by kernel_rfl) ?_
        refine aop_val rfl (v := .bool false) (s1 := s12) (by kernel_rfl) ?_
        refine AW.ret ?_
        exact ⟨.inr rfl, rfl, .tuple #[.pointer none, .bool false], by kernel_rfl, rfl, I12.grow, by omega, .inl ⟨(fun h => by have h2 := h.2; rw [← hL0, ← hfit] at h2; cases h2), _, rfl⟩⟩
      | false =>
        refine aop_wanted (b := true) (by kernel_rfl) (fun h => by cases h) (fun _ => ⟨.pointer (some ⟨s10.n, 0, none⟩), s12, by kernel_rfl, ?_⟩)
        refine aop_wanted (b := true) (by kernel_rfl) (fun h => by cases h) (fun _ => ⟨.int .i64 x.kind, s12, e_load1 (b := s10.n) (off := 0) (by kernel_rfl) hi12 (by kernel_rfl) rfl, ?_⟩)
        refine aop_wanted (b := true) (by kernel_rfl) (fun h => by cases h) (fun _ => ⟨.bool (!ieq x.kind 2), s12, by kernel_rfl, ?_⟩)
        generalize hkd : (!ieq x.kind 2) = kd at hfit ⊢
        refine aop_val rfl (v := .bool kd) (s1 := s12) (by kernel_rfl) ?_
        cases kd with
        | true =>
          refine AW.keep [(55, .bool true)] ⟨⟨rfl, by kernel_rfl⟩, trivial⟩ ?_
          refine AW.cond (t := true) (by kernel_rfl) (AW.seq (AW.region eokG ?_))
          refine aop_val rfl (v := .pointer none) (s1 := s12) (by kernel_rfl) ?_
          refine aop_val rfl (v := .bool false) (s1 := s12) (by kernel_rfl) ?_
          refine AW.ret ?_
          exact ⟨.inr rfl, rfl, .tuple #[.pointer none, .bool false], by kernel_rfl, rfl, I12.grow, by omega, .inl ⟨(fun h => by have h2 := h.2; rw [← hL0, ← hfit] at h2; cases h2), _, rfl⟩⟩
        | false =>
          refine AW.keep [(6, .map rm), (7, .bool true), (8, .pointer (some ⟨s2.n + 2, 0, none⟩)), (10, .pointer (some ⟨s6.n, 0, none⟩)), (13, .pointer (some ⟨s10.n, 0, none⟩)), (26, lit (.slice (some a) P.length cP)), (27, natV P.length), (28, .int .i64 (j : Int)), (55, .bool false)] ⟨⟨rfl, by kernel_rfl⟩, ⟨rfl, by kernel_rfl⟩, ⟨rfl, by kernel_rfl⟩, ⟨rfl, by kernel_rfl⟩, ⟨rfl, by kernel_rfl⟩, ⟨rfl, by kernel_rfl⟩, ⟨rfl, by kernel_rfl⟩, ⟨rfl, by kernel_rfl⟩, ⟨rfl, by kernel_rfl⟩, trivial⟩ ?_
          refine AW.cond (t := false) (by kernel_rfl) (AW.skip ?_)
          have hfit : fitsGo L0 (P.take (j + 1)) (P.drop (j + 1)) = fitsGo L0 [] P := hfit
          have hnone : findPv (P.take j) p.id = none := by
            cases e : findPv (P.take j) p.id with
            | none => rfl
            | some y => rw [e] at htw; cases htw
          have htake : P.take (j + 1) = P.take j ++ [p] := by rw [List.take_add_one, hxj]; rfl
          refine AW.seq (AW.drawnF eok2G (by kernel_rfl) (by kernel_rfl) ?_)
          refine FD.still0X 0 (.pointer (some ⟨s2.n + 2, 0, none⟩)) rfl (by kernel_rfl) rfl (s1 := s12) (by kernel_rfl) (by kernel_rfl) ?_
          refine FD.still0X 1 (.pointer (some ⟨s2.n + 2, 0, none⟩)) rfl (by kernel_rfl) rfl (s1 := s12) (by kernel_rfl) (by kernel_rfl) ?_
          refine FD.still0X 3 (.pointer (some ⟨s2.n + 2, 2, none⟩)) rfl (by kernel_rfl) rfl (s1 := s12) (by kernel_rfl) (by kernel_rfl) ?_
          refine FD.still0X 7 (.map (some s2.n)) rfl (by kernel_rfl) rfl (s1 := s12) (e_load1 (b := s2.n + 2) (off := 2) (by kernel_rfl) I12.sc (by kernel_rfl) rfl) (by kernel_rfl) ?_
          refine FD.still0X 0 (.pointer (some ⟨s6.n, 0, none⟩)) rfl (by kernel_rfl) rfl (s1 := s12) (by kernel_rfl) (by kernel_rfl) ?_
          refine FD.still0X 16 (.string p.id) rfl (by kernel_rfl) rfl (s1 := s12) (e_load1 (b := s6.n) (off := 0) (by kernel_rfl) hp12 (by kernel_rfl) rfl) (by kernel_rfl) ?_
          refine FD.still0 0 (.agg ⟨p.cells⟩) rfl (by kernel_rfl) rfl (s1 := s12) (e_loadN (n := 23) (b := s6.n) (off := 0) (by kernel_rfl) hp12 (by kernel_rfl) (by kernel_rfl) (readAt_all _ p.clen)) ((Sm.agg (Sm.flats p.flat)).up (by decide)) ?_
          refine FD.skipX 127 rfl (by kernel_rfl) rfl (by kernel_rfl) (e_mapAdd (r := s2.n) mapT91 (by kernel_rfl) (by omega) (Nat.zero_le _) I12.by_ (by kernel_rfl) (put_entsP p.id (.agg ⟨p.cells⟩) (P.take j) 0 hnone)) (fun _ => by kernel_rfl) fun s13 S13 => ?_
          have S13n := S13.n
          refine FD.nil ?_
          have I13 := I12.put (p := p) (by omega) S13
          rw [← htake] at I13
          have hp13 : s13.at s6.n = some (.cells p.cells 59 true 0) := (S13.keep _ (by omega) (by omega)).trans hp12
          have hi13 : s13.at s10.n = some (.cells x.cells 61 true 0) := (S13.keep _ (by omega) (by omega)).trans hi12
          refine AW.keep [(6, .map rm), (7, .bool true), (8, .pointer (some ⟨s2.n + 2, 0, none⟩)), (10, .pointer (some ⟨s6.n, 0, none⟩)), (13, .pointer (some ⟨s10.n, 0, none⟩)), (26, lit (.slice (some a) P.length cP)), (27, natV P.length), (28, .int .i64 (j : Int))] ⟨⟨rfl, by kernel_rfl⟩, ⟨rfl, by kernel_rfl⟩, ⟨rfl, by kernel_rfl⟩, ⟨rfl, by kernel_rfl⟩, ⟨rfl, by kernel_rfl⟩, ⟨rfl, by kernel_rfl⟩, ⟨rfl, by kernel_rfl⟩, ⟨rfl, by kernel_rfl⟩, trivial⟩ ?_
          refine AW.seq (AW.region eokG ?_)
          refine aop_val rfl (v := .pointer (some ⟨s6.n, 2, none⟩)) (s1 := s13) (by kernel_rfl) ?_
          refine aop_val rfl (v := .int .i64 p.kind) (s1 := s13) (e_load1 (b := s6.n) (off := 2) (by kernel_rfl) hp13 (by kernel_rfl) rfl) ?_
          refine aop_val rfl (v := .bool (ieq p.kind 1)) (s1 := s13) (by kernel_rfl) ?_
          generalize hkb : ieq p.kind 1 = kb
          refine AW.keep [(6, .map rm), (7, .bool true), (8, .pointer (some ⟨s2.n + 2, 0, none⟩)), (10, .pointer (some ⟨s6.n, 0, none⟩)), (13, .pointer (some ⟨s10.n, 0, none⟩)), (26, lit (.slice (some a) P.length cP)), (27, natV P.length), (28, .int .i64 (j : Int)), (65, .bool kb)] ⟨⟨rfl, by kernel_rfl⟩, ⟨rfl, by kernel_rfl⟩, ⟨rfl, by kernel_rfl⟩, ⟨rfl, by kernel_rfl⟩, ⟨rfl, by kernel_rfl⟩, ⟨rfl, by kernel_rfl⟩, ⟨rfl, by kernel_rfl⟩, ⟨rfl, by kernel_rfl⟩, ⟨rfl, by kernel_rfl⟩, trivial⟩ ?_
          cases kb with
          | false =>
            refine AW.cond (t := false) (by kernel_rfl) (AW.skip ?_)
            refine AW.keep [(6, .map rm), (7, .bool true), (8, .pointer (some ⟨s2.n + 2, 0, none⟩)), (26, lit (.slice (some a) P.length cP)), (27, natV P.length), (28, .int .i64 (j : Int))] ⟨⟨rfl, by kernel_rfl⟩, ⟨rfl, by kernel_rfl⟩, ⟨rfl, by kernel_rfl⟩, ⟨rfl, by kernel_rfl⟩, ⟨rfl, by kernel_rfl⟩, ⟨rfl, by kernel_rfl⟩, trivial⟩ ?_
            refine AW.region eokG ?_
            refine aop_val rfl (v := .int .i64 ((j + 1 : Nat) : Int)) (s1 := s13) (e_inc (j := j) (by kernel_rfl) (by omega)) ?_
            refine aop_val rfl (v := .int .i64 ((j + 1 : Nat) : Int)) (s1 := s13) (by kernel_rfl) ?_
            refine ⟨j + 1, ⟨rfl, by omega, ⟨⟨rfl, by kernel_rfl⟩, ⟨rfl, by kernel_rfl⟩, ⟨rfl, by kernel_rfl⟩, ⟨rfl, by kernel_rfl⟩, ⟨rfl, by kernel_rfl⟩, ⟨rfl, by kernel_rfl⟩, trivial⟩, rfl, by omega, gs, I13, by rw [htake]; exact hTK.not hkb, fun _ => rfl, hfit⟩, by show P.length - (j + 1) < P.length - j; omega⟩
          | true =>
            refine AW.cond (t := true) (by kernel_rfl) (AW.seq (AW.region eokG ?_))
            refine aop_val rfl (v := .pointer (some ⟨s10.n, 2, none⟩)) (s1 := s13) (by kernel_rfl) ?_
            refine aop_val rfl (v := .string x.par) (s1 := s13) (e_load1 (b := s10.n) (off := 2) (by kernel_rfl) hi13 (by kernel_rfl) rfl) ?_
            refine aop_val rfl (v := .pointer (some ⟨s6.n, 3, none⟩)) (s1 := s13) (by kernel_rfl) ?_
            refine aop_val rfl (v := .string p.name) (s1 := s13) (e_load1 (b := s6.n) (off := 3) (by kernel_rfl) hp13 (by kernel_rfl) rfl) ?_
            refine aop_val rfl (v := .agg ⟨[.string x.par, .string p.name]⟩) (s1 := s13) (by kernel_rfl) ?_
            refine aop_valX rfl (e_alloc zero127c (by omega)) fun s14 N14 => ?_
            have N14n := N14.n
            refine aop_skipX rfl (e_store (b := s13.n) (o := 0) (n := 2) (l := [Value.string x.par, Value.string p.name]) (by kernel_rfl) (by kernel_rfl) (by kernel_rfl) (by omega) (Nat.zero_le _) N14.new (by kernel_rfl) (by kernel_rfl) (by kernel_rfl) (show writeAt 0 [Value.string x.par, Value.string p.name] [Value.string ⟨#[]⟩, Value.string ⟨#[]⟩] = some [Value.string x.par, Value.string p.name] from by kernel_rfl)) fun s15 S15 => ?_
            have S15n := S15.n
            have G15 : Grow s13 s15 := ((Grow.refl s13).new N14).set S15 (by omega)
            have I15 := I13.keep G15 (by omega)
            have hp15 : s15.at s6.n = some (.cells p.cells 59 true 0) := (G15.keep _ (by omega) (by omega)).trans hp13
            refine AW.keep [(6, .map rm), (7, .bool true), (8, .pointer (some ⟨s2.n + 2, 0, none⟩)), (10, .pointer (some ⟨s6.n, 0, none⟩)), (14, .pointer (some ⟨s13.n, 0, none⟩)), (26, lit (.slice (some a) P.length cP)), (27, natV P.length), (28, .int .i64 (j : Int))] ⟨⟨rfl, by kernel_rfl⟩, ⟨rfl, by kernel_rfl⟩, ⟨rfl, by kernel_rfl⟩, ⟨rfl, by kernel_rfl⟩, ⟨rfl, by kernel_rfl⟩, ⟨rfl, by kernel_rfl⟩, ⟨rfl, by kernel_rfl⟩, ⟨rfl, by kernel_rfl⟩, trivial⟩ ?_
            have hpar : x.par = parOf L0 p.id := by rw [← hx0]; rfl
            refine AW.drawnF eok2G (by kernel_rfl) (by kernel_rfl) ?_
            refine FD.still0X 0 (.pointer (some ⟨s2.n + 2, 0, none⟩)) rfl (by kernel_rfl) rfl (s1 := s15) (by kernel_rfl) (by kernel_rfl) ?_
            refine FD.still0X 1 (.pointer (some ⟨s2.n + 2, 0, none⟩)) rfl (by kernel_rfl) rfl (s1 := s15) (by kernel_rfl) (by kernel_rfl) ?_
            refine FD.still0X 3 (.pointer (some ⟨s2.n + 2, 3, none⟩)) rfl (by kernel_rfl) rfl (s1 := s15) (by kernel_rfl) (by kernel_rfl) ?_
            refine FD.still0X 7 (.map (some (s2.n + 1))) rfl (by kernel_rfl) rfl (s1 := s15) (e_load1 (b := s2.n + 2) (off := 3) (by kernel_rfl) I15.sc (by kernel_rfl) rfl) (by kernel_rfl) ?_
            refine FD.still0 0 (.agg ⟨[.string x.par, .string p.name]⟩) rfl (by kernel_rfl) rfl (s1 := s15) (e_loadN (n := 2) (b := s13.n) (off := 0) (by kernel_rfl) S15.new (by kernel_rfl) (by kernel_rfl) (by kernel_rfl)) ((Sm.agg (Sm.flats (by kernel_rfl))).up (by decide)) ?_
            refine FD.still0X 0 (.pointer (some ⟨s6.n, 0, none⟩)) rfl (by kernel_rfl) rfl (s1 := s15) (by kernel_rfl) (by kernel_rfl) ?_
            refine FD.still0X 32 (.string p.id) rfl (by kernel_rfl) rfl (s1 := s15) (e_load1 (b := s6.n) (off := 0) (by kernel_rfl) hp15 (by kernel_rfl) rfl) (by kernel_rfl) ?_
            refine FD.allocX 96 (.slice (some ⟨s15.n, 0, none⟩) 1 2) rfl (by kernel_rfl) rfl (e_buildSlice1 (e := 9) (v := .string p.id) (z := .string ⟨#[]⟩) (by kernel_rfl) (by kernel_rfl) (by kernel_rfl) (by kernel_rfl) (by omega)) fun s16 N16 => ?_
            have N16n := N16.n
            have I16 := I15.keep ((Grow.refl s15).new N16) (by omega)
            have hgl := I16.ti.lt
            obtain ⟨eg, heg, hgc⟩ := find_entsGK x.par p.name gs 0
            rcases hgc with ⟨hgn, rfl⟩ | ⟨g, jj, _, hgf, rfl, hput⟩
            ·
              refine FD.actX 255 (.tuple ⟨[.slice none 0 0, .int .i64 (Int.ofNat gs.length)]⟩) rfl (by kernel_rfl) rfl (by kernel_rfl) (e_mapEntryN (r := s2.n + 1) mapT92 (by kernel_rfl) (by omega) rfl I16.ti.map (by kernel_rfl) heg zero39) (fun _ => by kernel_rfl) fun s17 S17 => ?_
              have S17n := S17.n
              refine FD.stillF 511 (.slice none 0 0) rfl (by kernel_rfl) rfl (fun _ => by kernel_rfl) ((Sm.flat rfl).up (by decide)) ?_
              refine FD.actX 1023 (.slice (some ⟨s17.n, 0, none⟩) (([] : List ByteArray).length + 1) 0) rfl (by kernel_rfl) rfl (by kernel_rfl) (e_appendS (b2 := s15.n) (bo := s17.n) (by kernel_rfl) ((S17.keep _ (by omega) (by omega)).trans N16.new) (by omega) (by simp) (.inl ⟨rfl, by kernel_rfl⟩)) (fun _ => by kernel_rfl) fun s18 M18 => ?_
              have M18n := M18.n
              refine FD.stillF 511 (.int .i64 (Int.ofNat gs.length)) rfl (by kernel_rfl) rfl (fun _ => by kernel_rfl) ((Sm.flat rfl).up (by decide)) ?_
              have hput2 : putBorn (Int.ofNat gs.length) (.slice (some ⟨s17.n, 0, none⟩) (([] : List ByteArray).length + 1) 0) (addK (entsG gs 0) (keyG x.par p.name) (.slice none 0 0) gs.length) = some (entsG (gs ++ [⟨x.par, p.name, [p.id], s17.n⟩]) 0) := by
                unfold addK
                have h := put_last (.slice (some ⟨s17.n, 0, none⟩) 1 0) { key := keyG x.par p.name, val := .slice none 0 0, born := gs.length } gs 0 (Nat.zero_add _).symm
                rw [Nat.zero_add] at h
                rw [app_eq, entsG_app, Nat.zero_add]
                exact h
              refine FD.skipX 4095 rfl (by kernel_rfl) rfl (by kernel_rfl) (e_entryStore (kd := .i64) (r := s2.n + 1) (by kernel_rfl) (by omega) rfl ((M18.keep _ (by omega) (by omega) (by omega)).trans S17.new) (by kernel_rfl) hput2) (fun _ => by kernel_rfl) fun s19 S19 => ?_
              have S19n := S19.n
              refine FD.nil ?_
              have T19 := I16.ti.first S17 (by omega) (by omega) (by omega) M18 rfl S19
              have I19 := I16.grp (by omega) (by omega) (fun b h1 h2 => (S19.keep b (by omega) h2).trans ((M18.keep b (by omega) (by omega) (by omega)).trans (S17.keep b (by omega) h2))) T19
              have hTK2 : TK L0 (P.take (j + 1)) (gs ++ [⟨x.par, p.name, [p.id], s17.n⟩]) := by rw [htake, hpar]; rw [hpar] at hgn; exact hTK.first hkb hgn
              refine AW.keep [(6, .map rm), (7, .bool true), (8, .pointer (some ⟨s2.n + 2, 0, none⟩)), (26, lit (.slice (some a) P.length cP)), (27, natV P.length), (28, .int .i64 (j : Int))] ⟨⟨rfl, by kernel_rfl⟩, ⟨rfl, by kernel_rfl⟩, ⟨rfl, by kernel_rfl⟩, ⟨rfl, by kernel_rfl⟩, ⟨rfl, by kernel_rfl⟩, ⟨rfl, by kernel_rfl⟩, trivial⟩ ?_
              refine AW.region eokG ?_
              refine aop_val rfl (v := .int .i64 ((j + 1 : Nat) : Int)) (s1 := s19) (e_inc (j := j) (by kernel_rfl) (by omega)) ?_
              refine aop_val rfl (v := .int .i64 ((j + 1 : Nat) : Int)) (s1 := s19) (by kernel_rfl) ?_
              refine ⟨j + 1, ⟨rfl, by omega, ⟨⟨rfl, by kernel_rfl⟩, ⟨rfl, by kernel_rfl⟩, ⟨rfl, by kernel_rfl⟩, ⟨rfl, by kernel_rfl⟩, ⟨rfl, by kernel_rfl⟩, ⟨rfl, by kernel_rfl⟩, trivial⟩, rfl, by omega, _, I19, hTK2, fun _ => rfl, hfit⟩, by show P.length - (j + 1) < P.length - j; omega⟩
            ·
              obtain ⟨hgm, hgk⟩ := mem_findG hgf
              have hgb := hgl g hgm
              obtain ⟨exg, hrow⟩ := I16.ti.row g hgm
              have hlen : g.ids.length ≤ P.length := by
                have h := hTK x.par p.name
                rw [hgf] at h
                have h : g.ids = termsOf L0 (P.take j) x.par p.name := h
                rw [h]
                unfold termsOf
                rw [List.length_map]
                exact Nat.le_trans (List.length_filter_le _ _) (by rw [List.length_take]; omega)
              refine FD.act 255 (.tuple ⟨[.slice (some ⟨g.b, 0, none⟩) g.ids.length 0, .int .i64 (Int.ofNat jj)]⟩) rfl (by kernel_rfl) rfl (by kernel_rfl) (s1 := s16) (e_mapEntryF (r := s2.n + 1) (e := entG g jj) mapT92 (by kernel_rfl) rfl I16.ti.map (by kernel_rfl) heg) (by kernel_rfl) ?_
              refine FD.stillF 511 (.slice (some ⟨g.b, 0, none⟩) g.ids.length 0) rfl (by kernel_rfl) rfl (fun _ => by kernel_rfl) ((Sm.flat rfl).up (by decide)) ?_
              refine FD.actX 1023 (.slice (some ⟨s16.n, 0, none⟩) (g.ids.length + 1) 0) rfl (by kernel_rfl) rfl (by kernel_rfl) (e_appendS (b2 := s15.n) (bo := g.b) (by kernel_rfl) N16.new (by omega) (by omega) (.inr ⟨by kernel_rfl, exg, hrow, by omega⟩)) (fun _ => by kernel_rfl) fun s17 M17 => ?_
              have M17n := M17.n
              refine FD.stillF 511 (.int .i64 (Int.ofNat jj)) rfl (by kernel_rfl) rfl (fun _ => by kernel_rfl) ((Sm.flat rfl).up (by decide)) ?_
              have hput2 : putBorn (Int.ofNat jj) (.slice (some ⟨s16.n, 0, none⟩) (g.ids.length + 1) 0) (entsG gs 0) = some (entsG (setG x.par p.name ⟨x.par, p.name, g.ids ++ [p.id], s16.n⟩ gs) 0) := by
                have h := hput ⟨x.par, p.name, g.ids ++ [p.id], s16.n⟩ hgk.symm
                unfold Gr.val at h
                rw [List.length_append] at h
                exact h
              refine FD.skipX 4095 rfl (by kernel_rfl) rfl (by kernel_rfl) (e_entryStore (kd := .i64) (r := s2.n + 1) (by kernel_rfl) (by omega) rfl ((M17.keep _ (by omega) (by omega) (by omega)).trans I16.ti.map) (by kernel_rfl) hput2) (fun _ => by kernel_rfl) fun s18 S18 => ?_
              have S18n := S18.n
              refine FD.nil ?_
              have T18 := I16.ti.more hgf (by omega) (by omega) (by omega) M17 S18
              have I18 := I16.grp (by omega) (by omega) (fun b h1 h2 => (S18.keep b (by omega) h2).trans (M17.keep b (by omega) (by omega) (by omega))) T18
              have hTK2 : TK L0 (P.take (j + 1)) (setG x.par p.name ⟨x.par, p.name, g.ids ++ [p.id], s16.n⟩ gs) := by rw [htake, hpar]; rw [hpar] at hgf; exact hTK.more hkb hgf
              refine AW.keep [(6, .map rm), (7, .bool true), (8, .pointer (some ⟨s2.n + 2, 0, none⟩)), (26, lit (.slice (some a) P.length cP)), (27, natV P.length), (28, .int .i64 (j : Int))] ⟨⟨rfl, by kernel_rfl⟩, ⟨rfl, by kernel_rfl⟩, ⟨rfl, by kernel_rfl⟩, ⟨rfl, by kernel_rfl⟩, ⟨rfl, by kernel_rfl⟩, ⟨rfl, by kernel_rfl⟩, trivial⟩ ?_
              refine AW.region eokG ?_
              refine aop_val rfl (v := .int .i64 ((j + 1 : Nat) : Int)) (s1 := s18) (e_inc (j := j) (by kernel_rfl) (by omega)) ?_
              refine aop_val rfl (v := .int .i64 ((j + 1 : Nat) : Int)) (s1 := s18) (by kernel_rfl) ?_
              refine ⟨j + 1, ⟨rfl, by omega, ⟨⟨rfl, by kernel_rfl⟩, ⟨rfl, by kernel_rfl⟩, ⟨rfl, by kernel_rfl⟩, ⟨rfl, by kernel_rfl⟩, ⟨rfl, by kernel_rfl⟩, ⟨rfl, by kernel_rfl⟩, trivial⟩, rfl, by omega, _, I18, hTK2, fun _ => rfl, hfit⟩, by show P.length - (j + 1) < P.length - j; omega⟩
  · have hjl : j = P.length := by omega
    subst hjl
    rw [show decide (P.length < P.length) = false from by simp]
    refine AW.keep [(7, .bool pl), (8, .pointer (some ⟨s2.n + 2, 0, none⟩)), (29, .bool false)] ⟨⟨rfl, by kernel_rfl⟩, ⟨rfl, by kernel_rfl⟩, ⟨rfl, by kernel_rfl⟩, trivial⟩ ?_
    refine AW.seq (AW.cond (t := false) (by kernel_rfl) (AW.exit ?_))
    simp only [thenP, roundP, blockP, if_true]
    refine AW.seq (AW.region eokG ?_)
    refine aop_val rfl (v := .pointer (some ⟨s2.n + 2, 0, none⟩)) (s1 := s6) (by kernel_rfl) ?_
    refine aop_val rfl (v := .bool pl) (s1 := s6) (by kernel_rfl) ?_
    refine aop_val rfl (v := .pointer (some ⟨s2.n + 2, 0, none⟩)) (s1 := s6) (by kernel_rfl) ?_
    refine aop_val rfl (v := .bool pl) (s1 := s6) (by kernel_rfl) ?_
    refine AW.ret ?_
    rw [List.take_length] at hTK I6 hfit
    rw [List.drop_length] at hfit
    refine ⟨.inr rfl, rfl, .tuple #[.pointer (some ⟨s2.n + 2, 0, none⟩), .bool pl], by kernel_rfl, rfl, I6.grow, by omega, ?_⟩
    cases pl with
    | false => exact .inl ⟨fun h => h.1 (hp0 rfl), _, rfl⟩
    | true =>
      obtain ⟨hpg, hL0, mm, hrm⟩ := hp1 rfl
      subst hL0; subst hrm
      exact .inr ⟨⟨hpg, hfit.symm⟩, mm, s2.n, gs, rfl, I6, hTK⟩
end
end Go.Eng
end
