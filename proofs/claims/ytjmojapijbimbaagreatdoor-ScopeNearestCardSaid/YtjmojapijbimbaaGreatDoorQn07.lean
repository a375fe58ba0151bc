/- A part of the proof of the law: Uni0, Uni1, Uni2, Uni3. Conditions: none. -/
import Derived.Test.YtjmojapijbimbaaGreatDoorQn03
import Derived.Test.YtjmojapijbimbaaGreatDoorQn06
set_option linter.unusedVariables false
set_option linter.unusedSimpArgs false
section
namespace Go.Eng
open Go.Proofs
noncomputable section
def EG : Env := { EE (fun _ _ => none) with good := fun _ => True }
theorem eokG : EOK EG :=
  let h := eok (fun _ _ => none)
  ⟨h.tys, h.fns, h.held, h.blank, h.flds, h.bytes, h.zlen⟩
theorem eok2G : EOK2 EG := ⟨eokG, mixedOK, names0 (fun _ _ => none), by intro _ _ _ h; cases h⟩
def tmL (l : List (Nat × Value)) : Tm := lrec tmJ (fun p _ t => tmSet t p.1 p.2) l
def Has (tm : Tm) : List (Nat × Value) → Prop
  | [] => True
  | p :: l => (Nat.blt p.1 512 = true ∧ tmAt tm p.1 = p.2) ∧ Has tm l
theorem weak_tmL {tm : Tm} : ∀ {l : List (Nat × Value)}, Has tm l → ∀ t, tmAt (tmL l) t = junk ∨ tmAt (tmL l) t = tmAt tm t
  | [], _, t => by
    by_cases h : t < 512
    · left; rw [tmAt_lt h, get3_eq]; show S8 _ (S8 _ (S8 _ tmJ)) = _; unfold tmJ; rw [S8_k8, S8_k8, S8_k8]
    · right; rw [tmAt_ge h, tmAt_ge h]
  | p :: l, h, t => by
    show tmAt (tmSet (tmL l) p.1 p.2) t = junk ∨ tmAt (tmSet (tmL l) p.1 p.2) t = _
    rw [tmAt_set trivial (blt_true h.1.1)]
    split
    · subst_vars; right; exact h.1.2.symm
    · exact weak_tmL h.2 t
theorem AW.keep {E : Env} {f : Fid} {N : Base} {c : Code} {P : Post} {tm : Tm} {df : List Deferred} {s : St} (l : List (Nat × Value)) (h : Has tm l) (k : AW E f N c P (tmL l) df s) : AW E f N c P tm df s := AW.weaken (weak_tmL h) k
structure New (s : St) (o : AO) (s1 : St) : Prop where
  n : s1.n = s.n + 1
  new : s1.at s.n = some o
  keep : ∀ b, b < 32768 → b ≠ s.n → s1.at b = s.at b
structure Set1 (s : St) (b : Nat) (o : AO) (s1 : St) : Prop where
  n : s1.n = s.n
  new : s1.at b = some o
  keep : ∀ j, j < 32768 → j ≠ b → s1.at j = s.at j
theorem newA_ex {s : St} {o : AO} {f : Nat → Value} (hn : s.n < 32768) : ∃ s1, newA o f s = some (.val (f s.n), s1) ∧ New s o s1 := by
  have hb : Nat.blt s.n 32768 = true := Nat.ble_eq_true_of_le hn
  have ha : s.add o = some ⟨Hp.put s.h s.n (some o), s.n + 1⟩ := by
    unfold St.add
    rw [forceN_eq, hb]; rfl
  refine ⟨⟨Hp.put s.h s.n (some o), s.n + 1⟩, ?_, rfl, ?_, fun b hb hne => ?_⟩
  · unfold newA
    rw [forceN_eq, ha]; rfl
  · show Hp.get (Hp.put s.h s.n (some o)) s.n = _
    rw [Hp.get_put hn hn, if_pos rfl]
  · show Hp.get (Hp.put s.h s.n (some o)) b = _
    rw [Hp.get_put hb hn, if_neg hne]; rfl
theorem Set1.of {s : St} {b : Nat} (hb : b < 32768) (o : AO) : Set1 s b o (s.set b o) :=
  ⟨rfl, by show Hp.get (Hp.put s.h b (some o)) b = _; rw [Hp.get_put hb hb, if_pos rfl], fun j hj hne => by
    show Hp.get (Hp.put s.h b (some o)) j = _
    rw [Hp.get_put hj hb, if_neg hne]; rfl⟩
section
variable {E : Env} {tm : Tm} {s : St} {N : Base}
theorem e_alloc {t : TypeId} {z : List Value} (hz : E.zero t = some z) (hn : s.n < 32768) : ∃ s1, opA (.alloc t) E tm s = some (.val (.pointer (some ⟨s.n, 0, none⟩)), s1) ∧ New s (.cells z t true 0) s1 := by
  obtain ⟨s1, h1, h2⟩ := newA_ex (o := .cells z t true 0) (f := fun b => .pointer (some ⟨b, 0, none⟩)) hn
  refine ⟨s1, ?_, h2⟩
  show ob (E.zero t) _ = _
  rw [hz, ob_some]; exact h1
theorem e_box {t : TypeId} {x : Operand} {l : List Value} (hx : vcs (ev tm x) = some l) (hn : s.n < 32768) : ∃ s1, opA (.box t x) E tm s = some (.val (.pointer (some ⟨s.n, 0, none⟩)), s1) ∧ New s (.cells l t true 0) s1 := by
  obtain ⟨s1, h1, h2⟩ := newA_ex (o := .cells l t true 0) (f := fun b => .pointer (some ⟨b, 0, none⟩)) hn
  refine ⟨s1, ?_, h2⟩
  show ob (vcs (ev tm x)) _ = _
  rw [hx, ob_some]; exact h1
theorem e_makeMap {t : TypeId} (hn : s.n < 32768) : ∃ s1, opA (.makeMap t none) E tm s = some (.val (.map (some s.n)), s1) ∧ New s (.map [] 0) s1 := by
  obtain ⟨s1, h1, h2⟩ := newA_ex (o := .map [] 0) (f := fun b => .map (some b)) hn
  exact ⟨s1, h1, h2⟩
theorem e_store {t : TypeId} {x y : Operand} {b o n : Nat} {l vs vs' : List Value} {el : TypeId} {ex : Bool} {fz : Nat} (hx : ev tm x = .pointer (some ⟨b, o, none⟩)) (hl : vcs (ev tm y) = some l) (hn : E.size t = some n) (hb : b < 32768) (hg : E.gl ≤ b)
    (ho : s.at b = some (.cells vs el ex fz)) (hw : wok fz o = true) (hs : allL scalar l = true) (hlen : Nat.beq (len l) n = true) (hv : writeAt o l vs = some vs') : ∃ s1, opA (.store t x y) E tm s = some (.skip, s1) ∧ Set1 s b (.cells vs' el ex fz) s1 := by
  refine ⟨_, ?_, Set1.of hb _⟩
  show skipO (storeA E t (ev tm x) (ev tm y) s) = _
  rw [hx]
  have hg' : Nat.blt b E.gl = false := by
    cases h : Nat.blt b E.gl with
    | false => rfl
    | true => have := blt_true h; omega
  have : storeA E t (.pointer (some ⟨b, o, none⟩)) (ev tm y) s = some (s.set b (.cells vs' el ex fz)) := by
    unfold storeA
    show ob (some (b, o)) _ = _
    rw [ob_some, hl, ob_some, hn, ob_some, hlen, cnd_true]
    unfold writeA
    rw [hg', cnd_false, ho, ob_some]
    show ob (some (vs, el, ex, fz)) _ = _
    rw [ob_some]
    simp only [hw, hs, Bool.and_self, cnd_true]
    rw [hv, ob_some]
  rw [this]; rfl
theorem e_mapAdd {t : TypeId} {x k y : Operand} {p : TypeId × TypeId} {r c : Nat} {es : List MapEntry} (hp : E.mapT t = some p) (hx : ev tm x = .map (some r)) (hr : r < 32768) (hg : E.gl ≤ r) (ho : s.at r = some (.map es c)) (hk : keyOK E p.1 (ev tm k) = true)
    (hf : putK (eqK E p.1 (ev tm k)) (ev tm y) es = some none) : ∃ s1, opA (.mapUpdate t x k y) E tm s = some (.skip, s1) ∧ Set1 s r (.map (addK es (ev tm k) (ev tm y) c) (c + 1)) s1 := by
  refine ⟨_, ?_, Set1.of hr _⟩
  show skipO (mapUpdateA E t (ev tm x) (ev tm k) (ev tm y) s) = _
  have hg' : Nat.blt r E.gl = false := by
    cases h : Nat.blt r E.gl with
    | false => rfl
    | true => have := blt_true h; omega
  have : mapUpdateA E t (ev tm x) (ev tm k) (ev tm y) s = some (s.set r (.map (addK es (ev tm k) (ev tm y) c) (c + 1))) := by
    unfold mapUpdateA
    rw [hp, ob_some, hx]
    unfold ownMap
    show ob (ob (some (some r)) _) _ = _
    rw [ob_some, ob_some, hg', cnd_false, ho, ob_some]
    show ob (ob (some (es, c)) _) _ = _
    rw [ob_some, ob_some]
    simp only [hk, cnd_true]
    rw [hf, ob_some]
  rw [this]; rfl
theorem e_inc {x : Operand} {t u : TypeId} {j : Nat} (hx : ev tm x = .int .i64 (j : Int)) (hj : j + 1 < 9223372036854775808) : opA (.binOp .add t x (.const (.int .i64 1)) u) E tm s = some (.val (.int .i64 ((j + 1 : Nat) : Int)), s) := by
  show retO s (binA E (isConst x || true) .add t (ev tm x) (.int .i64 1)) = _
  rw [hx]
  have h1 : intOp .add .i64 (j : Int) 1 = some (.int .i64 ((j + 1 : Nat) : Int)) := by
    have h0 : ∀ a b : Int, intOp .add .i64 a b = forceI (fun r => some (.int .i64 r)) (iwrap .i64 (Int.add a b)) := fun _ _ => rfl
    rw [h0]
    have : iwrap .i64 (Int.add (j : Int) 1) = Int.ofNat (j + 1) := by
      unfold iwrap
      show cnd true (cnd (small (Int.ofNat (j + 1))) (Int.ofNat (j + 1)) _) _ = _
      have : small (Int.ofNat (j + 1)) = true := Nat.ble_eq_true_of_le hj
      rw [this, cnd_true, cnd_true]
    rw [this]
    rfl
  have : binA E (isConst x || true) .add t (.int .i64 (j : Int)) (.int .i64 1) = some (.int .i64 ((j + 1 : Nat) : Int)) := h1
  rw [this]; rfl
theorem aop_skipX {nt : Nat} {all l : List Oper} {Q : Tm → List Deferred → St → Base → Prop} {o : Oper} {df : List Deferred} {P : St → Prop} (hg : o.guard = none) (h : ∃ s1, opA o.op E tm s = some (.skip, s1) ∧ P s1)
    (k : ∀ s1, P s1 → aops E nt all Q l (put tm (dstOf nt o.dst) undef) df s1 N) : aops E nt all Q (o :: l) tm df s N := by
  obtain ⟨s1, h1, h2⟩ := h
  exact aop_skip hg h1 (k s1 h2)
theorem aop_valX {nt : Nat} {all l : List Oper} {Q : Tm → List Deferred → St → Base → Prop} {o : Oper} {df : List Deferred} {P : St → Prop} {v : Value} (hg : o.guard = none) (h : ∃ s1, opA o.op E tm s = some (.val v, s1) ∧ P s1)
    (k : ∀ s1, P s1 → aops E nt all Q l (put tm (dstOf nt o.dst) v) df s1 N) : aops E nt all Q (o :: l) tm df s N := by
  obtain ⟨s1, h1, h2⟩ := h
  exact aop_val hg h1 (k s1 h2)
theorem aops_mono {nt : Nat} {all : List Oper} {P Q : Tm → List Deferred → St → Base → Prop} (hq : ∀ tm df s N, P tm df s N → Q tm df s N) : ∀ (l : List Oper) (tm : Tm) (df : List Deferred) (s : St) (N : Base), aops E nt all P l tm df s N → aops E nt all Q l tm df s N
  | [], tm, df, s, N, h => hq tm df s N h
  | o :: l, tm, df, s, N, ⟨b, h1, h2⟩ => by
    refine ⟨b, h1, ?_⟩
    rcases h2 with ⟨h3, h4⟩ | ⟨h3, ⟨v, h4, h5⟩ | ⟨r, h4, h5⟩⟩
    · exact .inl ⟨h3, aops_mono hq l _ _ _ _ h4⟩
    · exact .inr ⟨h3, .inl ⟨v, h4, aops_mono hq l _ _ _ _ h5⟩⟩
    · refine .inr ⟨h3, .inr ⟨r, h4, ?_⟩⟩
      obtain ⟨r, s1⟩ := r
      cases r with
      | val v => exact aops_mono hq l _ _ _ _ h5
      | skip => exact aops_mono hq l _ _ _ _ h5
      | dfr x => exact aops_mono hq l _ _ _ _ h5
      | call t => cases t with
        | fn g args =>
          obtain ⟨R, h6, h7⟩ := h5
          exact ⟨R, h6, fun v s' N' hn hr => aops_mono hq l _ _ _ _ (h7 v s' N' hn hr)⟩
        | round l f tm a b => exact h5.elim
      | pan v => exact h5.elim
      | rcv => exact h5.elim
theorem aops_meet {nt : Nat} {all l : List Oper} {Q : Tm → List Deferred → St → Base → Prop} {df : List Deferred} (L : List (Nat × Value)) (h : aops E nt all (fun tm' df' s' N' => Has tm' L ∧ df' = df ∧ s' = s ∧ N' = N) l tm df s N)
    (k : ∀ tm', Has tm' L → Q tm' df s N) : aops E nt all Q l tm df s N :=
  aops_mono (fun tm' df' s' N' ⟨h1, h2, h3, h4⟩ => by subst h2; subst h3; subst h4; exact k tm' h1) l tm df s N h
end
end
end Go.Eng
end
section
namespace Go.Eng
open Go.Proofs
noncomputable section
def IsSl (s : St) (v : Value) (l : List ByteArray) : Prop := (l = [] ∧ v = .slice none 0 0) ∨
  ∃ b o c vs el ex fz, v = .slice (some ⟨b, o, none⟩) l.length c ∧ s.at b = some (.cells vs el ex fz) ∧ ∀ i x, l[i]? = some x → vs[o + i]? = some (.string x)
def ItemMap (E : Env) (z : Value) (s : St) (mi : Nat) (item : ByteArray → List Value) : Prop := ∃ es c, s.at mi = some (.map es c) ∧
  ∀ x : ByteArray, ∃ e, findK (E.eq 3 9 (.string x)) es = some e ∧ lookR false z e = .agg ⟨item x⟩
def TermMap (E : Env) (s : St) (mt : Nat) (terms : ByteArray → ByteArray → List ByteArray) : Prop := ∃ es c, s.at mt = some (.map es c) ∧
  ∀ d n : ByteArray, ∃ e, findK (E.eq 3 127 (.agg ⟨[.string d, .string n]⟩)) es = some e ∧ IsSl s (lookR false (.slice none 0 0) e) (terms d n)
def Fd (parent : ByteArray → ByteArray) (terms : ByteArray → List ByteArray) : Nat → ByteArray → ByteArray → Int → Prop
  | 0, _, _, _ => False
  | k + 1, d, r, e => match terms d with
    | _ :: _ :: _ => r = ⟨#[]⟩ ∧ e = 9
    | [x] => r = x ∧ e = 0
    | [] => if d = ⟨#[]⟩ then r = ⟨#[]⟩ ∧ e = 7 else Fd parent terms k (parent d) r e
def getF (x : Option Field) : Field := match x with
  | some f => f
  | none => { name := "", type := 0, offset := 0, embedded := false, tag := "", pkgPath := "", byteOffset := 0 }
theorem mapT90 : EG.mapT 90 = some (9, 61) := by kernel_rfl
theorem mapT92 : EG.mapT 92 = some (127, 39) := by kernel_rfl
theorem zero39 : EG.zeroV 39 = some (.slice none 0 0) := by kernel_rfl
def z61 : Value := getU (EG.zeroV 61)
theorem zero61 : EG.zeroV 61 = some z61 := by kernel_rfl
variable {N : Base} {s : St} {bs mi mt : Nat} {V1 V2 : Value} {el : TypeId} {ex : Bool} {fz : Nat} {item : ByteArray → List Value} {parent : ByteArray → ByteArray} {terms : ByteArray → ByteArray → List ByteArray} {at_ name r : ByteArray} {er : Int}
theorem IsSl.len {s : St} {v : Value} {l : List ByteArray} (h : IsSl s v l) : ∃ a c, v = .slice a l.length c := by
  rcases h with ⟨rfl, rfl⟩ | ⟨b, o, c, vs, el, ex, fz, rfl, _⟩
  · exact ⟨_, _, rfl⟩
  · exact ⟨_, _, rfl⟩
theorem find_calls (ho : s.at bs = some (.cells [.map (some mi), V1, V2, .map (some mt)] el ex fz)) (hI : ItemMap EG z61 s mi item) (hp : ∀ x, (item x)[2]? = some (.string (parent x))) (hT : TermMap EG s mt terms)
    {n : Nat} (hf : Fd parent (fun d => terms d name) n (parent at_) r er) :
    ACalls EG N 43 [.pointer (some ⟨bs, 0, none⟩), .string at_, .string name] s (fun v s' N' => v = .tuple #[.string r, .int .i64 er] ∧ s' = s ∧ N' = N) := by
  obtain ⟨es, c1, hm, hfi⟩ := hI
  obtain ⟨ts, c2, hmt, hft⟩ := hT
  refine ACalls.of_body eok2G (F := Tryz.f43) (by kernel_rfl) rfl (by simp [Tryz.f43]) (by decide) ?_
  refine AW.seq (AW.region eokG ?_)
  refine aop_val rfl (v := .string ⟨#[]⟩) (s1 := s) (by kernel_rfl) ?_
  refine aop_val rfl (v := .int .i64 0) (s1 := s) (by kernel_rfl) ?_
  refine AW.keep [(0, .pointer (some ⟨bs, 0, none⟩)), (1, .string at_), (2, .string name)] ⟨⟨rfl, by kernel_rfl⟩, ⟨rfl, by kernel_rfl⟩, ⟨rfl, by kernel_rfl⟩, trivial⟩ ?_
  refine AW.seq (AW.region eokG ?_)
  refine aop_val rfl (v := .pointer (some ⟨bs, 0, none⟩)) (s1 := s) (by kernel_rfl) ?_
  refine aop_val rfl (v := .pointer (some ⟨bs, 0, none⟩)) (s1 := s) (by kernel_rfl) ?_
  refine aop_val rfl (v := .pointer (some ⟨bs, 0, none⟩)) (s1 := s) (by kernel_rfl) ?_
  refine aop_val rfl (v := .map (some mi)) (s1 := s) (e_load1 (b := bs) (off := 0) (by kernel_rfl) ho (by kernel_rfl) rfl) ?_
  refine aop_val rfl (v := .string at_) (s1 := s) (by kernel_rfl) ?_
  obtain ⟨e0, he0, hl0⟩ := hfi at_
  refine aop_val rfl (v := .agg ⟨item at_⟩) (s1 := s) (by rw [← hl0]; exact e_lookup mapT90 zero61 (by kernel_rfl) (by kernel_rfl) hm he0) ?_
  refine aop_val rfl (v := .string (parent at_)) (s1 := s) (e_field (fd := (getF (fieldA EG 61 2))) (by kernel_rfl) (by kernel_rfl) (e_part1 (by kernel_rfl) (by kernel_rfl) (hp at_))) ?_
  refine aop_val rfl (v := .string (parent at_)) (s1 := s) (by kernel_rfl) ?_
  have hA : ∀ n d tm, Fd parent (fun d => terms d name) n d r er → Has tm [(0, .pointer (some ⟨bs, 0, none⟩)), (2, .string name), (8, .string d)] → True := fun _ _ _ _ _ => trivial
  refine AW.block (AW.loop (G := Nat × ByteArray) (fun p tm df s' N' => Fd parent (fun d => terms d name) p.1 p.2 r er ∧ Has tm [(0, .pointer (some ⟨bs, 0, none⟩)), (2, .string name), (8, .string p.2)] ∧ df = [] ∧ s' = s ∧ N' = N) (fun p => p.1) (n, parent at_)
    ⟨hf, ⟨⟨rfl, by kernel_rfl⟩, ⟨rfl, by kernel_rfl⟩, ⟨rfl, by kernel_rfl⟩, trivial⟩, rfl, rfl, rfl⟩ ?_)
  rintro ⟨n, d⟩ tm df s' N' _ ⟨hfd, htm, rfl, rfl, rfl⟩
  refine AW.keep _ htm ?_
  simp only at hfd
  clear htm hA
  refine AW.seq (AW.block (AW.seq (AW.region eokG ?_)))
  refine aop_val rfl (v := .pointer (some ⟨bs, 0, none⟩)) (s1 := s') (by kernel_rfl) ?_
  refine aop_val rfl (v := .pointer (some ⟨bs, 0, none⟩)) (s1 := s') (by kernel_rfl) ?_
  refine aop_val rfl (v := .pointer (some ⟨bs, 3, none⟩)) (s1 := s') (by kernel_rfl) ?_
  refine aop_val rfl (v := .map (some mt)) (s1 := s') (e_load1 (b := bs) (off := 3) (by kernel_rfl) ho (by kernel_rfl) rfl) ?_
  refine aop_val rfl (v := .string d) (s1 := s') (by kernel_rfl) ?_
  refine aop_val rfl (v := .string name) (s1 := s') (by kernel_rfl) ?_
  refine aop_val rfl (v := .agg ⟨[.string d, .string name]⟩) (s1 := s') (by kernel_rfl) ?_
  obtain ⟨e1, he1, hs1⟩ := hft d name
  refine aop_val rfl (v := lookR false (.slice none 0 0) e1) (s1 := s') (e_lookup mapT92 zero39 (by kernel_rfl) (by kernel_rfl) hmt he1) ?_
  generalize hV : lookR false (.slice none 0 0) e1 = V at hs1
  refine aop_val rfl (v := V) (s1 := s') (by kernel_rfl) ?_
  obtain ⟨a, c, hVs⟩ := hs1.len
  refine AW.keep [(0, .pointer (some ⟨bs, 0, none⟩)), (2, .string name), (8, .string d), (9, .slice a (terms d name).length c)] ⟨⟨rfl, by kernel_rfl⟩, ⟨rfl, by kernel_rfl⟩, ⟨rfl, by kernel_rfl⟩, ⟨rfl, by rw [← hVs]; kernel_rfl⟩, trivial⟩ ?_
  refine AW.block (AW.seq (AW.region eokG ?_))
  refine aop_val rfl (v := .slice a (terms d name).length c) (s1 := s') (by kernel_rfl) ?_
  refine aop_val rfl (v := natV (terms d name).length) (s1 := s') (by kernel_rfl) ?_
  refine aop_val rfl (v := .bool (!ile (Int.ofNat (terms d name).length) 1)) (s1 := s') (by kernel_rfl) ?_
  refine aop_val rfl (v := .bool (!ile (Int.ofNat (terms d name).length) 1)) (s1 := s') (by kernel_rfl) ?_
  refine AW.keep [(0, .pointer (some ⟨bs, 0, none⟩)), (2, .string name), (8, .string d), (9, .slice a (terms d name).length c), (32, .bool (!ile (Int.ofNat (terms d name).length) 1))] ⟨⟨rfl, by kernel_rfl⟩, ⟨rfl, by kernel_rfl⟩, ⟨rfl, by kernel_rfl⟩, ⟨rfl, by kernel_rfl⟩, ⟨rfl, by kernel_rfl⟩, trivial⟩ ?_
  cases n with
  | zero => exact hfd.elim
  | succ n =>
  unfold Fd at hfd
  subst hVs
  generalize hL : terms d name = L at hfd hs1 ⊢
  match L, hfd, hs1 with
  | x :: y :: l, hfd, hs1 =>
    obtain ⟨rfl, rfl⟩ := hfd
    refine AW.cond (t := true) (by kernel_rfl) (AW.seq (AW.region eokG ?_))
    refine aop_val rfl (v := .string ⟨#[]⟩) (s1 := s') (by kernel_rfl) ?_
    refine aop_val rfl (v := .int .i64 9) (s1 := s') (by kernel_rfl) ?_
    refine AW.ret ?_
    exact ⟨.inr rfl, rfl, _, by kernel_rfl, rfl, rfl, rfl⟩
  | [x], hfd, hs1 =>
    obtain ⟨rfl, rfl⟩ := hfd
    rcases hs1 with ⟨h, _⟩ | ⟨b, o, c', vs, el1, ex1, fz1, hv, hb, hx⟩
    · cases h
    cases hv
    have hx0 := hx 0 r rfl
    refine AW.cond (t := false) (by kernel_rfl) (AW.seq (AW.region eokG ?_))
    refine aop_val rfl (v := .slice (some ⟨b, o, none⟩) 1 c) (s1 := s') (by kernel_rfl) ?_
    refine aop_val rfl (v := natV 1) (s1 := s') (by kernel_rfl) ?_
    refine aop_val rfl (v := .bool true) (s1 := s') (by kernel_rfl) ?_
    refine aop_val rfl (v := .bool true) (s1 := s') (by kernel_rfl) ?_
    refine AW.cond (t := true) (by kernel_rfl) (AW.seq (AW.region eokG ?_))
    refine aop_val rfl (v := .slice (some ⟨b, o, none⟩) 1 c) (s1 := s') (by kernel_rfl) ?_
    refine aop_val rfl (v := .pointer (some ⟨b, o, none⟩)) (s1 := s') (by kernel_rfl) ?_
    refine aop_val rfl (v := .string r) (s1 := s') (e_load1 (b := b) (off := o) (by kernel_rfl) hb (by kernel_rfl) hx0) ?_
    refine aop_val rfl (v := .string r) (s1 := s') (by kernel_rfl) ?_
    refine aop_val rfl (v := .int .i64 0) (s1 := s') (by kernel_rfl) ?_
    refine AW.ret ?_
    exact ⟨.inr rfl, rfl, _, by kernel_rfl, rfl, rfl, rfl⟩
  | [], hfd, hs1 =>
    refine AW.cond (t := false) (by kernel_rfl) (AW.seq (AW.region eokG ?_))
    refine aop_val rfl (v := .slice a 0 c) (s1 := s') (by kernel_rfl) ?_
    refine aop_val rfl (v := natV 0) (s1 := s') (by kernel_rfl) ?_
    refine aop_val rfl (v := .bool false) (s1 := s') (by kernel_rfl) ?_
    refine aop_val rfl (v := .bool false) (s1 := s') (by kernel_rfl) ?_
    refine AW.cond (t := false) (by kernel_rfl) (AW.seq (AW.region eokG ?_))
    refine aop_val rfl (v := .string d) (s1 := s') (by kernel_rfl) ?_
    refine aop_val rfl (v := .bool (beqL d.data.toList [])) (s1 := s') (by kernel_rfl) ?_
    refine aop_val rfl (v := .bool (beqL d.data.toList [])) (s1 := s') (by kernel_rfl) ?_
    simp only at hfd
    by_cases hd : d = ⟨#[]⟩
    · subst hd
      rw [if_pos rfl] at hfd
      obtain ⟨rfl, rfl⟩ := hfd
      refine AW.cond (t := true) (by kernel_rfl) (AW.seq (AW.region eokG ?_))
      refine aop_val rfl (v := .string ⟨#[]⟩) (s1 := s') (by kernel_rfl) ?_
      refine aop_val rfl (v := .int .i64 7) (s1 := s') (by kernel_rfl) ?_
      refine AW.ret ?_
      exact ⟨.inr rfl, rfl, _, by kernel_rfl, rfl, rfl, rfl⟩
    · rw [if_neg hd] at hfd
      have hb : beqL d.data.toList [] = false := by
        rw [beqL_eq]
        obtain ⟨⟨dl⟩⟩ := d
        cases dl with
        | nil => exact (hd rfl).elim
        | cons x l => rfl
      refine AW.cond (t := false) (by rw [← hb]; kernel_rfl) (AW.skip ?_)
      refine AW.keep [(0, .pointer (some ⟨bs, 0, none⟩)), (2, .string name), (8, .string d)] ⟨⟨rfl, by kernel_rfl⟩, ⟨rfl, by kernel_rfl⟩, ⟨rfl, by kernel_rfl⟩, trivial⟩ ?_
      refine AW.region eokG ?_
      refine aop_val rfl (v := .pointer (some ⟨bs, 0, none⟩)) (s1 := s') (by kernel_rfl) ?_
      refine aop_val rfl (v := .pointer (some ⟨bs, 0, none⟩)) (s1 := s') (by kernel_rfl) ?_
      refine aop_val rfl (v := .pointer (some ⟨bs, 0, none⟩)) (s1 := s') (by kernel_rfl) ?_
      refine aop_val rfl (v := .map (some mi)) (s1 := s') (e_load1 (b := bs) (off := 0) (by kernel_rfl) ho (by kernel_rfl) rfl) ?_
      refine aop_val rfl (v := .string d) (s1 := s') (by kernel_rfl) ?_
      obtain ⟨e2, he2, hl2⟩ := hfi d
      refine aop_val rfl (v := .agg ⟨item d⟩) (s1 := s') (by rw [← hl2]; exact e_lookup mapT90 zero61 (by kernel_rfl) (by kernel_rfl) hm he2) ?_
      refine aop_val rfl (v := .string (parent d)) (s1 := s') (e_field (fd := (getF (fieldA EG 61 2))) (by kernel_rfl) (by kernel_rfl) (e_part1 (by kernel_rfl) (by kernel_rfl) (hp d))) ?_
      refine aop_val rfl (v := .string (parent d)) (s1 := s') (by kernel_rfl) ?_
      exact ⟨(n, parent d), ⟨hfd, ⟨⟨rfl, by kernel_rfl⟩, ⟨rfl, by kernel_rfl⟩, ⟨rfl, by kernel_rfl⟩, trivial⟩, rfl, rfl, rfl⟩, Nat.lt_succ_self n⟩
end
end Go.Eng
end
section
namespace Go.Eng
open Go.Proofs
noncomputable section
structure It where
  kind : Int
  id : ByteArray
  par : ByteArray
  num : ByteArray
  north : ByteArray
  south : ByteArray
  gone : Bool
def It.cells (x : It) : List Value := [.int .i64 x.kind, .string x.id, .string x.par, .string x.num, .string x.north, .string x.south, .bool x.gone]
def badB (tw : Bool) (x : It) (F : Bool) (p : It) : Bool := tw || (!ieq x.kind 1 && !ieq x.kind 2) || (!beqL x.par.data.toList [] && (!F || !ieq p.kind 1))
theorem eq9 (a b : ByteArray) : EG.eq 3 9 (.string a) (.string b) = some (beqL a.data.toList b.data.toList) := by kernel_rfl
theorem eqK9 (a b : ByteArray) : eqK EG 9 (.string a) (.string b) = some (beqL a.data.toList b.data.toList) := by
  unfold eqK
  rw [eq9, ob_some]
  show cnd _ (cnd (beqL a.data.toList b.data.toList) (some true) none) (some false) = _
  cases beqL a.data.toList b.data.toList <;> rfl
def entI (x : It) (k : Nat) : MapEntry := { key := .string x.id, val := .agg ⟨x.cells⟩, born := k }
def ents : List It → Nat → List MapEntry
  | [], _ => []
  | x :: l, k => entI x k :: ents l (k + 1)
theorem ents_app : ∀ (l : List It) (x : It) (k : Nat), ents (l ++ [x]) k = ents l k ++ [entI x (k + l.length)]
  | [], x, k => rfl
  | y :: l, x, k => by
    show entI y k :: ents (l ++ [x]) (k + 1) = entI y k :: (ents l (k + 1) ++ [_])
    rw [ents_app l x (k + 1)]
    congr 4
    simp; omega
def findIt (l : List It) (y : ByteArray) : Option It := l.find? fun x => beqL y.data.toList x.id.data.toList
theorem find_ents (y : ByteArray) : ∀ (l : List It) (k : Nat), ∃ e, findK (EG.eq 3 9 (.string y)) (ents l k) = some e ∧ ((findIt l y = none ∧ e = none) ∨ ∃ x j, findIt l y = some x ∧ e = some (entI x j))
  | [], k => ⟨none, rfl, .inl ⟨rfl, rfl⟩⟩
  | x :: l, k => by
    obtain ⟨e, h1, h2⟩ := find_ents y l (k + 1)
    have hs : findK (EG.eq 3 9 (.string y)) (ents (x :: l) k) = ob (EG.eq 3 9 (.string y) (.string x.id)) fun b => cnd b (some (some (entI x k))) (findK (EG.eq 3 9 (.string y)) (ents l (k + 1))) := rfl
    rw [hs, eq9, ob_some, h1]
    unfold findIt
    rw [List.find?_cons]
    cases beqL y.data.toList x.id.data.toList with
    | true => exact ⟨_, rfl, .inr ⟨x, k, rfl, rfl⟩⟩
    | false => exact ⟨e, rfl, h2⟩
theorem put_ents (y : ByteArray) (v : Value) : ∀ (l : List It) (k : Nat), findIt l y = none → putK (eqK EG 9 (.string y)) v (ents l k) = some none
  | [], k, _ => rfl
  | x :: l, k, h => by
    unfold findIt at h
    rw [List.find?_cons] at h
    have hs : putK (eqK EG 9 (.string y)) v (ents (x :: l) k) = ob (eqK EG 9 (.string y) (.string x.id)) fun b => cnd b (some (some ({ entI x k with val := v } :: ents l (k + 1))))
      (ob (putK (eqK EG 9 (.string y)) v (ents l (k + 1))) fun r => match r with
        | none => some none
        | some r => some (some (entI x k :: r))) := rfl
    rw [hs, eqK9, ob_some]
    cases hb : beqL y.data.toList x.id.data.toList with
    | true => rw [hb] at h; cases h
    | false =>
      rw [hb] at h
      rw [cnd_false, put_ents y v l (k + 1) h, ob_some]
def itZ : It := ⟨0, ⟨#[]⟩, ⟨#[]⟩, ⟨#[]⟩, ⟨#[]⟩, ⟨#[]⟩, false⟩
theorem z61_eq : z61 = .agg ⟨itZ.cells⟩ := by kernel_rfl
theorem zero61c : EG.zero 61 = some itZ.cells := by kernel_rfl
def plainGo (out : List It) : List It → Option (List It)
  | [] => some out
  | x :: l => if badB (findIt out x.id).isSome x (findIt out x.par).isSome ((findIt out x.par).getD itZ) then none else plainGo (out ++ [x]) l
theorem look_ents (y : ByteArray) (l : List It) (k : Nat) : ∃ e, findK (EG.eq 3 9 (.string y)) (ents l k) = some e ∧ lookR true z61 e = .tuple ⟨[.agg ⟨((findIt l y).getD itZ).cells⟩, .bool (findIt l y).isSome]⟩ := by
  obtain ⟨e, h1, h2⟩ := find_ents y l k
  refine ⟨e, h1, ?_⟩
  rcases h2 with ⟨h3, rfl⟩ | ⟨x, j, h3, rfl⟩
  · rw [h3, z61_eq]; rfl
  · rw [h3]; rfl
def IsItems (N : Base) (V : Value) (l : List It) : Prop := ∃ A c, V = lit (.slice A l.length c) ∧ ∀ j x, l[j]? = some x → ∃ a, A = some a ∧ CellsN N (a.add (j * 7)) x.cells
theorem IsItems.le {N N1 : Base} {V : Value} {l : List It} (h : IsItems N V l) (k : Base.le N N1) : IsItems N1 V l := by
  obtain ⟨A, c, h1, h2⟩ := h
  exact ⟨A, c, h1, fun j x hj => by obtain ⟨a, h3, h4⟩ := h2 j x hj; exact ⟨a, h3, h4.le k⟩⟩
theorem It.rvs (x : It) (φ : Rn) : RVs φ x.cells x.cells :=
  .cons _ _ _ _ (.int _ _) (.cons _ _ _ _ (.string _) (.cons _ _ _ _ (.string _) (.cons _ _ _ _ (.string _) (.cons _ _ _ _ (.string _) (.cons _ _ _ _ (.string _) (.cons _ _ _ _ (.bool _) .nil))))))
structure Grow (s s' : St) : Prop where
  le : s.n ≤ s'.n
  keep : ∀ b, b < s.n → b < 32768 → s'.at b = s.at b
theorem Grow.refl (s : St) : Grow s s := ⟨Nat.le_refl _, fun _ _ _ => rfl⟩
theorem Grow.new {s0 s s' : St} {o : AO} (h : Grow s0 s) (k : New s o s') : Grow s0 s' :=
  ⟨by have := h.le; have := k.n; omega, fun b hb h8 => by have := h.le; rw [k.keep b h8 (by omega)]; exact h.keep b hb h8⟩
theorem Grow.set {s0 s s' : St} {b : Nat} {o : AO} (h : Grow s0 s) (k : Set1 s b o s') (hb : s0.n ≤ b) : Grow s0 s' :=
  ⟨by have := h.le; have := k.n; omega, fun j hj h8 => by rw [k.keep j h8 (by omega)]; exact h.keep j hj h8⟩
end
end Go.Eng
end
section
namespace Go.Eng
open Go.Proofs
noncomputable section
variable {N : Base} {s : St} {V : Value} {l : List It}
def ItemsR (s : St) (l : List It) (N : Base) (v : Value) (s' : St) (N' : Base) : Prop := N' = N ∧ Grow s s' ∧ s'.n ≤ s.n + 2 + 3 * l.length ∧
  ((plainGo [] l = none ∧ v = .tuple #[.map none, .bool false]) ∨ ∃ m, plainGo [] l ≠ none ∧ s.n ≤ m ∧ m < s'.n ∧ v = .tuple #[.map (some m), .bool true] ∧ s'.at m = some (.map (ents l 0) l.length))
theorem items_calls (hV : IsItems N V l) (hn : s.n + 2 + 3 * l.length < 32768) : ACalls EG N 55 [.agg ⟨[V]⟩] s (ItemsR s l N) := by
  obtain ⟨a, c, rfl, hx⟩ := hV
  refine ACalls.of_body eok2G (F := Tryz.f55) (by kernel_rfl) rfl (by simp [Tryz.f55]) (by decide) ?_
  refine AW.seq (AW.region eokG ?_)
  obtain ⟨s1, ho1, N1⟩ := e_box (E := EG) (t := 24) (x := .tmp 0) (tm := tmOf [.agg ⟨[lit (.slice a l.length c)]⟩]) (s := s) (l := [lit (.slice a l.length c)]) (by kernel_rfl) (by omega)
  refine aop_val rfl (v := .pointer (some ⟨s.n, 0, none⟩)) (s1 := s1) ho1 ?_
  refine aop_val rfl (v := .map none) (s1 := s1) (by kernel_rfl) ?_
  refine aop_val rfl (v := .bool false) (s1 := s1) (by kernel_rfl) ?_
  refine AW.keep [(1, .pointer (some ⟨s.n, 0, none⟩))] ⟨⟨rfl, by kernel_rfl⟩, trivial⟩ ?_
  refine AW.seq (AW.region eokG ?_)
  have hn1 := N1.n
  obtain ⟨s2, ho2, N2⟩ := e_makeMap (E := EG) (t := 90) (tm := tmL [(1, .pointer (some ⟨s.n, 0, none⟩))]) (s := s1) (by omega)
  refine aop_val rfl (v := .map (some s1.n)) (s1 := s2) ho2 ?_
  refine aop_val rfl (v := .map (some s1.n)) (s1 := s2) (by kernel_rfl) ?_
  have hn2 := N2.n
  have hb0 : s2.at s.n = some (.cells [lit (.slice a l.length c)] 24 true 0) := (N2.keep s.n (by omega) (by omega)).trans N1.new
  have hG2 : Grow s s2 := ((Grow.refl s).new N1).new N2
  refine AW.seq (AW.seq (AW.region eokG ?_))
  refine aop_val rfl (v := .pointer (some ⟨s.n, 0, none⟩)) (s1 := s2) (by kernel_rfl) ?_
  refine aop_val rfl (v := lit (.slice a l.length c)) (s1 := s2) (e_load1 (b := s.n) (off := 0) (by kernel_rfl) hb0 (by kernel_rfl) rfl) ?_
  refine aop_v rfl (natV l.length) (v_len eokG (e := 61) (a := a) (c := c) (by kernel_rfl) rfl (by kernel_rfl)) ?_
  refine aop_val rfl (v := .int .i64 ((0 : Nat) : Int)) (s1 := s2) (by kernel_rfl) ?_
  have hfl : ∀ a, findIt [] a = none := fun _ => rfl
  refine AW.block (AW.loop (G := Nat) (fun j tm df s' N' => N' = N ∧ j ≤ l.length ∧ Has tm [(4, .map (some s1.n)), (13, lit (.slice a l.length c)), (14, natV l.length), (15, .int .i64 (j : Int))] ∧ df = [] ∧ Grow s s' ∧ s.n + 2 ≤ s'.n ∧ s'.n ≤ s.n + 2 + 3 * j ∧
      s'.at s1.n = some (.map (ents (l.take j) 0) j) ∧ plainGo (l.take j) (l.drop j) = plainGo [] l) (fun j => l.length - j) 0
    ⟨rfl, Nat.zero_le _, ⟨⟨rfl, by kernel_rfl⟩, ⟨rfl, by kernel_rfl⟩, ⟨rfl, by kernel_rfl⟩, ⟨rfl, by kernel_rfl⟩, trivial⟩, rfl, hG2, by omega, by omega, N2.new, rfl⟩ ?_)
  clear hfl
  rintro j tm df s3 N' _ ⟨rfl, hj, htm, rfl, hG, hlo, hup, hm, hpl⟩
  refine AW.keep _ htm ?_
  clear htm
  refine AW.seq (AW.region eokG ?_)
  refine aop_val rfl (v := .bool (!ile (Int.ofNat l.length) (j : Int))) (s1 := s3) (by kernel_rfl) ?_
  have hile : (!ile (Int.ofNat l.length) (j : Int)) = decide (j < l.length) := by
    show (!Nat.ble l.length j) = _
    by_cases h : j < l.length
    · have : Nat.ble l.length j = false := by
        cases e : Nat.ble l.length j with
        | false => rfl
        | true => have := Nat.le_of_ble_eq_true e; omega
      simp [this, h]
    · have : Nat.ble l.length j = true := Nat.ble_eq_true_of_le (by omega)
      simp [this, h]
  rw [hile]
  by_cases hlt : j < l.length
  · rw [show decide (j < l.length) = true from by simp [hlt]]
    refine AW.keep [(4, .map (some s1.n)), (13, lit (.slice a l.length c)), (14, natV l.length), (15, .int .i64 (j : Int)), (16, .bool true)] ⟨⟨rfl, by kernel_rfl⟩, ⟨rfl, by kernel_rfl⟩, ⟨rfl, by kernel_rfl⟩, ⟨rfl, by kernel_rfl⟩, ⟨rfl, by kernel_rfl⟩, trivial⟩ ?_
    refine AW.seq (AW.cond (t := true) (by kernel_rfl) (AW.skip ?_))
    have hxj : l[j]? = some l[j] := List.getElem?_eq_getElem hlt
    generalize l[j] = x at hxj
    obtain ⟨b, rfl, hr⟩ := hx j x hxj
    refine AW.seq (AW.block (AW.seq (AW.region eokG ?_)))
    refine aop_v rfl (lit (.pointer (some (b.add (j * 7))))) (v_indexAddr eokG (e := 61) (size := 7) (k := .i64) (c := c) (by kernel_rfl) (by kernel_rfl) (by kernel_rfl) (by kernel_rfl) hlt) ?_
    refine aop_v rfl (.agg ⟨x.cells⟩) (v_loadN eokG (a := b.add (j * 7)) (by kernel_rfl) hr x.rvs (by kernel_rfl) (by kernel_rfl)) ?_
    refine aop_valX rfl (e_alloc zero61c (by omega)) fun s4 N4 => ?_
    have n4 := N4.n
    refine aop_skipX rfl (e_store (b := s3.n) (o := 0) (n := 7) (l := x.cells) (by kernel_rfl) (by kernel_rfl) (by kernel_rfl) (by omega) (Nat.zero_le _) N4.new (by kernel_rfl) (by kernel_rfl) (by kernel_rfl) (show writeAt 0 x.cells itZ.cells = some x.cells from by kernel_rfl)) fun s5 S5 => ?_
    have n5 := S5.n
    have hG5 : Grow s s5 := (hG.new N4).set S5 (by omega)
    have hm5 : s5.at s1.n = some (.map (ents (l.take j) 0) j) := (S5.keep _ (by omega) (by omega)).trans ((N4.keep _ (by omega) (by omega)).trans hm)
    have hx5 : s5.at s3.n = some (.cells x.cells 61 true 0) := S5.new
    refine AW.keep [(4, .map (some s1.n)), (6, .pointer (some ⟨s3.n, 0, none⟩)), (13, lit (.slice (some b) l.length c)), (14, natV l.length), (15, .int .i64 (j : Int))] ⟨⟨rfl, by kernel_rfl⟩, ⟨rfl, by kernel_rfl⟩, ⟨rfl, by kernel_rfl⟩, ⟨rfl, by kernel_rfl⟩, ⟨rfl, by kernel_rfl⟩, trivial⟩ ?_
    refine AW.seq (AW.region eokG ?_)
    refine aop_val rfl (v := .map (some s1.n)) (s1 := s5) (by kernel_rfl) ?_
    refine aop_val rfl (v := .pointer (some ⟨s3.n, 1, none⟩)) (s1 := s5) (by kernel_rfl) ?_
    refine aop_val rfl (v := .string x.id) (s1 := s5) (e_load1 (b := s3.n) (off := 1) (by kernel_rfl) hx5 (by kernel_rfl) rfl) ?_
    obtain ⟨e5, he5, hle5⟩ := look_ents x.id (l.take j) 0
    generalize hp0 : (findIt (l.take j) x.id).getD itZ = p0 at hle5
    generalize htw : (findIt (l.take j) x.id).isSome = tw at hle5
    refine aop_val rfl (v := .tuple ⟨[.agg ⟨p0.cells⟩, .bool tw]⟩) (s1 := s5) (by rw [← hle5]; exact e_lookup mapT90 zero61 (by kernel_rfl) (by kernel_rfl) hm5 he5) ?_
    refine aop_val rfl (v := .tuple ⟨[.agg ⟨p0.cells⟩, .bool tw]⟩) (s1 := s5) (by kernel_rfl) ?_
    refine aop_val rfl (v := .agg ⟨p0.cells⟩) (s1 := s5) (by kernel_rfl) ?_
    refine aop_val rfl (v := .bool tw) (s1 := s5) (by kernel_rfl) ?_
    refine aop_valX rfl (e_alloc zero61c (by omega)) fun s6 N6 => ?_
    have n6 := N6.n
    refine aop_skipX rfl (e_store (b := s5.n) (o := 0) (n := 7) (l := p0.cells) (by kernel_rfl) (by kernel_rfl) (by kernel_rfl) (by omega) (Nat.zero_le _) N6.new (by kernel_rfl) (by kernel_rfl) (by kernel_rfl) (show writeAt 0 p0.cells itZ.cells = some p0.cells from by kernel_rfl)) fun s7 S7 => ?_
    have n7 := S7.n
    have hG7 : Grow s s7 := (hG5.new N6).set S7 (by omega)
    have hm7 : s7.at s1.n = some (.map (ents (l.take j) 0) j) := (S7.keep _ (by omega) (by omega)).trans ((N6.keep _ (by omega) (by omega)).trans hm5)
    have hx7 : s7.at s3.n = some (.cells x.cells 61 true 0) := (S7.keep _ (by omega) (by omega)).trans ((N6.keep _ (by omega) (by omega)).trans hx5)
    refine aop_val rfl (v := .bool tw) (s1 := s7) (by kernel_rfl) ?_
    refine AW.keep [(4, .map (some s1.n)), (6, .pointer (some ⟨s3.n, 0, none⟩)), (13, lit (.slice (some b) l.length c)), (14, natV l.length), (15, .int .i64 (j : Int)), (8, .bool tw)] ⟨⟨rfl, by kernel_rfl⟩, ⟨rfl, by kernel_rfl⟩, ⟨rfl, by kernel_rfl⟩, ⟨rfl, by kernel_rfl⟩, ⟨rfl, by kernel_rfl⟩, ⟨rfl, by kernel_rfl⟩, trivial⟩ ?_
    refine AW.seq (AW.region eokG ?_)
    refine aop_val rfl (v := .map (some s1.n)) (s1 := s7) (by kernel_rfl) ?_
    refine aop_val rfl (v := .pointer (some ⟨s3.n, 2, none⟩)) (s1 := s7) (by kernel_rfl) ?_
    refine aop_val rfl (v := .string x.par) (s1 := s7) (e_load1 (b := s3.n) (off := 2) (by kernel_rfl) hx7 (by kernel_rfl) rfl) ?_
    obtain ⟨e7, he7, hle7⟩ := look_ents x.par (l.take j) 0
    generalize hp : (findIt (l.take j) x.par).getD itZ = p at hle7
    generalize hF : (findIt (l.take j) x.par).isSome = F at hle7
    refine aop_val rfl (v := .tuple ⟨[.agg ⟨p.cells⟩, .bool F]⟩) (s1 := s7) (by rw [← hle7]; exact e_lookup mapT90 zero61 (by kernel_rfl) (by kernel_rfl) hm7 he7) ?_
    refine aop_val rfl (v := .tuple ⟨[.agg ⟨p.cells⟩, .bool F]⟩) (s1 := s7) (by kernel_rfl) ?_
    refine aop_val rfl (v := .agg ⟨p.cells⟩) (s1 := s7) (by kernel_rfl) ?_
    refine aop_val rfl (v := .bool F) (s1 := s7) (by kernel_rfl) ?_
    refine aop_valX rfl (e_alloc zero61c (by omega)) fun s8 N8 => ?_
    have n8 := N8.n
    refine aop_skipX rfl (e_store (b := s7.n) (o := 0) (n := 7) (l := p.cells) (by kernel_rfl) (by kernel_rfl) (by kernel_rfl) (by omega) (Nat.zero_le _) N8.new (by kernel_rfl) (by kernel_rfl) (by kernel_rfl) (show writeAt 0 p.cells itZ.cells = some p.cells from by kernel_rfl)) fun s9 S9 => ?_
    have n9 := S9.n
    have hG9 : Grow s s9 := (hG7.new N8).set S9 (by omega)
    have hm9 : s9.at s1.n = some (.map (ents (l.take j) 0) j) := (S9.keep _ (by omega) (by omega)).trans ((N8.keep _ (by omega) (by omega)).trans hm7)
    have hx9 : s9.at s3.n = some (.cells x.cells 61 true 0) := (S9.keep _ (by omega) (by omega)).trans ((N8.keep _ (by omega) (by omega)).trans hx7)
    refine aop_val rfl (v := .bool F) (s1 := s9) (by kernel_rfl) ?_
    refine AW.keep [(4, .map (some s1.n)), (6, .pointer (some ⟨s3.n, 0, none⟩)), (13, lit (.slice (some b) l.length c)), (14, natV l.length), (15, .int .i64 (j : Int)), (8, .bool tw), (9, .pointer (some ⟨s7.n, 0, none⟩)), (10, .bool F)] ⟨⟨rfl, by kernel_rfl⟩, ⟨rfl, by kernel_rfl⟩, ⟨rfl, by kernel_rfl⟩, ⟨rfl, by kernel_rfl⟩, ⟨rfl, by kernel_rfl⟩, ⟨rfl, by kernel_rfl⟩, ⟨rfl, by kernel_rfl⟩, ⟨rfl, by kernel_rfl⟩, trivial⟩ ?_
    have hp9 : s9.at s7.n = some (.cells p.cells 61 true 0) := S9.new
    refine AW.seq (AW.seq (AW.region eokG ?_))
    refine aops_meet [(4, .map (some s1.n)), (6, .pointer (some ⟨s3.n, 0, none⟩)), (13, lit (.slice (some b) l.length c)), (14, natV l.length), (15, .int .i64 (j : Int)), (57, .bool (badB tw x F p))] ?_ ?_
    · clear htw hF
      cases tw with
      | false =>
        cases F with
        | false =>
          refine aop_val rfl (v := .bool false) (s1 := s9) (by kernel_rfl) ?_
          refine aop_val rfl (v := .bool false) (s1 := s9) (by kernel_rfl) ?_
          refine aop_wanted (b := true) (by kernel_rfl) (fun h => by cases h) (fun _ => ⟨.pointer (some ⟨s3.n, 0, none⟩), s9, by kernel_rfl, ?_⟩)
          refine aop_wanted (b := true) (by kernel_rfl) (fun h => by cases h) (fun _ => ⟨.int .i64 x.kind, s9, e_load1 (b := s3.n) (off := 0) (by kernel_rfl) hx9 (by kernel_rfl) rfl, ?_⟩)
          refine aop_wanted (b := true) (by kernel_rfl) (fun h => by cases h) (fun _ => ⟨.bool (!ieq x.kind 1), s9, by kernel_rfl, ?_⟩)
          generalize hb1 : (!ieq x.kind 1) = b1
          cases b1 with
          | false =>
            refine aop_wanted (b := true) (by kernel_rfl) (fun h => by cases h) (fun _ => ⟨.bool false, s9, by kernel_rfl, ?_⟩)
            refine aop_wanted (b := false) (by kernel_rfl) (fun _ => ?_) (fun h => by cases h)
            refine aop_wanted (b := false) (by kernel_rfl) (fun _ => ?_) (fun h => by cases h)
            refine aop_wanted (b := false) (by kernel_rfl) (fun _ => ?_) (fun h => by cases h)
            refine aop_wanted (b := true) (by kernel_rfl) (fun h => by cases h) (fun _ => ⟨.bool false, s9, by kernel_rfl, ?_⟩)
            refine aop_val rfl (v := .bool false) (s1 := s9) (by kernel_rfl) ?_
            refine aop_val rfl (v := .bool false) (s1 := s9) (by kernel_rfl) ?_
            refine aop_wanted (b := true) (by kernel_rfl) (fun h => by cases h) (fun _ => ⟨.pointer (some ⟨s3.n, 2, none⟩), s9, by kernel_rfl, ?_⟩)
            refine aop_wanted (b := true) (by kernel_rfl) (fun h => by cases h) (fun _ => ⟨.string x.par, s9, e_load1 (b := s3.n) (off := 2) (by kernel_rfl) hx9 (by kernel_rfl) rfl, ?_⟩)
            refine aop_wanted (b := true) (by kernel_rfl) (fun h => by cases h) (fun _ => ⟨.bool (!beqL x.par.data.toList []), s9, by kernel_rfl, ?_⟩)
            generalize hb2 : (!beqL x.par.data.toList []) = b2
            cases b2 with
            | false =>
              refine aop_wanted (b := true) (by kernel_rfl) (fun h => by cases h) (fun _ => ⟨.bool false, s9, by kernel_rfl, ?_⟩)
              refine aop_wanted (b := false) (by kernel_rfl) (fun _ => ?_) (fun h => by cases h)
              refine aop_wanted (b := false) (by kernel_rfl) (fun _ => ?_) (fun h => by cases h)
              refine aop_wanted (b := false) (by kernel_rfl) (fun _ => ?_) (fun h => by cases h)
              refine aop_wanted (b := false) (by kernel_rfl) (fun _ => ?_) (fun h => by cases h)
              refine aop_wanted (b := false) (by kernel_rfl) (fun _ => ?_) (fun h => by cases h)
              refine aop_wanted (b := false) (by kernel_rfl) (fun _ => ?_) (fun h => by cases h)
              refine aop_wanted (b := false) (by kernel_rfl) (fun _ => ?_) (fun h => by cases h)
              refine aop_wanted (b := true) (by kernel_rfl) (fun h => by cases h) (fun _ => ⟨.bool false, s9, by kernel_rfl, ?_⟩)
              refine aop_val rfl (v := .bool false) (s1 := s9) (by kernel_rfl) ?_
              have e : badB false x false p = false := by simp [badB, hb1, hb2]
              exact ⟨⟨⟨rfl, by kernel_rfl⟩, ⟨rfl, by kernel_rfl⟩, ⟨rfl, by kernel_rfl⟩, ⟨rfl, by kernel_rfl⟩, ⟨rfl, by kernel_rfl⟩, ⟨rfl, by rw [e]; kernel_rfl⟩, trivial⟩, rfl, rfl, rfl⟩
            | true =>
              refine aop_wanted (b := true) (by kernel_rfl) (fun h => by cases h) (fun _ => ⟨.bool true, s9, by kernel_rfl, ?_⟩)
              refine aop_wanted (b := true) (by kernel_rfl) (fun h => by cases h) (fun _ => ⟨.bool false, s9, by kernel_rfl, ?_⟩)
              refine aop_wanted (b := true) (by kernel_rfl) (fun h => by cases h) (fun _ => ⟨.bool true, s9, by kernel_rfl, ?_⟩)
              refine aop_wanted (b := true) (by kernel_rfl) (fun h => by cases h) (fun _ => ⟨.bool true, s9, by kernel_rfl, ?_⟩)
              refine aop_wanted (b := false) (by kernel_rfl) (fun _ => ?_) (fun h => by cases h)
              refine aop_wanted (b := false) (by kernel_rfl) (fun _ => ?_) (fun h => by cases h)
              refine aop_wanted (b := false) (by kernel_rfl) (fun _ => ?_) (fun h => by cases h)
              refine aop_wanted (b := true) (by kernel_rfl) (fun h => by cases h) (fun _ => ⟨.bool true, s9, by kernel_rfl, ?_⟩)
              refine aop_wanted (b := true) (by kernel_rfl) (fun h => by cases h) (fun _ => ⟨.bool true, s9, by kernel_rfl, ?_⟩)
              refine aop_val rfl (v := .bool true) (s1 := s9) (by kernel_rfl) ?_
              have e : badB false x false p = true := by simp [badB, hb1, hb2]
              exact ⟨⟨⟨rfl, by kernel_rfl⟩, ⟨rfl, by kernel_rfl⟩, ⟨rfl, by kernel_rfl⟩, ⟨rfl, by kernel_rfl⟩, ⟨rfl, by kernel_rfl⟩, ⟨rfl, by rw [e]; kernel_rfl⟩, trivial⟩, rfl, rfl, rfl⟩
          | true =>
            refine aop_wanted (b := true) (by kernel_rfl) (fun h => by cases h) (fun _ => ⟨.bool true, s9, by kernel_rfl, ?_⟩)
            refine aop_wanted (b := true) (by kernel_rfl) (fun h => by cases h) (fun _ => ⟨.pointer (some ⟨s3.n, 0, none⟩), s9, by kernel_rfl, ?_⟩)
            refine aop_wanted (b := true) (by kernel_rfl) (fun h => by cases h) (fun _ => ⟨.int .i64 x.kind, s9, e_load1 (b := s3.n) (off := 0) (by kernel_rfl) hx9 (by kernel_rfl) rfl, ?_⟩)
            refine aop_wanted (b := true) (by kernel_rfl) (fun h => by cases h) (fun _ => ⟨.bool (!ieq x.kind 2), s9, by kernel_rfl, ?_⟩)
            generalize hb3 : (!ieq x.kind 2) = b3
            cases b3 with
            | false =>
              refine aop_wanted (b := true) (by kernel_rfl) (fun h => by cases h) (fun _ => ⟨.bool false, s9, by kernel_rfl, ?_⟩)
              refine aop_val rfl (v := .bool false) (s1 := s9) (by kernel_rfl) ?_
              refine aop_val rfl (v := .bool false) (s1 := s9) (by kernel_rfl) ?_
              refine aop_wanted (b := true) (by kernel_rfl) (fun h => by cases h) (fun _ => ⟨.pointer (some ⟨s3.n, 2, none⟩), s9, by kernel_rfl, ?_⟩)
              refine aop_wanted (b := true) (by kernel_rfl) (fun h => by cases h) (fun _ => ⟨.string x.par, s9, e_load1 (b := s3.n) (off := 2) (by kernel_rfl) hx9 (by kernel_rfl) rfl, ?_⟩)
              refine aop_wanted (b := true) (by kernel_rfl) (fun h => by cases h) (fun _ => ⟨.bool (!beqL x.par.data.toList []), s9, by kernel_rfl, ?_⟩)
              generalize hb4 : (!beqL x.par.data.toList []) = b4
              cases b4 with
              | false =>
                refine aop_wanted (b := true) (by kernel_rfl) (fun h => by cases h) (fun _ => ⟨.bool false, s9, by kernel_rfl, ?_⟩)
                refine aop_wanted (b := false) (by kernel_rfl) (fun _ => ?_) (fun h => by cases h)
                refine aop_wanted (b := false) (by kernel_rfl) (fun _ => ?_) (fun h => by cases h)
                refine aop_wanted (b := false) (by kernel_rfl) (fun _ => ?_) (fun h => by cases h)
                refine aop_wanted (b := false) (by kernel_rfl) (fun _ => ?_) (fun h => by cases h)
                refine aop_wanted (b := false) (by kernel_rfl) (fun _ => ?_) (fun h => by cases h)
                refine aop_wanted (b := false) (by kernel_rfl) (fun _ => ?_) (fun h => by cases h)
                refine aop_wanted (b := false) (by kernel_rfl) (fun _ => ?_) (fun h => by cases h)
                refine aop_wanted (b := true) (by kernel_rfl) (fun h => by cases h) (fun _ => ⟨.bool false, s9, by kernel_rfl, ?_⟩)
                refine aop_val rfl (v := .bool false) (s1 := s9) (by kernel_rfl) ?_
                have e : badB false x false p = false := by simp [badB, hb1, hb3, hb4]
                exact ⟨⟨⟨rfl, by kernel_rfl⟩, ⟨rfl, by kernel_rfl⟩, ⟨rfl, by kernel_rfl⟩, ⟨rfl, by kernel_rfl⟩, ⟨rfl, by kernel_rfl⟩, ⟨rfl, by rw [e]; kernel_rfl⟩, trivial⟩, rfl, rfl, rfl⟩
              | true =>
                refine aop_wanted (b := true) (by kernel_rfl) (fun h => by cases h) (fun _ => ⟨.bool true, s9, by kernel_rfl, ?_⟩)
                refine aop_wanted (b := true) (by kernel_rfl) (fun h => by cases h) (fun _ => ⟨.bool false, s9, by kernel_rfl, ?_⟩)
                refine aop_wanted (b := true) (by kernel_rfl) (fun h => by cases h) (fun _ => ⟨.bool true, s9, by kernel_rfl, ?_⟩)
                refine aop_wanted (b := true) (by kernel_rfl) (fun h => by cases h) (fun _ => ⟨.bool true, s9, by kernel_rfl, ?_⟩)
                refine aop_wanted (b := false) (by kernel_rfl) (fun _ => ?_) (fun h => by cases h)
                refine aop_wanted (b := false) (by kernel_rfl) (fun _ => ?_) (fun h => by cases h)
                refine aop_wanted (b := false) (by kernel_rfl) (fun _ => ?_) (fun h => by cases h)
                refine aop_wanted (b := true) (by kernel_rfl) (fun h => by cases h) (fun _ => ⟨.bool true, s9, by kernel_rfl, ?_⟩)
                refine aop_wanted (b := true) (by kernel_rfl) (fun h => by cases h) (fun _ => ⟨.bool true, s9, by kernel_rfl, ?_⟩)
                refine aop_val rfl (v := .bool true) (s1 := s9) (by kernel_rfl) ?_
                have e : badB false x false p = true := by simp [badB, hb1, hb3, hb4]
                exact ⟨⟨⟨rfl, by kernel_rfl⟩, ⟨rfl, by kernel_rfl⟩, ⟨rfl, by kernel_rfl⟩, ⟨rfl, by kernel_rfl⟩, ⟨rfl, by kernel_rfl⟩, ⟨rfl, by rw [e]; kernel_rfl⟩, trivial⟩, rfl, rfl, rfl⟩
            | true =>
              refine aop_wanted (b := true) (by kernel_rfl) (fun h => by cases h) (fun _ => ⟨.bool true, s9, by kernel_rfl, ?_⟩)
              refine aop_val rfl (v := .bool true) (s1 := s9) (by kernel_rfl) ?_
              refine aop_val rfl (v := .bool true) (s1 := s9) (by kernel_rfl) ?_
              refine aop_wanted (b := false) (by kernel_rfl) (fun _ => ?_) (fun h => by cases h)
              refine aop_wanted (b := false) (by kernel_rfl) (fun _ => ?_) (fun h => by cases h)
              refine aop_wanted (b := false) (by kernel_rfl) (fun _ => ?_) (fun h => by cases h)
              refine aop_wanted (b := false) (by kernel_rfl) (fun _ => ?_) (fun h => by cases h)
              refine aop_wanted (b := false) (by kernel_rfl) (fun _ => ?_) (fun h => by cases h)
              refine aop_wanted (b := false) (by kernel_rfl) (fun _ => ?_) (fun h => by cases h)
              refine aop_wanted (b := false) (by kernel_rfl) (fun _ => ?_) (fun h => by cases h)
              refine aop_wanted (b := false) (by kernel_rfl) (fun _ => ?_) (fun h => by cases h)
              refine aop_wanted (b := false) (by kernel_rfl) (fun _ => ?_) (fun h => by cases h)
              refine aop_wanted (b := false) (by kernel_rfl) (fun _ => ?_) (fun h => by cases h)
              refine aop_wanted (b := false) (by kernel_rfl) (fun _ => ?_) (fun h => by cases h)
              refine aop_wanted (b := false) (by kernel_rfl) (fun _ => ?_) (fun h => by cases h)
              refine aop_val rfl (v := .bool true) (s1 := s9) (by kernel_rfl) ?_
              have e : badB false x false p = true := by simp [badB, hb1, hb3]
              exact ⟨⟨⟨rfl, by kernel_rfl⟩, ⟨rfl, by kernel_rfl⟩, ⟨rfl, by kernel_rfl⟩, ⟨rfl, by kernel_rfl⟩, ⟨rfl, by kernel_rfl⟩, ⟨rfl, by rw [e]; kernel_rfl⟩, trivial⟩, rfl, rfl, rfl⟩
        | true =>
          refine aop_val rfl (v := .bool false) (s1 := s9) (by kernel_rfl) ?_
          refine aop_val rfl (v := .bool false) (s1 := s9) (by kernel_rfl) ?_
          refine aop_wanted (b := true) (by kernel_rfl) (fun h => by cases h) (fun _ => ⟨.pointer (some ⟨s3.n, 0, none⟩), s9, by kernel_rfl, ?_⟩)
          refine aop_wanted (b := true) (by kernel_rfl) (fun h => by cases h) (fun _ => ⟨.int .i64 x.kind, s9, e_load1 (b := s3.n) (off := 0) (by kernel_rfl) hx9 (by kernel_rfl) rfl, ?_⟩)
          refine aop_wanted (b := true) (by kernel_rfl) (fun h => by cases h) (fun _ => ⟨.bool (!ieq x.kind 1), s9, by kernel_rfl, ?_⟩)
          generalize hb1 : (!ieq x.kind 1) = b1
          cases b1 with
          | false =>
            refine aop_wanted (b := true) (by kernel_rfl) (fun h => by cases h) (fun _ => ⟨.bool false, s9, by kernel_rfl, ?_⟩)
            refine aop_wanted (b := false) (by kernel_rfl) (fun _ => ?_) (fun h => by cases h)
            refine aop_wanted (b := false) (by kernel_rfl) (fun _ => ?_) (fun h => by cases h)
            refine aop_wanted (b := false) (by kernel_rfl) (fun _ => ?_) (fun h => by cases h)
            refine aop_wanted (b := true) (by kernel_rfl) (fun h => by cases h) (fun _ => ⟨.bool false, s9, by kernel_rfl, ?_⟩)
            refine aop_val rfl (v := .bool false) (s1 := s9) (by kernel_rfl) ?_
            refine aop_val rfl (v := .bool false) (s1 := s9) (by kernel_rfl) ?_
            refine aop_wanted (b := true) (by kernel_rfl) (fun h => by cases h) (fun _ => ⟨.pointer (some ⟨s3.n, 2, none⟩), s9, by kernel_rfl, ?_⟩)
            refine aop_wanted (b := true) (by kernel_rfl) (fun h => by cases h) (fun _ => ⟨.string x.par, s9, e_load1 (b := s3.n) (off := 2) (by kernel_rfl) hx9 (by kernel_rfl) rfl, ?_⟩)
            refine aop_wanted (b := true) (by kernel_rfl) (fun h => by cases h) (fun _ => ⟨.bool (!beqL x.par.data.toList []), s9, by kernel_rfl, ?_⟩)
            generalize hb2 : (!beqL x.par.data.toList []) = b2
            cases b2 with
            | false =>
              refine aop_wanted (b := true) (by kernel_rfl) (fun h => by cases h) (fun _ => ⟨.bool false, s9, by kernel_rfl, ?_⟩)
              refine aop_wanted (b := false) (by kernel_rfl) (fun _ => ?_) (fun h => by cases h)
              refine aop_wanted (b := false) (by kernel_rfl) (fun _ => ?_) (fun h => by cases h)
              refine aop_wanted (b := false) (by kernel_rfl) (fun _ => ?_) (fun h => by cases h)
              refine aop_wanted (b := false) (by kernel_rfl) (fun _ => ?_) (fun h => by cases h)
              refine aop_wanted (b := false) (by kernel_rfl) (fun _ => ?_) (fun h => by cases h)
              refine aop_wanted (b := false) (by kernel_rfl) (fun _ => ?_) (fun h => by cases h)
              refine aop_wanted (b := false) (by kernel_rfl) (fun _ => ?_) (fun h => by cases h)
              refine aop_wanted (b := true) (by kernel_rfl) (fun h => by cases h) (fun _ => ⟨.bool false, s9, by kernel_rfl, ?_⟩)
              refine aop_val rfl (v := .bool false) (s1 := s9) (by kernel_rfl) ?_
              have e : badB false x true p = false := by simp [badB, hb1, hb2]
              exact ⟨⟨⟨rfl, by kernel_rfl⟩, ⟨rfl, by kernel_rfl⟩, ⟨rfl, by kernel_rfl⟩, ⟨rfl, by kernel_rfl⟩, ⟨rfl, by kernel_rfl⟩, ⟨rfl, by rw [e]; kernel_rfl⟩, trivial⟩, rfl, rfl, rfl⟩
            | true =>
              refine aop_wanted (b := true) (by kernel_rfl) (fun h => by cases h) (fun _ => ⟨.bool true, s9, by kernel_rfl, ?_⟩)
              refine aop_wanted (b := true) (by kernel_rfl) (fun h => by cases h) (fun _ => ⟨.bool true, s9, by kernel_rfl, ?_⟩)
              refine aop_wanted (b := true) (by kernel_rfl) (fun h => by cases h) (fun _ => ⟨.bool false, s9, by kernel_rfl, ?_⟩)
              refine aop_wanted (b := true) (by kernel_rfl) (fun h => by cases h) (fun _ => ⟨.bool false, s9, by kernel_rfl, ?_⟩)
              refine aop_wanted (b := true) (by kernel_rfl) (fun h => by cases h) (fun _ => ⟨.pointer (some ⟨s7.n, 0, none⟩), s9, by kernel_rfl, ?_⟩)
              refine aop_wanted (b := true) (by kernel_rfl) (fun h => by cases h) (fun _ => ⟨.int .i64 p.kind, s9, e_load1 (b := s7.n) (off := 0) (by kernel_rfl) hp9 (by kernel_rfl) rfl, ?_⟩)
              refine aop_wanted (b := true) (by kernel_rfl) (fun h => by cases h) (fun _ => ⟨.bool (!ieq p.kind 1), s9, by kernel_rfl, ?_⟩)
              generalize hb3 : (!ieq p.kind 1) = b3
              cases b3 with
              | false =>
                refine aop_wanted (b := true) (by kernel_rfl) (fun h => by cases h) (fun _ => ⟨.bool false, s9, by kernel_rfl, ?_⟩)
                refine aop_wanted (b := true) (by kernel_rfl) (fun h => by cases h) (fun _ => ⟨.bool false, s9, by kernel_rfl, ?_⟩)
                refine aop_val rfl (v := .bool false) (s1 := s9) (by kernel_rfl) ?_
                have e : badB false x true p = false := by simp [badB, hb1, hb2, hb3]
                exact ⟨⟨⟨rfl, by kernel_rfl⟩, ⟨rfl, by kernel_rfl⟩, ⟨rfl, by kernel_rfl⟩, ⟨rfl, by kernel_rfl⟩, ⟨rfl, by kernel_rfl⟩, ⟨rfl, by rw [e]; kernel_rfl⟩, trivial⟩, rfl, rfl, rfl⟩
              | true =>
                refine aop_wanted (b := true) (by kernel_rfl) (fun h => by cases h) (fun _ => ⟨.bool true, s9, by kernel_rfl, ?_⟩)
                refine aop_wanted (b := true) (by kernel_rfl) (fun h => by cases h) (fun _ => ⟨.bool true, s9, by kernel_rfl, ?_⟩)
                refine aop_val rfl (v := .bool true) (s1 := s9) (by kernel_rfl) ?_
                have e : badB false x true p = true := by simp [badB, hb1, hb2, hb3]
                exact ⟨⟨⟨rfl, by kernel_rfl⟩, ⟨rfl, by kernel_rfl⟩, ⟨rfl, by kernel_rfl⟩, ⟨rfl, by kernel_rfl⟩, ⟨rfl, by kernel_rfl⟩, ⟨rfl, by rw [e]; kernel_rfl⟩, trivial⟩, rfl, rfl, rfl⟩
          | true =>
            refine aop_wanted (b := true) (by kernel_rfl) (fun h => by cases h) (fun _ => ⟨.bool true, s9, by kernel_rfl, ?_⟩)
            refine aop_wanted (b := true) (by kernel_rfl) (fun h => by cases h) (fun _ => ⟨.pointer (some ⟨s3.n, 0, none⟩), s9, by kernel_rfl, ?_⟩)
            refine aop_wanted (b := true) (by kernel_rfl) (fun h => by cases h) (fun _ => ⟨.int .i64 x.kind, s9, e_load1 (b := s3.n) (off := 0) (by kernel_rfl) hx9 (by kernel_rfl) rfl, ?_⟩)
            refine aop_wanted (b := true) (by kernel_rfl) (fun h => by cases h) (fun _ => ⟨.bool (!ieq x.kind 2), s9, by kernel_rfl, ?_⟩)
            generalize hb4 : (!ieq x.kind 2) = b4
            cases b4 with
            | false =>
              refine aop_wanted (b := true) (by kernel_rfl) (fun h => by cases h) (fun _ => ⟨.bool false, s9, by kernel_rfl, ?_⟩)
              refine aop_val rfl (v := .bool false) (s1 := s9) (by kernel_rfl) ?_
              refine aop_val rfl (v := .bool false) (s1 := s9) (by kernel_rfl) ?_
              refine aop_wanted (b := true) (by kernel_rfl) (fun h => by cases h) (fun _ => ⟨.pointer (some ⟨s3.n, 2, none⟩), s9, by kernel_rfl, ?_⟩)
              refine aop_wanted (b := true) (by kernel_rfl) (fun h => by cases h) (fun _ => ⟨.string x.par, s9, e_load1 (b := s3.n) (off := 2) (by kernel_rfl) hx9 (by kernel_rfl) rfl, ?_⟩)
              refine aop_wanted (b := true) (by kernel_rfl) (fun h => by cases h) (fun _ => ⟨.bool (!beqL x.par.data.toList []), s9, by kernel_rfl, ?_⟩)
              generalize hb5 : (!beqL x.par.data.toList []) = b5
              cases b5 with
              | false =>
                refine aop_wanted (b := true) (by kernel_rfl) (fun h => by cases h) (fun _ => ⟨.bool false, s9, by kernel_rfl, ?_⟩)
                refine aop_wanted (b := false) (by kernel_rfl) (fun _ => ?_) (fun h => by cases h)
                refine aop_wanted (b := false) (by kernel_rfl) (fun _ => ?_) (fun h => by cases h)
                refine aop_wanted (b := false) (by kernel_rfl) (fun _ => ?_) (fun h => by cases h)
                refine aop_wanted (b := false) (by kernel_rfl) (fun _ => ?_) (fun h => by cases h)
                refine aop_wanted (b := false) (by kernel_rfl) (fun _ => ?_) (fun h => by cases h)
                refine aop_wanted (b := false) (by kernel_rfl) (fun _ => ?_) (fun h => by cases h)
                refine aop_wanted (b := false) (by kernel_rfl) (fun _ => ?_) (fun h => by cases h)
                refine aop_wanted (b := true) (by kernel_rfl) (fun h => by cases h) (fun _ => ⟨.bool false, s9, by kernel_rfl, ?_⟩)
                refine aop_val rfl (v := .bool false) (s1 := s9) (by kernel_rfl) ?_
                have e : badB false x true p = false := by simp [badB, hb1, hb4, hb5]
                exact ⟨⟨⟨rfl, by kernel_rfl⟩, ⟨rfl, by kernel_rfl⟩, ⟨rfl, by kernel_rfl⟩, ⟨rfl, by kernel_rfl⟩, ⟨rfl, by kernel_rfl⟩, ⟨rfl, by rw [e]; kernel_rfl⟩, trivial⟩, rfl, rfl, rfl⟩
              | true =>
                refine aop_wanted (b := true) (by kernel_rfl) (fun h => by cases h) (fun _ => ⟨.bool true, s9, by kernel_rfl, ?_⟩)
                refine aop_wanted (b := true) (by kernel_rfl) (fun h => by cases h) (fun _ => ⟨.bool true, s9, by kernel_rfl, ?_⟩)
                refine aop_wanted (b := true) (by kernel_rfl) (fun h => by cases h) (fun _ => ⟨.bool false, s9, by kernel_rfl, ?_⟩)
                refine aop_wanted (b := true) (by kernel_rfl) (fun h => by cases h) (fun _ => ⟨.bool false, s9, by kernel_rfl, ?_⟩)
                refine aop_wanted (b := true) (by kernel_rfl) (fun h => by cases h) (fun _ => ⟨.pointer (some ⟨s7.n, 0, none⟩), s9, by kernel_rfl, ?_⟩)
                refine aop_wanted (b := true) (by kernel_rfl) (fun h => by cases h) (fun _ => ⟨.int .i64 p.kind, s9, e_load1 (b := s7.n) (off := 0) (by kernel_rfl) hp9 (by kernel_rfl) rfl, ?_⟩)
                refine aop_wanted (b := true) (by kernel_rfl) (fun h => by cases h) (fun _ => ⟨.bool (!ieq p.kind 1), s9, by kernel_rfl, ?_⟩)
                generalize hb6 : (!ieq p.kind 1) = b6
                cases b6 with
                | false =>
                  refine aop_wanted (b := true) (by kernel_rfl) (fun h => by cases h) (fun _ => ⟨.bool false, s9, by kernel_rfl, ?_⟩)
                  refine aop_wanted (b := true) (by kernel_rfl) (fun h => by cases h) (fun _ => ⟨.bool false, s9, by kernel_rfl, ?_⟩)
                  refine aop_val rfl (v := .bool false) (s1 := s9) (by kernel_rfl) ?_
                  have e : badB false x true p = false := by simp [badB, hb1, hb4, hb5, hb6]
                  exact ⟨⟨⟨rfl, by kernel_rfl⟩, ⟨rfl, by kernel_rfl⟩, ⟨rfl, by kernel_rfl⟩, ⟨rfl, by kernel_rfl⟩, ⟨rfl, by kernel_rfl⟩, ⟨rfl, by rw [e]; kernel_rfl⟩, trivial⟩, rfl, rfl, rfl⟩
                | true =>
                  refine aop_wanted (b := true) (by kernel_rfl) (fun h => by cases h) (fun _ => ⟨.bool true, s9, by kernel_rfl, ?_⟩)
                  refine aop_wanted (b := true) (by kernel_rfl) (fun h => by cases h) (fun _ => ⟨.bool true, s9, by kernel_rfl, ?_⟩)
                  refine aop_val rfl (v := .bool true) (s1 := s9) (by kernel_rfl) ?_
                  have e : badB false x true p = true := by simp [badB, hb1, hb4, hb5, hb6]
                  exact ⟨⟨⟨rfl, by kernel_rfl⟩, ⟨rfl, by kernel_rfl⟩, ⟨rfl, by kernel_rfl⟩, ⟨rfl, by kernel_rfl⟩, ⟨rfl, by kernel_rfl⟩, ⟨rfl, by rw [e]; kernel_rfl⟩, trivial⟩, rfl, rfl, rfl⟩
            | true =>
              refine aop_wanted (b := true) (by kernel_rfl) (fun h => by cases h) (fun _ => ⟨.bool true, s9, by kernel_rfl, ?_⟩)
              refine aop_val rfl (v := .bool true) (s1 := s9) (by kernel_rfl) ?_
              refine aop_val rfl (v := .bool true) (s1 := s9) (by kernel_rfl) ?_
              refine aop_wanted (b := false) (by kernel_rfl) (fun _ => ?_) (fun h => by cases h)
              refine aop_wanted (b := false) (by kernel_rfl) (fun _ => ?_) (fun h => by cases h)
              refine aop_wanted (b := false) (by kernel_rfl) (fun _ => ?_) (fun h => by cases h)
              refine aop_wanted (b := false) (by kernel_rfl) (fun _ => ?_) (fun h => by cases h)
              refine aop_wanted (b := false) (by kernel_rfl) (fun _ => ?_) (fun h => by cases h)
              refine aop_wanted (b := false) (by kernel_rfl) (fun _ => ?_) (fun h => by cases h)
              refine aop_wanted (b := false) (by kernel_rfl) (fun _ => ?_) (fun h => by cases h)
              refine aop_wanted (b := false) (by kernel_rfl) (fun _ => ?_) (fun h => by cases h)
              refine aop_wanted (b := false) (by kernel_rfl) (fun _ => ?_) (fun h => by cases h)
              refine aop_wanted (b := false) (by kernel_rfl) (fun _ => ?_) (fun h => by cases h)
              refine aop_wanted (b := false) (by kernel_rfl) (fun _ => ?_) (fun h => by cases h)
              refine aop_wanted (b := false) (by kernel_rfl) (fun _ => ?_) (fun h => by cases h)
              refine aop_val rfl (v := .bool true) (s1 := s9) (by kernel_rfl) ?_
              have e : badB false x true p = true := by simp [badB, hb1, hb4]
              exact ⟨⟨⟨rfl, by kernel_rfl⟩, ⟨rfl, by kernel_rfl⟩, ⟨rfl, by kernel_rfl⟩, ⟨rfl, by kernel_rfl⟩, ⟨rfl, by kernel_rfl⟩, ⟨rfl, by rw [e]; kernel_rfl⟩, trivial⟩, rfl, rfl, rfl⟩
      | true =>
        cases F with
        | false =>
          refine aop_val rfl (v := .bool true) (s1 := s9) (by kernel_rfl) ?_
          refine aop_val rfl (v := .bool true) (s1 := s9) (by kernel_rfl) ?_
          refine aop_wanted (b := false) (by kernel_rfl) (fun _ => ?_) (fun h => by cases h)
          refine aop_wanted (b := false) (by kernel_rfl) (fun _ => ?_) (fun h => by cases h)
          refine aop_wanted (b := false) (by kernel_rfl) (fun _ => ?_) (fun h => by cases h)
          refine aop_wanted (b := false) (by kernel_rfl) (fun _ => ?_) (fun h => by cases h)
          refine aop_wanted (b := false) (by kernel_rfl) (fun _ => ?_) (fun h => by cases h)
          refine aop_wanted (b := false) (by kernel_rfl) (fun _ => ?_) (fun h => by cases h)
          refine aop_wanted (b := false) (by kernel_rfl) (fun _ => ?_) (fun h => by cases h)
          refine aop_wanted (b := false) (by kernel_rfl) (fun _ => ?_) (fun h => by cases h)
          refine aop_val rfl (v := .bool true) (s1 := s9) (by kernel_rfl) ?_
          refine aop_val rfl (v := .bool true) (s1 := s9) (by kernel_rfl) ?_
          refine aop_wanted (b := false) (by kernel_rfl) (fun _ => ?_) (fun h => by cases h)
          refine aop_wanted (b := false) (by kernel_rfl) (fun _ => ?_) (fun h => by cases h)
          refine aop_wanted (b := false) (by kernel_rfl) (fun _ => ?_) (fun h => by cases h)
          refine aop_wanted (b := false) (by kernel_rfl) (fun _ => ?_) (fun h => by cases h)
          refine aop_wanted (b := false) (by kernel_rfl) (fun _ => ?_) (fun h => by cases h)
          refine aop_wanted (b := false) (by kernel_rfl) (fun _ => ?_) (fun h => by cases h)
          refine aop_wanted (b := false) (by kernel_rfl) (fun _ => ?_) (fun h => by cases h)
          refine aop_wanted (b := false) (by kernel_rfl) (fun _ => ?_) (fun h => by cases h)
          refine aop_wanted (b := false) (by kernel_rfl) (fun _ => ?_) (fun h => by cases h)
          refine aop_wanted (b := false) (by kernel_rfl) (fun _ => ?_) (fun h => by cases h)
          refine aop_wanted (b := false) (by kernel_rfl) (fun _ => ?_) (fun h => by cases h)
          refine aop_wanted (b := false) (by kernel_rfl) (fun _ => ?_) (fun h => by cases h)
          refine aop_val rfl (v := .bool true) (s1 := s9) (by kernel_rfl) ?_
          have e : badB true x false p = true := by simp [badB]
          exact ⟨⟨⟨rfl, by kernel_rfl⟩, ⟨rfl, by kernel_rfl⟩, ⟨rfl, by kernel_rfl⟩, ⟨rfl, by kernel_rfl⟩, ⟨rfl, by kernel_rfl⟩, ⟨rfl, by rw [e]; kernel_rfl⟩, trivial⟩, rfl, rfl, rfl⟩
        | true =>
          refine aop_val rfl (v := .bool true) (s1 := s9) (by kernel_rfl) ?_
          refine aop_val rfl (v := .bool true) (s1 := s9) (by kernel_rfl) ?_
          refine aop_wanted (b := false) (by kernel_rfl) (fun _ => ?_) (fun h => by cases h)
          refine aop_wanted (b := false) (by kernel_rfl) (fun _ => ?_) (fun h => by cases h)
          refine aop_wanted (b := false) (by kernel_rfl) (fun _ => ?_) (fun h => by cases h)
          refine aop_wanted (b := false) (by kernel_rfl) (fun _ => ?_) (fun h => by cases h)
          refine aop_wanted (b := false) (by kernel_rfl) (fun _ => ?_) (fun h => by cases h)
          refine aop_wanted (b := false) (by kernel_rfl) (fun _ => ?_) (fun h => by cases h)
          refine aop_wanted (b := false) (by kernel_rfl) (fun _ => ?_) (fun h => by cases h)
          refine aop_wanted (b := false) (by kernel_rfl) (fun _ => ?_) (fun h => by cases h)
          refine aop_val rfl (v := .bool true) (s1 := s9) (by kernel_rfl) ?_
          refine aop_val rfl (v := .bool true) (s1 := s9) (by kernel_rfl) ?_
          refine aop_wanted (b := false) (by kernel_rfl) (fun _ => ?_) (fun h => by cases h)
          refine aop_wanted (b := false) (by kernel_rfl) (fun _ => ?_) (fun h => by cases h)
          refine aop_wanted (b := false) (by kernel_rfl) (fun _ => ?_) (fun h => by cases h)
          refine aop_wanted (b := false) (by kernel_rfl) (fun _ => ?_) (fun h => by cases h)
          refine aop_wanted (b := false) (by kernel_rfl) (fun _ => ?_) (fun h => by cases h)
          refine aop_wanted (b := false) (by kernel_rfl) (fun _ => ?_) (fun h => by cases h)
          refine aop_wanted (b := false) (by kernel_rfl) (fun _ => ?_) (fun h => by cases h)
          refine aop_wanted (b := false) (by kernel_rfl) (fun _ => ?_) (fun h => by cases h)
          refine aop_wanted (b := false) (by kernel_rfl) (fun _ => ?_) (fun h => by cases h)
          refine aop_wanted (b := false) (by kernel_rfl) (fun _ => ?_) (fun h => by cases h)
          refine aop_wanted (b := false) (by kernel_rfl) (fun _ => ?_) (fun h => by cases h)
          refine aop_wanted (b := false) (by kernel_rfl) (fun _ => ?_) (fun h => by cases h)
          refine aop_val rfl (v := .bool true) (s1 := s9) (by kernel_rfl) ?_
          have e : badB true x true p = true := by simp [badB]
          exact ⟨⟨⟨rfl, by kernel_rfl⟩, ⟨rfl, by kernel_rfl⟩, ⟨rfl, by kernel_rfl⟩, ⟨rfl, by kernel_rfl⟩, ⟨rfl, by kernel_rfl⟩, ⟨rfl, by rw [e]; kernel_rfl⟩, trivial⟩, rfl, rfl, rfl⟩
    rintro tm htm
    refine AW.keep _ htm ?_
    clear htm
    have hdrop : l.drop j = x :: l.drop (j + 1) := by
      rw [List.drop_eq_getElem_cons hlt]
      rw [List.getElem?_eq_getElem hlt] at hxj
      cases hxj; rfl
    rw [hdrop] at hpl
    rw [show plainGo (l.take j) (x :: l.drop (j + 1)) = if badB (findIt (l.take j) x.id).isSome x (findIt (l.take j) x.par).isSome ((findIt (l.take j) x.par).getD itZ) then none else plainGo (l.take j ++ [x]) (l.drop (j + 1)) from rfl] at hpl
    rw [htw, hF, hp] at hpl
    cases hbad : badB tw x F p with
    | true =>
      rw [hbad, if_pos rfl] at hpl
      refine AW.cond (t := true) (by kernel_rfl) (AW.seq (AW.region eokG ?_))
      refine aop_val rfl (v := .map none) (s1 := s9) (by kernel_rfl) ?_
      refine aop_val rfl (v := .bool false) (s1 := s9) (by kernel_rfl) ?_
      refine AW.ret ?_
      exact ⟨.inr rfl, rfl, .tuple #[.map none, .bool false], by kernel_rfl, rfl, hG9, by omega, .inl ⟨hpl.symm, rfl⟩⟩
    | false =>
      rw [hbad] at hpl
      refine AW.cond (t := false) (by kernel_rfl) (AW.skip ?_)
      refine AW.region eokG ?_
      have htw0 : tw = false := by cases tw <;> simp_all [badB]
      have hnone : findIt (l.take j) x.id = none := by
        rw [htw0] at htw
        cases e : findIt (l.take j) x.id with
        | none => rfl
        | some y => rw [e] at htw; cases htw
      refine aop_val rfl (v := .map (some s1.n)) (s1 := s9) (by kernel_rfl) ?_
      refine aop_val rfl (v := .pointer (some ⟨s3.n, 1, none⟩)) (s1 := s9) (by kernel_rfl) ?_
      refine aop_val rfl (v := .string x.id) (s1 := s9) (e_load1 (b := s3.n) (off := 1) (by kernel_rfl) hx9 (by kernel_rfl) rfl) ?_
      refine aop_val rfl (v := .agg ⟨x.cells⟩) (s1 := s9) (e_loadN (n := 7) (b := s3.n) (off := 0) (by kernel_rfl) hx9 (by kernel_rfl) (by kernel_rfl) (by kernel_rfl)) ?_
      refine aop_skipX rfl (e_mapAdd (r := s1.n) mapT90 (by kernel_rfl) (by omega) (Nat.zero_le _) hm9 (by kernel_rfl) (put_ents x.id (.agg ⟨x.cells⟩) (l.take j) 0 hnone)) fun s10 S10 => ?_
      have n10 := S10.n
      refine AW.keep [(4, .map (some s1.n)), (13, lit (.slice (some b) l.length c)), (14, natV l.length), (15, .int .i64 (j : Int))] ⟨⟨rfl, by kernel_rfl⟩, ⟨rfl, by kernel_rfl⟩, ⟨rfl, by kernel_rfl⟩, ⟨rfl, by kernel_rfl⟩, trivial⟩ ?_
      refine AW.region eokG ?_
      refine aop_val rfl (v := .int .i64 ((j + 1 : Nat) : Int)) (s1 := s10) (e_inc (j := j) (by kernel_rfl) (by omega)) ?_
      refine aop_val rfl (v := .int .i64 ((j + 1 : Nat) : Int)) (s1 := s10) (by kernel_rfl) ?_
      have htake : l.take (j + 1) = l.take j ++ [x] := by rw [List.take_add_one, hxj]; rfl
      have hlen : (l.take j).length = j := by rw [List.length_take]; omega
      refine ⟨j + 1, ⟨rfl, by omega, ⟨⟨rfl, by kernel_rfl⟩, ⟨rfl, by kernel_rfl⟩, ⟨rfl, by kernel_rfl⟩, ⟨rfl, by kernel_rfl⟩, trivial⟩, rfl, hG9.set S10 (by omega), by omega, by omega, ?_, ?_⟩, by show l.length - (j + 1) < l.length - j; omega⟩
      · rw [S10.new, htake, ents_app, hlen, Nat.zero_add]
        unfold addK
        rw [app_eq]
        rfl
      · rw [htake]; exact hpl
  · have hjl : j = l.length := by omega
    subst hjl
    rw [show decide (l.length < l.length) = false from by simp]
    refine AW.keep [(4, .map (some s1.n)), (16, .bool false)] ⟨⟨rfl, by kernel_rfl⟩, ⟨rfl, by kernel_rfl⟩, trivial⟩ ?_
    refine AW.seq (AW.cond (t := false) (by kernel_rfl) (AW.exit ?_))
    simp only [thenP, roundP, blockP, if_true]
    refine AW.seq (AW.region eokG ?_)
    refine aop_val rfl (v := .map (some s1.n)) (s1 := s3) (by kernel_rfl) ?_
    refine aop_val rfl (v := .map (some s1.n)) (s1 := s3) (by kernel_rfl) ?_
    refine aop_val rfl (v := .bool true) (s1 := s3) (by kernel_rfl) ?_
    refine AW.ret ?_
    rw [List.take_length] at hm hpl
    rw [List.drop_length] at hpl
    have hne : plainGo [] l ≠ none := by rw [← hpl]; simp [plainGo]
    exact ⟨.inr rfl, rfl, .tuple #[.map (some s1.n), .bool true], by kernel_rfl, rfl, hG, hup, .inr ⟨s1.n, hne, by omega, by omega, rfl, hm⟩⟩
end
end Go.Eng
end
