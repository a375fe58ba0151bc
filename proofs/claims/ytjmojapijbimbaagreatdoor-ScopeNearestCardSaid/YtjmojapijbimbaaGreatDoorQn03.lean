/- An evaluator for calls of the translated program, and that what it answers is what the machine does. Conditions: none. -/
import Derived.Shelf.LaysM
import Derived.Shelf.Strings.Search3
import Derived.Shelf.Strings.Shaped
import Derived.Test.YtjmojapijbimbaaGreatDoorProg
import Derived.Test.YtjmojapijbimbaaGreatDoorQn02
set_option linter.unusedVariables false
set_option linter.unusedSimpArgs false
section
namespace Go.Eng
open Go.Lib
def Tight (φ : Rn) (s : St) : Prop := ∀ b p, φ b = some p → b < s.n
inductive Ex where
  | normal
  | exit (id : Nat)
  | ret
def Base.le (a b : Base) : Prop := ∀ c o, a c = some o → b c = some o
theorem Base.le.refl (a : Base) : Base.le a a := fun _ _ h => h
theorem Base.le.trans {a b c : Base} (h : Base.le a b) (k : Base.le b c) : Base.le a c := fun x o e => k x o (h x o e)
abbrev Post := Ex → Tm → List Deferred → St → Base → Prop
def Arr (P : Program) (m : Machine) (fr : Frame) (cs : List Frame) (w : World) (k : List Item) (e : Ex) : Prop := match e with
  | .normal => Steps P m (lone { fr with todo := k } cs w)
  | .exit id => ∀ k', exitTo id k = some k' → Steps P m (lone { fr with todo := k' } cs w)
  | .ret => ∃ todo, Steps P m (lone { fr with todo := todo, mode := .returning } cs w)
def Ran (E : Env) (f : Fid) (N0 : Base) (φ : Rn) (s : St) (w : World) (m : Machine) (cs : List Frame) (k : List Item) (Q : Post) : Prop :=
  ∃ e N1 φ' tm' df' s' w' fr', Base.le N0 N1 ∧ Q e tm' df' s' N1 ∧ Stp E N0 φ s w φ' s' w' ∧ RW E N1 φ' s' w' ∧ Fr E φ' f none tm' df' fr' ∧ fr'.kind = .normal ∧ fr'.mode = .run ∧ Arr E.P m fr' cs w' k e
def AW (E : Env) (f : Fid) (N : Base) (c : Code) (Q : Post) (tm : Tm) (df : List Deferred) (s : St) : Prop := E.gl = 0 →
  ∀ (φ : Rn) (w : World) (fr : Frame) (cs : List Frame) (k : List Item), RW E N φ s w → Tight φ s → Fr E φ f none tm df fr → fr.kind = .normal → fr.mode = .run → fr.todo = .code c :: k →
    Ran E f N φ s w (lone fr cs w) cs k Q
def ACalls (E : Env) (N : Base) (g : FuncId) (args : List Value) (s : St) (R : Value → St → Base → Prop) : Prop := E.gl = 0 →
  ∀ (φ : Rn) (w : World) (args' : List Value), RW E N φ s w → Tight φ s → RVs φ args args' →
    (∀ w, (callFunc g ⟨args'⟩).run E.P w = .ok (.enter g ⟨args'⟩) w) ∧ ∀ cs, ∃ N1 φ' w' fr v s', Base.le N N1 ∧ R v s' N1 ∧ Stp E N φ s w φ' s' w' ∧ RW E N1 φ' s' w' ∧ Steps E.P (lone (Frame.enter E.P g ⟨args'⟩ .normal) cs w) (lone fr cs w') ∧
      fr.kind = .normal ∧ fr.fn = g ∧ Leav E φ' fr w' (.returned v)
def VOp (E : Env) (N : Base) (op : Op) (tm : Tm) (s : St) (v : Value) : Prop :=
  ∀ (φ : Rn) (w : World) (ρ : Operand → Value) (o : Oper), o.op = op → RW E N φ s w → Rop φ tm ρ → (∀ c, op ≠ .defer c) ∧ ∃ v', (execOp ρ o).run E.P w = .ok (.value v') w ∧ RV φ v v'
section
variable {E : Env} {f : Fid} {N : Base} {tm : Tm} {df : List Deferred} {s : St} {N0 N1 : Base} {φ : Rn} {w : World}
theorem RW.low_base (h : RW E N1 φ s w) (hgl : E.gl = 0) (hN : Base.le N0 N1) (hg : E.good N0) : RW E N0 φ s w := by
  refine ⟨h.wf, h.gl, h.dom, h.top, h.live, h.inj, fun b o c z hb ho e => ⟨fun hb' => ?_, fun hlt => ?_⟩, h.img, fun c o e => h.base.1 c o (hN c o e), hg⟩
  · have := (h.own b o c z hb ho e).1 hb'
    cases e0 : N0 c with
    | none => rfl
    | some x => rw [hN c x e0] at this; cases this
  · rw [hgl] at hlt; exact absurd hlt (Nat.not_lt_zero _)
theorem Stp.low_base {φ' : Rn} {s' : St} {w' : World} (h : Stp E N1 φ s w φ' s' w') (hgl : E.gl = 0) (hN : Base.le N0 N1) (hg : E.good N0) : Stp E N0 φ s w φ' s' w' :=
  ⟨h.sub, h.rng, h.le, h.rw.low_base hgl hN hg, h.size, h.keep, h.own, h.tape, h.os, h.output⟩
theorem Tight.fresh (h : Tight φ s) (s' : St) : Fresh φ s s' := fun b h1 _ => by
  cases e : φ b with
  | none => rfl
  | some p => have := h b p e; omega
theorem Tight.step (h : Tight φ s) {φ' : Rn} {s' : St} {w' : World} (k : Stp E N0 φ s w φ' s' w') : Tight φ' s' := fun b p e => by
  cases e0 : φ b with
  | none => exact (k.rng b e0 (by rw [e]; simp)).2
  | some q => exact Nat.lt_of_lt_of_le (h b q e0) k.le
theorem Arr.head {P : Program} {m m1 : Machine} {fr : Frame} {cs : List Frame} {k : List Item} {e : Ex} (h : Steps P m m1) (a : Arr P m1 fr cs w k e) : Arr P m fr cs w k e := by
  cases e with
  | normal => exact h.trans a
  | exit id => exact fun k' hk => h.trans (a k' hk)
  | ret => obtain ⟨t, a⟩ := a; exact ⟨t, h.trans a⟩
theorem Ran.head {m m1 : Machine} {cs : List Frame} {k : List Item} {Q : Post} (h : Steps E.P m m1) (a : Ran E f N0 φ s w m1 cs k Q) : Ran E f N0 φ s w m cs k Q := by
  obtain ⟨e, N1, φ1, tm1, df1, s1, w1, fr1, h0, h1, h2, h3, h4, h5, h6, h7⟩ := a
  exact ⟨e, N1, φ1, tm1, df1, s1, w1, fr1, h0, h1, h2, h3, h4, h5, h6, h7.head h⟩
theorem Ran.after {m : Machine} {cs : List Frame} {k : List Item} {Q : Post} (hgl : E.gl = 0) {φ1 : Rn} {s1 : St} {w1 : World} (hst : Stp E N0 φ s w φ1 s1 w1) (hN : Base.le N0 N1) (a : Ran E f N1 φ1 s1 w1 m cs k Q) : Ran E f N0 φ s w m cs k Q := by
  obtain ⟨e, N2, φ2, tm2, df2, s2, w2, fr2, h0, h1, h2, h3, h4, h5, h6, h7⟩ := a
  exact ⟨e, N2, φ2, tm2, df2, s2, w2, fr2, hN.trans h0, h1, hst.trans (h2.low_base hgl hN hst.rw.base.2), h3, h4, h5, h6, h7⟩
theorem Ran.mono {m : Machine} {cs : List Frame} {k : List Item} {Q Q' : Post} (a : Ran E f N0 φ s w m cs k Q) (hq : ∀ e tm df s N1, Base.le N0 N1 → Q e tm df s N1 → Q' e tm df s N1) : Ran E f N0 φ s w m cs k Q' := by
  obtain ⟨e, N2, φ2, tm2, df2, s2, w2, fr2, h0, h1, h2⟩ := a
  exact ⟨e, N2, φ2, tm2, df2, s2, w2, fr2, h0, hq _ _ _ _ _ h0 h1, h2⟩
theorem AW.mono {c : Code} {Q Q' : Post} (h : AW E f N c Q tm df s) (hq : ∀ e tm df s N1, Base.le N N1 → Q e tm df s N1 → Q' e tm df s N1) : AW E f N c Q' tm df s := fun hgl φ w fr cs k a b c d e g =>
  (h hgl φ w fr cs k a b c d e g).mono hq
theorem Ran.here {cs : List Frame} {k : List Item} {Q : Post} {m : Machine} {fr : Frame} {e : Ex} (hq : Q e tm df s N0) (a : RW E N0 φ s w) (c : Fr E φ f none tm df fr) (d : fr.kind = .normal) (g : fr.mode = .run) (ar : Arr E.P m fr cs w k e) : Ran E f N0 φ s w m cs k Q :=
  ⟨e, N0, φ, tm, df, s, w, fr, .refl _, hq, Stp.refl a, a, c, d, g, ar⟩
theorem AW.skip {Q : Post} (h : Q .normal tm df s N) : AW E f N .skip Q tm df s := fun _ φ w fr cs k a b c d e g =>
  .here h a c d e (.one (step_lone_go (by simp [stepG, e, stepG.exec, g])))
theorem AW.label {l : Nat} {Q : Post} (h : Q .normal tm df s N) : AW E f N (.label l) Q tm df s := fun _ φ w fr cs k a b c d e g =>
  .here h a c d e (.one (step_lone_go (by simp [stepG, e, stepG.exec, g])))
theorem AW.exit {id : Nat} {Q : Post} (h : Q (.exit id) tm df s N) : AW E f N (.exit id) Q tm df s := fun _ φ w fr cs k a b c d e g =>
  .here (e := .exit id) h a c d e fun k' hk => .one (step_lone_go (by simp [stepG, e, stepG.exec, g, hk]))
theorem AW.ret {Q : Post} (h : Q .ret tm df s N) : AW E f N .ret Q tm df s := fun _ φ w fr cs k a b c d e g =>
  .here (e := .ret) h a c d e ⟨_, .one (step_lone_go (by
    have : fr.roundOf = none := c.rd
    simp [stepG, e, stepG.exec, g, this]
    rfl))⟩
def thenP (E : Env) (f : Fid) (c : Code) (Q : Post) : Post := fun e tm df s N => match e with
  | .normal => AW E f N c Q tm df s
  | e => Q e tm df s N
theorem AW.seq {c1 c2 : Code} {Q : Post} (h : AW E f N c1 (thenP E f c2 Q) tm df s) : AW E f N (.seq c1 c2) Q tm df s := fun hgl φ w fr cs k a b c d e g => by
  have hs : step E.P (lone fr cs w) = .next (lone { fr with todo := .code c1 :: .code c2 :: k } cs w) := step_lone_go (by simp [stepG, e, stepG.exec, g])
  obtain ⟨x, N1, φ1, tm1, df1, s1, w1, fr1, h0, h1, h2, h2', h3, h4, h5, h6⟩ := h hgl φ w { fr with todo := .code c1 :: .code c2 :: k } cs (.code c2 :: k) a b (c.todo _) d e rfl
  cases x with
  | normal =>
    have g1 := h1 hgl φ1 w1 { fr1 with todo := .code c2 :: k } cs k h2' (b.step h2) (h3.todo _) h4 h5 rfl
    exact ((g1.head h6).after hgl h2 h0).head (.one hs)
  | exit id => exact ⟨.exit id, N1, φ1, tm1, df1, s1, w1, fr1, h0, h1, h2, h2', h3, h4, h5, fun k' hk => .head hs (h6 k' (by simpa [exitTo] using hk))⟩
  | ret => obtain ⟨t, h6⟩ := h6; exact ⟨.ret, N1, φ1, tm1, df1, s1, w1, fr1, h0, h1, h2, h2', h3, h4, h5, t, .head hs h6⟩
theorem AW.cond {x : Operand} {c1 c2 : Code} {Q : Post} {t : Bool} (hx : bool? (ev tm x) = some t) (h : AW E f N (if t then c1 else c2) Q tm df s) : AW E f N (.cond x c1 c2) Q tm df s := fun hgl φ w fr cs k a b c d e g => by
  have hv := bool?_ok hx (c.eval a x)
  have hs : step E.P (lone fr cs w) = .next (lone { fr with todo := .code (if t then c1 else c2) :: k } cs w) := step_lone_go (by simp [stepG, e, stepG.exec, g, hv])
  exact (h hgl φ w { fr with todo := .code (if t then c1 else c2) :: k } cs k a b (c.todo _) d e rfl).head (.one hs)
def blockP (id : Nat) (Q : Post) : Post := fun e tm df s N => match e with
  | .exit j => if j = id then Q .normal tm df s N else Q (.exit j) tm df s N
  | e => Q e tm df s N
theorem AW.block {id : Nat} {c1 : Code} {Q : Post} (h : AW E f N c1 (blockP id Q) tm df s) : AW E f N (.block id c1) Q tm df s := fun hgl φ w fr cs k a b c d e g => by
  have hs : step E.P (lone fr cs w) = .next (lone { fr with todo := .code c1 :: .inBlock id :: k } cs w) := step_lone_go (by simp [stepG, e, stepG.exec, g])
  obtain ⟨x, N1, φ1, tm1, df1, s1, w1, fr1, h0, h1, h2, h2', h3, h4, h5, h6⟩ := h hgl φ w { fr with todo := .code c1 :: .inBlock id :: k } cs (.inBlock id :: k) a b (c.todo _) d e rfl
  cases x with
  | normal =>
    refine ⟨.normal, N1, φ1, tm1, df1, s1, w1, fr1, h0, h1, h2, h2', h3, h4, h5, Steps.head hs (h6.trans (.one ?_))⟩
    exact step_lone_go (by simp [stepG, h5, stepG.exec])
  | exit j =>
    by_cases hj : j = id
    · subst hj
      refine ⟨.normal, N1, φ1, tm1, df1, s1, w1, fr1, h0, by simpa [blockP] using h1, h2, h2', h3, h4, h5, Steps.head hs (h6 k (by simp [exitTo]))⟩
    · refine ⟨.exit j, N1, φ1, tm1, df1, s1, w1, fr1, h0, by simpa [blockP, hj] using h1, h2, h2', h3, h4, h5, fun k' hk => .head hs (h6 k' ?_)⟩
      have : (id == j) = false := by simpa using fun h => hj h.symm
      simp [exitTo, this, hk]
  | ret => obtain ⟨t, h6⟩ := h6; exact ⟨.ret, N1, φ1, tm1, df1, s1, w1, fr1, h0, h1, h2, h2', h3, h4, h5, t, .head hs h6⟩
theorem AW.scope {c1 : Code} {Q : Post} (h : AW E f N c1 Q tm df s) : AW E f N (.scope c1) Q tm df s := fun hgl φ w fr cs k a b c d e g => by
  have hs : step E.P (lone fr cs w) = .next (lone { fr with todo := .code c1 :: .inScope c1 :: k } cs w) := step_lone_go (by simp [stepG, e, stepG.exec, g])
  obtain ⟨x, N1, φ1, tm1, df1, s1, w1, fr1, h0, h1, h2, h2', h3, h4, h5, h6⟩ := h hgl φ w { fr with todo := .code c1 :: .inScope c1 :: k } cs (.inScope c1 :: k) a b (c.todo _) d e rfl
  cases x with
  | normal =>
    refine ⟨.normal, N1, φ1, tm1, df1, s1, w1, fr1, h0, h1, h2, h2', h3, h4, h5, Steps.head hs (h6.trans (.one ?_))⟩
    exact step_lone_go (by simp [stepG, h5, stepG.exec])
  | exit j => exact ⟨.exit j, N1, φ1, tm1, df1, s1, w1, fr1, h0, h1, h2, h2', h3, h4, h5, fun k' hk => .head hs (h6 k' (by simpa [exitTo] using hk))⟩
  | ret => obtain ⟨t, h6⟩ := h6; exact ⟨.ret, N1, φ1, tm1, df1, s1, w1, fr1, h0, h1, h2, h2', h3, h4, h5, t, .head hs h6⟩
def roundP {G : Type} (I : G → Tm → List Deferred → St → Base → Prop) (μ : G → Nat) (g : G) (Q : Post) : Post := fun e tm df s N => match e with
  | .normal => ∃ g', I g' tm df s N ∧ μ g' < μ g
  | e => Q e tm df s N
theorem AW.loop {G : Type} {c1 : Code} {Q : Post} (I : G → Tm → List Deferred → St → Base → Prop) (μ : G → Nat) (g0 : G) (h0 : I g0 tm df s N) (round : ∀ g tm df s N1, Base.le N N1 → I g tm df s N1 → AW E f N1 c1 (roundP I μ g Q) tm df s) : AW E f N (.loop c1) Q tm df s := by
  intro hgl
  have key : ∀ n (g : G) tm df s N0, Base.le N N0 → μ g = n → I g tm df s N0 → ∀ (φ : Rn) (w : World) (fr : Frame) (cs : List Frame) (k : List Item), RW E N0 φ s w → Tight φ s → Fr E φ f none tm df fr → fr.kind = .normal → fr.mode = .run → fr.todo = .code c1 :: .inLoop c1 :: k →
      Ran E f N0 φ s w (lone fr cs w) cs k Q := by
    intro n
    induction n using Nat.strongRecOn with
    | _ n ih =>
      intro g tm df s N0 hN hn hI φ w fr cs k a b c d e ht
      obtain ⟨x, N1, φ1, tm1, df1, s1, w1, fr1, h0, h1, h2, h2', h3, h4, h5, h6⟩ := round g tm df s N0 hN hI hgl φ w fr cs (.inLoop c1 :: k) a b c d e ht
      cases x with
      | normal =>
        obtain ⟨g', hI', hlt⟩ := h1
        have hs : step E.P (lone { fr1 with todo := .inLoop c1 :: k } cs w1) = .next (lone { fr1 with todo := .code c1 :: .inLoop c1 :: k } cs w1) := step_lone_go (by simp [stepG, h5, stepG.exec])
        have g1 := ih (μ g') (by omega) g' tm1 df1 s1 N1 (hN.trans h0) rfl hI' φ1 w1 { fr1 with todo := .code c1 :: .inLoop c1 :: k } cs k h2' (b.step h2) (h3.todo _) h4 h5 rfl
        exact (g1.head (h6.trans (.one hs))).after hgl h2 h0
      | exit j => exact ⟨.exit j, N1, φ1, tm1, df1, s1, w1, fr1, h0, h1, h2, h2', h3, h4, h5, fun k' hk => h6 k' (by simpa [exitTo] using hk)⟩
      | ret => exact ⟨.ret, N1, φ1, tm1, df1, s1, w1, fr1, h0, h1, h2, h2', h3, h4, h5, h6⟩
  intro φ w fr cs k a b c d e g
  have hs : step E.P (lone fr cs w) = .next (lone { fr with todo := .code c1 :: .inLoop c1 :: k } cs w) := step_lone_go (by simp [stepG, e, stepG.exec, g])
  exact (key _ g0 tm df s N (.refl _) rfl h0 φ w { fr with todo := .code c1 :: .inLoop c1 :: k } cs k a b (c.todo _) d e rfl).head (.one hs)
def call0 : CallT := fun _ _ _ => none
theorem call0_ok : CallOK E call0 := fun u t s e u' s' h => by cases h
theorem call0_n : CallN call0 := fun u t s r h => by cases h
def aops (E : Env) (nt : Nat) (all : List Oper) (Q : Tm → List Deferred → St → Base → Prop) : List Oper → Tm → List Deferred → St → Base → Prop
  | [], tm, df, s, N => Q tm df s N
  | o :: l, tm, df, s, N => ∃ b, wantedG all tm o.guard = some b ∧ ((b = false ∧ aops E nt all Q l (put tm (dstOf nt o.dst) undef) df s N) ∨ (b = true ∧ ((∃ v, VOp E N o.op tm s v ∧ aops E nt all Q l (put tm (dstOf nt o.dst) v) df s N) ∨ ∃ r, opA o.op E tm s = some r ∧ (match r.1 with
      | .val v => aops E nt all Q l (put tm (dstOf nt o.dst) v) df r.2 N
      | .skip => aops E nt all Q l (put tm (dstOf nt o.dst) undef) df r.2 N
      | .dfr x => aops E nt all Q l (put tm (dstOf nt o.dst) undef) (x :: df) r.2 N
      | .call (.fn g args) => ∃ R, ACalls E N g args s R ∧ ∀ v s' N', Base.le N N' → R v s' N' → aops E nt all Q l (put tm (dstOf nt o.dst) v) df s' N'
      | _ => False))))
theorem aops_ok (H : EOK E) (hgl : E.gl = 0) {ops : Array Oper} {Q : Tm → List Deferred → St → Base → Prop} {k : List Item} {cs : List Frame} : ∀ (l : List Oper) (i : Nat) (tm : Tm) (df : List Deferred) (s : St) (N0 : Base) (φ : Rn) (w : World) (fr : Frame),
    ops.toList.drop i = l → aops E f.nt ops.toList Q l tm df s N0 → RW E N0 φ s w → Tight φ s → Fr E φ f none tm df fr → fr.kind = .normal → fr.mode = .run → fr.todo = .inRegion ops (List.range' i l.length) :: k →
    Ran E f N0 φ s w (lone fr cs w) cs k fun e tm df s N => e = .normal ∧ Q tm df s N := by
  intro l
  induction l with
  | nil =>
    intro i tm df s N0 φ w fr hl h hw ht hfr hk hm htd
    exact .here (e := .normal) ⟨rfl, h⟩ hw hfr hk hm (.one (step_region_nil (k := k) htd hm))
  | cons o l ih =>
    intro i tm df s N0 φ w fr hl h hw ht hfr hk hm htd
    have ho : ops[i]? = some o := by
      have : (ops.toList.drop i)[0]? = some o := by rw [hl]; rfl
      rw [List.getElem?_drop] at this
      simpa using this
    have hl' : ops.toList.drop (i + 1) = l := by
      rw [← List.drop_drop, hl]; rfl
    have ht' : fr.todo = .inRegion ops (i :: List.range' (i + 1) l.length) :: k := by
      rw [htd]; simp [List.range'_succ]
    have htodo : ∀ (ds' : List Deferred) (v : Value), (({ fr with defers := ds' } : Frame).finish v).todo = .inRegion ops (List.range' (i + 1) l.length) :: k := fun ds' v => by
      rw [finish_region ({ fr with defers := ds' } : Frame) ops i _ k ht' v]
    have hmode : ∀ (ds' : List Deferred) (v : Value), (({ fr with defers := ds' } : Frame).finish v).mode = .run := fun ds' v => by
      rw [finish_region ({ fr with defers := ds' } : Frame) ops i _ k ht' v]; exact hm
    have hkind : ∀ (ds' : List Deferred) (v : Value), (({ fr with defers := ds' } : Frame).finish v).kind = .normal := fun ds' v => by
      rw [finish_region ({ fr with defers := ds' } : Frame) ops i _ k ht' v]; exact hk
    have contN : ∀ {N1 : Base} {φ1 : Rn} {w1 : World} {df1 ds' : List Deferred} {s1 : St} {v v' : Value}, Base.le N0 N1 → Stp E N0 φ s w φ1 s1 w1 → RW E N1 φ1 s1 w1 → RV φ1 v v' → All2 (RDf φ1) df1 ds' → Steps E.P (lone fr cs w) (lone (({ fr with defers := ds' } : Frame).finish v') cs w1) → aops E f.nt ops.toList Q l (put tm (dstOf f.nt o.dst) v) df1 s1 N1 →
        Ran E f N0 φ s w (lone fr cs w) cs k fun e tm df s N => e = .normal ∧ Q tm df s N := fun {N1 φ1 w1 df1 ds' s1 v v'} hN1 hst hrw hv hds hs hn =>
      ((ih (i + 1) _ df1 s1 N1 φ1 w1 _ hl' hn hrw (ht.step hst) ((hfr.mono hst.sub).finish ht' ho hv hds) (hkind _ _) (hmode _ _) (htodo _ _)).head hs).after hgl hst hN1
    have cont : ∀ {φ1 : Rn} {w1 : World} {df1 ds' : List Deferred} {s1 : St} {v v' : Value}, Stp E N0 φ s w φ1 s1 w1 → RV φ1 v v' → All2 (RDf φ1) df1 ds' → Steps E.P (lone fr cs w) (lone (({ fr with defers := ds' } : Frame).finish v') cs w1) → aops E f.nt ops.toList Q l (put tm (dstOf f.nt o.dst) v) df1 s1 N0 →
        Ran E f N0 φ s w (lone fr cs w) cs k fun e tm df s N => e = .normal ∧ Q tm df s N := fun hst hv hds hs hn => contN (.refl _) hst hst.rw hv hds hs hn
    obtain ⟨b, hb, ⟨rfl, h1⟩ | ⟨rfl, ⟨v, hv, h1⟩ | ⟨⟨r, s1⟩, h1, h2⟩⟩⟩ := h
    · have hwt := guard_ok hfr.rt hb
      exact cont (v' := undef) (Stp.refl hw) (.tuple [] [] .nil) hfr.df (.one (step_unwanted ht' hm ho hwt)) h1
    · have hwt := guard_ok hfr.rt hb
      obtain ⟨hnd, v', hrun, hrv⟩ := hv φ w fr.eval o rfl hw (hfr.eval hw)
      exact cont (v' := v') (ds' := fr.defers) (Stp.refl hw) hrv hfr.df (.one (step_apply ht' hm ho hwt (.inr hnd) (by simp [stepG.apply, hrun]))) h1
    · have hwt := guard_ok hfr.rt hb
      have hcal : Cal φ none fr cs fr.kind cs := ⟨hk, rfl⟩
      cases r with
      | val v =>
        obtain ⟨φ', w', cs', hst, hc', v', ds', hv, hds, hs⟩ := one_ok (c0 := fr) (cs0 := cs) H call0_ok call0_n (One.val (rd := none) (u := none) (df := df) v s1 h1) hw (ht.fresh _) hfr hcal hm ht' ho rfl hwt
        obtain ⟨_, rfl⟩ := (show Cal φ' none fr cs .normal cs' by rw [← hk]; exact hc').normal
        exact cont hst hv hds hs h2
      | skip =>
        obtain ⟨φ', w', cs', hst, hc', v', ds', hv, hds, hs⟩ := one_ok (c0 := fr) (cs0 := cs) H call0_ok call0_n (One.skip (rd := none) (u := none) (df := df) s1 h1) hw (ht.fresh _) hfr hcal hm ht' ho rfl hwt
        obtain ⟨_, rfl⟩ := (show Cal φ' none fr cs .normal cs' by rw [← hk]; exact hc').normal
        exact cont hst hv hds hs h2
      | dfr x =>
        obtain ⟨φ', w', cs', hst, hc', v', ds', hv, hds, hs⟩ := one_ok (c0 := fr) (cs0 := cs) H call0_ok call0_n (One.dfr (rd := none) (u := none) (df := df) x s1 h1 rfl) hw (ht.fresh _) hfr hcal hm ht' ho rfl hwt
        obtain ⟨_, rfl⟩ := (show Cal φ' none fr cs .normal cs' by rw [← hk]; exact hc').normal
        exact cont hst hv hds hs h2
      | call t =>
        cases t with
        | round l0 f0 tm0 asg body => exact h2.elim
        | fn g args =>
          obtain ⟨R, hR, hnext⟩ := h2
          obtain ⟨rfl, args', ha, hrun⟩ := op_ok H o.op o rfl hw (hfr.eval hw) h1 (ht.fresh _)
          obtain ⟨hent, hcall⟩ := hR hgl φ w args' hw ht ha
          obtain ⟨N1, φ', w', fr2, v, s', hN1, hv0, hst, hrw, hs, hk2, _, hl1, hl2, fn, v', hl3, hl4, hl5⟩ := hcall (fr :: cs)
          have hnd : fr.roundOf = none ∨ ∀ c, o.op ≠ .defer c := .inl hfr.rd
          refine contN hN1 hst hrw hl5 (hfr.df.imp fun _ _ k => k.mono hst.sub) (.head (step_apply (fr' := Frame.enter E.P g ⟨args'⟩ .normal) (cs' := fr :: cs) (w' := w) ht' hm ho hwt hnd ?_) (hs.trans (.one ?_))) (hnext v s' N1 hN1 hv0)
          · simp [stepG.apply, hrun, hent, ht']
          · exact step_leave_returned (P := E.P) (fr := fr2) ⟨hl1, hl2, hk2, fn, hl3, hl4⟩
      | pan v => exact h2.elim
      | rcv => exact h2.elim
theorem AW.region (H : EOK E) {id : Nat} {ops : Array Oper} {Q : Post} (h : aops E f.nt ops.toList (Q .normal) ops.toList tm df s N) : AW E f N (.region id ops false) Q tm df s := fun hgl φ w fr cs k a b c d e g => by
  have h1 := aops_ok (cs := cs) (k := k) H hgl ops.toList 0 tm df s N φ w { fr with todo := .inRegion ops (List.range ops.size) :: k } rfl h a b (c.todo _) d e (by simp [List.range_eq_range'])
  exact (h1.mono fun e tm df s N1 _ hq => by obtain ⟨rfl, hq⟩ := hq; exact hq).head (.one (step_region_text g e))
theorem AW.drawn (H : EOK2 E) {id : Nat} {ops : Array Oper} {Q : Post} {tm' : Tm} {df' : List Deferred} {u' : Option FrameMode} {s' : St} (h : regF E call0 none f.nt ops.toList tm df none s = some (.fin tm' df' u' s')) (hq : Q .normal tm' df' s' N) : AW E f N (.region id ops true) Q tm df s := fun hgl φ w fr cs k a b c d e g => by
  obtain ⟨t, hs⟩ := step_region_drawn (P := E.P) (w := w) (cs := cs) g e
  have hst : Stp E N φ s w φ s { w with drawn := w.drawn + 1 } := Stp.heap a rfl rfl rfl rfl
  have hk0 : ({ fr with todo := .inRegion ops (Region.schedule (E.P.follows .mixedOrders) ops t) :: k } : Frame).kind = .normal := d
  have := regD_ok (c0 := fr) (cs0 := cs) (cs := cs) (fr := { fr with todo := .inRegion ops (Region.schedule (E.P.follows .mixedOrders) ops t) :: k }) H.ok call0_ok call0_n H.mixed (regF_regD h) hst.rw (b.fresh _) (c.todo _) ⟨hk0, rfl⟩ e rfl
  obtain ⟨φ', w', fr', cs', h1, h2, h3, h4, h5, h6, h7⟩ := this
  rw [hk0] at h4 h5
  obtain ⟨_, rfl⟩ := h4.normal
  refine ⟨.normal, N, φ', tm', df', s', w', fr', .refl _, hq, hst.trans h1, (hst.trans h1).rw, h3, h5, h6, Steps.head hs ?_⟩
  have : ({ fr' with todo := k } : Frame) = fr' := by cases fr'; simp only at h7; subst h7; rfl
  show Steps E.P _ (lone { fr' with todo := k } cs' w')
  rw [this]; exact h2
theorem ACalls.of_body (H : EOK2 E) {g : FuncId} {F : Func} {c : Code} {args : List Value} {R : Value → St → Base → Prop} (hF : E.fn g = some F) (hc : F.body = some c) (hl : args.length ≤ F.ntmps) (hn : F.ntmps ≤ 512)
    (h : AW E ⟨g, F.ntmps⟩ N c (fun e tm df s' N' => (e = .normal ∨ e = .ret) ∧ df = [] ∧ ∃ v, resultsA E F tm s' = some v ∧ R v s' N') (tmOf args) [] s) : ACalls E N g args s R := fun hgl φ w args' hw ht ha => by
  have hP := H.ok.fns g F hF
  have hlen := (RVs_all.1 ha).length
  refine ⟨fun w => enter_run H hF hc _ w, fun cs => ?_⟩
  have hfr : Fr E φ ⟨g, F.ntmps⟩ none (tmOf args) [] (Frame.enter E.P g ⟨args'⟩ .normal) := by
    refine ⟨rfl, ?_, ?_, .nil, rfl, F, hP⟩
    · simp [Frame.enter, hP]; omega
    · have := tmOf_ok ha hl hn
      simpa [Frame.enter, hP] using this
  have htodo : (Frame.enter E.P g ⟨args'⟩ .normal).todo = [.code c] := by simp [Frame.enter, hP, hc]
  obtain ⟨e, N1, φ', tm', df', s', w', fr', hN1, ⟨he, hdf, v, hv, hR⟩, h2, h2', h3, h4, h5, h6⟩ := h hgl φ w (Frame.enter E.P g ⟨args'⟩ .normal) cs [] hw ht hfr rfl rfl htodo
  subst hdf
  have hd0 : fr'.defers = [] := by
    have := h3.df
    cases hfd : fr'.defers with
    | nil => rfl
    | cons a b => rw [hfd] at this; cases this
  obtain ⟨v', h7, h8⟩ := results_ok H.ok h2.rw h3.rt hv
  have hfn : fr'.fn = g := h3.fn
  rcases he with rfl | rfl
  · refine ⟨N1, φ', w', { fr' with todo := [], mode := .returning }, v, s', hN1, hR, h2, h2', h6.trans (.one ?_), h4, hfn, rfl, hd0, F, v', by rw [show ({ fr' with todo := [], mode := FrameMode.returning } : Frame).fn = g from hfn]; exact hP, h7, h8⟩
    have hro : fr'.roundOf = none := h3.rd
    exact step_lone_go (by simp [stepG, h5, stepG.exec, hro])
  · obtain ⟨t, h6⟩ := h6
    exact ⟨N1, φ', w', { fr' with todo := t, mode := .returning }, v, s', hN1, hR, h2, h2', h6, h4, hfn, rfl, hd0, F, v', by rw [show ({ fr' with todo := t, mode := FrameMode.returning } : Frame).fn = g from hfn]; exact hP, h7, h8⟩
end
end Go.Eng
end
section
namespace Go.Eng
def tmJ : Tm := k8 (k8 (k8 junk))
section
variable {E : Env} {f : Fid} {tm : Tm} {df : List Deferred} {s : St} {nt : Nat} {all : List Oper} {Q : Tm → List Deferred → St → Base → Prop} {N : Base} {o : Oper} {l : List Oper}
theorem aop_val (hg : o.guard = none) {v : Value} {s1 : St} (h : opA o.op E tm s = some (.val v, s1)) (k : aops E nt all Q l (put tm (dstOf nt o.dst) v) df s1 N) : aops E nt all Q (o :: l) tm df s N :=
  ⟨true, by rw [hg]; rfl, .inr ⟨rfl, .inr ⟨_, h, k⟩⟩⟩
theorem aop_v (hg : o.guard = none) (v : Value) (h : VOp E N o.op tm s v) (k : aops E nt all Q l (put tm (dstOf nt o.dst) v) df s N) : aops E nt all Q (o :: l) tm df s N :=
  ⟨true, by rw [hg]; rfl, .inr ⟨rfl, .inl ⟨v, h, k⟩⟩⟩
theorem aop_skip (hg : o.guard = none) {s1 : St} (h : opA o.op E tm s = some (.skip, s1)) (k : aops E nt all Q l (put tm (dstOf nt o.dst) undef) df s1 N) : aops E nt all Q (o :: l) tm df s N :=
  ⟨true, by rw [hg]; rfl, .inr ⟨rfl, .inr ⟨_, h, k⟩⟩⟩
theorem aop_call (hg : o.guard = none) {g : FuncId} {args : List Value} {s1 : St} (h : opA o.op E tm s = some (.call (.fn g args), s1)) {R : Value → St → Base → Prop} (hR : ACalls E N g args s R) (k : ∀ v s' N', Base.le N N' → R v s' N' → aops E nt all Q l (put tm (dstOf nt o.dst) v) df s' N') : aops E nt all Q (o :: l) tm df s N :=
  ⟨true, by rw [hg]; rfl, .inr ⟨rfl, .inr ⟨_, h, R, hR, k⟩⟩⟩
theorem aop_wanted {b : Bool} (hb : wantedG all tm o.guard = some b) (k0 : b = false → aops E nt all Q l (put tm (dstOf nt o.dst) undef) df s N)
    (k1 : b = true → ∃ v s1, opA o.op E tm s = some (.val v, s1) ∧ aops E nt all Q l (put tm (dstOf nt o.dst) v) df s1 N) : aops E nt all Q (o :: l) tm df s N := by
  cases b with
  | false => exact ⟨false, hb, .inl ⟨rfl, k0 rfl⟩⟩
  | true => obtain ⟨v, s1, h, k⟩ := k1 rfl; exact ⟨true, hb, .inr ⟨rfl, .inr ⟨_, h, k⟩⟩⟩
theorem AW.weaken {c : Code} {P : Post} {tm2 : Tm} (h : ∀ t, tmAt tm2 t = junk ∨ tmAt tm2 t = tmAt tm t) (k : AW E f N c P tm2 df s) : AW E f N c P tm df s := fun hgl φ w fr cs kk a b c d e g =>
  k hgl φ w fr cs kk a b ⟨c.fn, c.nt, ⟨trivial, c.rt.2.1, fun t => by
    rcases h t with h | h
    · rw [h]; exact .junk _
    · rw [h]; exact c.rt.2.2 t⟩, c.df, c.rd, c.has⟩ d e g
theorem e_load1 {t : TypeId} {x : Operand} {b off : Nat} {vs : List Value} {el : TypeId} {ex : Bool} {fz : Nat} {v : Value} (hx : ev tm x = .pointer (some ⟨b, off, none⟩)) (ho : s.at b = some (.cells vs el ex fz)) (hg : E.isAgg t = some false) (hv : vs[off]? = some v) :
    opA (.load t x) E tm s = some (.val v, s) := by
  show retO s (loadA E t (ev tm x) s) = _
  rw [hx]
  have : loadA E t (.pointer (some ⟨b, off, none⟩)) s = some v := by
    unfold loadA
    show ob (some (b, off)) _ = _
    rw [ob_some]
    show ob (ob (s.at b) AO.cell) _ = _
    rw [ho, ob_some]
    show ob (some (vs, fz)) _ = _
    rw [ob_some, hg, ob_some, cnd_false, nth?_eq]
    exact hv
  rw [this]; rfl
theorem e_loadN {t : TypeId} {x : Operand} {b off n : Nat} {vs : List Value} {el : TypeId} {ex : Bool} {fz : Nat} {r : List Value} (hx : ev tm x = .pointer (some ⟨b, off, none⟩)) (ho : s.at b = some (.cells vs el ex fz)) (hg : E.isAgg t = some true) (hn : E.size t = some n) (hv : readAt n off vs = some r) :
    opA (.load t x) E tm s = some (.val (.agg ⟨r⟩), s) := by
  show retO s (loadA E t (ev tm x) s) = _
  rw [hx]
  have : loadA E t (.pointer (some ⟨b, off, none⟩)) s = some (.agg ⟨r⟩) := by
    unfold loadA
    show ob (some (b, off)) _ = _
    rw [ob_some]
    show ob (ob (s.at b) AO.cell) _ = _
    rw [ho, ob_some]
    show ob (some (vs, fz)) _ = _
    rw [ob_some, hg, ob_some, cnd_true, hn, ob_some, hv, ob_some]
  rw [this]; rfl
noncomputable def lookR (ok : Bool) (z : Value) (e : Option MapEntry) : Value := match e with
  | some e => outL ok e.val true
  | none => outL ok z false
theorem e_lookup {t : TypeId} {x k : Operand} {ok : Bool} {p : TypeId × TypeId} {z : Value} {r : Nat} {es : List MapEntry} {c : Nat} {e : Option MapEntry} (hp : E.mapT t = some p) (hz : E.zeroV p.2 = some z) (hx : ev tm x = .map (some r)) (hk : keyOK E p.1 (ev tm k) = true) (ho : s.at r = some (.map es c))
    (hf : findK (E.eq 3 p.1 (ev tm k)) es = some e) : opA (.lookup t x k ok) E tm s = some (.val (lookR ok z e), s) := by
  show retO s (lookupA E t (ev tm x) (ev tm k) ok s) = _
  have : lookupA E t (ev tm x) (ev tm k) ok s = some (lookR ok z e) := by
    unfold lookupA
    rw [hp, ob_some, hz, ob_some, hx]
    show ob (some (some r)) _ = _
    rw [ob_some]
    simp only [hk, cnd_true, ho, ob_some]
    show ob (findK (E.eq 3 p.1 (ev tm k)) es) _ = _
    rw [hf, ob_some]
    cases e <;> rfl
  rw [this]; rfl
theorem e_field {t : TypeId} {x : Operand} {i : Nat} {fd : Field} {cs : List Value} {v : Value} (hf : fieldA E t i = some fd) (hx : ev tm x = .agg ⟨cs⟩) (hp : partA E fd.type cs fd.offset = some v) : opA (.field t x i) E tm s = some (.val v, s) := by
  show ob (fieldA E t i) _ = _
  rw [hf, ob_some, hx]
  show ob (some cs) _ = _
  rw [ob_some, hp]; rfl
theorem e_part1 {t : TypeId} {cs : List Value} {off : Nat} {v : Value} (hg : E.isAgg t = some false) (hn : E.size t = some 1) (hv : cs[off]? = some v) : partA E t cs off = some v := by
  unfold partA
  rw [hn, ob_some]
  have : readAt 1 off cs = some [v] := by
    unfold readAt
    rw [dropN_eq]
    have hlt := (List.getElem?_eq_some_iff.1 hv).1
    have : cs.drop off = v :: cs.drop (off + 1) := by
      rw [List.drop_eq_getElem_cons hlt]
      rw [List.getElem?_eq_getElem hlt] at hv
      cases hv; rfl
    rw [this]; rfl
  rw [this, ob_some]
  unfold Env.pack
  rw [hg]; rfl
end
end Go.Eng
end
section
namespace Go.Eng
def Lit (v : Value) : Prop := (∃ n, dec n = v) ∧ v.oneCell' = true
theorem Lit.ptr (a : Option Addr) : Lit (.pointer a) := ⟨dec_ptr a, rfl⟩
theorem Lit.slice (a : Option Addr) (n c : Nat) : Lit (.slice a n c) := ⟨dec_slice a n c, rfl⟩
theorem Lit.map (r : Option Nat) : Lit (.map r) := ⟨dec_map r, rfl⟩
theorem RV.ofLit {φ : Rn} {v : Value} (h : Lit v) : RV φ (Eng.lit v) v := .lit _ _ (dec_code h.1) h.2
theorem RV.lit_inv {φ : Rn} {v v' : Value} (h : Lit v) (k : RV φ (Eng.lit v) v') : v' = v := by
  have : ∀ x, x = Eng.lit v → RV φ x v' → v' = v := fun x hx k => by
    cases k <;> first | (unfold Eng.lit at hx; cases hx; done) | skip
    · exact absurd (Value.complex.inj hx).2.2 (by decide)
    · rename_i n e _
      have hn := (Value.complex.inj hx).2.1
      rw [← e, hn, dec_code h.1]
  exact this _ rfl k
def Base.In (N : Base) (w : World) : Prop := ∀ c o, N c = some o → w.heap[c]? = some o
theorem Base.In.le {N N1 : Base} {w : World} (h : Base.In N1 w) (k : Base.le N N1) : Base.In N w := fun c o e => h c o (k c o e)
def CellN (N : Base) (a : Addr) (v : Value) : Prop := ∀ w, Base.In N w → w.cell? a = some v
def CellsN (N : Base) (a : Addr) (l : List Value) : Prop := ∀ (j : Nat) (v : Value), l[j]? = some v → CellN N (a.add j) v
theorem CellsN.le {N N1 : Base} {a : Addr} {l : List Value} (h : CellsN N a l) (k : Base.le N N1) : CellsN N1 a l := fun j v hj w hw => h j v hj w (hw.le k)
theorem add_zero (a : Addr) : a.add 0 = a := by simp [Addr.add]
theorem add_add (a : Addr) (m n : Nat) : (a.add m).add n = a.add (m + n) := by
  unfold Addr.add
  by_cases hm : m = 0
  · subst hm; simp
  · by_cases hn : n = 0
    · subst hn; simp [hm]
    · simp [hm, hn, Nat.add_assoc]
section
variable {E : Env} (H : EOK E) {N : Base} {tm : Tm} {s : St}
include H in
theorem v_loadN {t : TypeId} {x : Operand} {a : Addr} {l l' : List Value} (hx : ev tm x = Eng.lit (.pointer (some a))) (hc : CellsN N a l') (hv : ∀ φ, RVs φ l l') (hg : E.isAgg t = some true) (hn : E.size t = some l'.length) : VOp E N (.load t x) tm s (.agg ⟨l⟩) := fun φ w ρ o ho hw hρ => by
  have h1 := hρ x
  rw [hx] at h1
  have h2 := RV.lit_inv (.ptr _) h1
  have := run_loadCells_list (P := E.P) (w := w) a l' (fun j v hj => hc j v hj w hw.base.1)
  exact ⟨fun c e => (by cases e), .agg ⟨l'⟩, by simp [execOp, ho, h2, Instr.loadAt, Instr.sureAddr, loadVar, run_isAgg H w hg, run_size H w hn, this], .agg _ _ (hv φ)⟩
include H in
theorem v_indexAddr {t : TypeId} {x i : Operand} {e : TypeId} {size n c j : Nat} {k : IntKind} {a : Addr} (hu : E.und t = some (.slice e)) (hs : E.size e = some size) (hx : ev tm x = Eng.lit (.slice (some a) n c)) (hi : ev tm i = .int k (j : Int)) (hj : j < n) :
    VOp E N (.indexAddr t x i) tm s (Eng.lit (.pointer (some (a.add (j * size))))) := fun φ w ρ o ho hw hρ => by
  have h1 := hρ x
  rw [hx] at h1
  have h2 := RV.lit_inv (.slice _ _ _) h1
  have h3 := hρ i
  rw [hi] at h3
  generalize hq : ρ i = q at h3
  cases h3
  exact ⟨fun c e => (by cases e), .pointer (some (a.add (j * size))), by simp [execOp, ho, hq, h2, Instr.indexAt, asIntOf, run_und H w hu, run_size H w hs, hj], .ofLit (.ptr _)⟩
include H in
theorem v_len {x : Operand} {t : TypeId} {ts : Array TypeId} {e : TypeId} {a : Option Addr} {n c : Nat} (hx : ev tm x = Eng.lit (.slice a n c)) (ht : ts.toList = [t]) (hu : E.und t = some (.slice e)) :
    VOp E N (.call { callee := .builtin .len, args := #[x], argTypes := ts }) tm s (natV n) := fun φ w ρ o ho hw hρ => by
  have h1 := hρ x
  rw [hx] at h1
  have h2 := RV.lit_inv (.slice _ _ _) h1
  have h3 : ts = #[t] := by
    cases ts with
    | mk l => simp only at ht; subst ht; rfl
  subst h3
  refine ⟨fun c e => (by cases e), natV n, ?_, .int _ _⟩
  have hu := run_und H w hu
  unfold execOp
  rw [ho]
  simp [resolve, invoke, builtin, Builtin.len_, hu, h2]
  rfl
end
end Go.Eng
end
section
namespace Go.Proofs
open Go.Shelf
def Tryz.lays144_ren : Go.Shelf.Ren := ⟨fun | 144 => 266 | 143 => 305 | 219 => 322 | 217 => 299 | 225 => 347 | 224 => 348 | 267 => 349 | 266 => 318 | 314 => 360 | n => n, fun | 9 => 9 | 4 => 4 | 3 => 3 | 5 => 5 | 46 => 336 | 146 => 379 | 51 => 361 | n => n, fun | 1 => 2 | n => n⟩
theorem Tryz.lays144 : Go.Proofs.Lays.n144 Tryz.prog Tryz.lays144_ren := {
  mixed := by kernel_rfl
  f143 := Tryz.func305.trans (congrArg some (by kernel_rfl))
  f144 := Tryz.func266.trans (congrArg some (by kernel_rfl))
  f217 := Tryz.func299.trans (congrArg some (by kernel_rfl))
  f219 := Tryz.func322.trans (congrArg some (by kernel_rfl))
  f224 := Tryz.func348.trans (congrArg some (by kernel_rfl))
  f225 := Tryz.func347.trans (congrArg some (by kernel_rfl))
  f266 := Tryz.func318.trans (congrArg some (by kernel_rfl))
  f267 := Tryz.func349.trans (congrArg some (by kernel_rfl))
  f314 := Tryz.func360.trans (congrArg some (by kernel_rfl))
  t3 := Tryz.underlying3
  a3 := Tryz.isAgg3
  z3 := Tryz.sizeOf3
  v3 := Tryz.zeroValue3
  t4 := Tryz.underlying4
  a4 := Tryz.isAgg4
  z4 := Tryz.sizeOf4
  v4 := Tryz.zeroValue4
  t5 := Tryz.underlying5
  a5 := Tryz.isAgg5
  z5 := Tryz.sizeOf5
  v5 := Tryz.zeroValue5
  t9 := Tryz.underlying9
  a9 := Tryz.isAgg9
  z9 := Tryz.sizeOf9
  v9 := Tryz.zeroValue9
  t46 := Tryz.underlying336
  a46 := Tryz.isAgg336
  z46 := Tryz.sizeOf336
  v46 := Tryz.zeroValue336
  t51 := Tryz.underlying361
  a51 := Tryz.isAgg361
  z51 := Tryz.sizeOf361
  v51 := Tryz.zeroValue361
  t146 := Tryz.underlying379
  a146 := Tryz.isAgg379
  z146 := Tryz.sizeOf379
  v146 := Tryz.zeroValue379
  g1 := by kernel_rfl }
open Go.RowKit Go.Lib in
theorem Tryz.strings_Contains (s sub : ByteArray) (m : Int) (w : World) (hs : s.size < 4294967281) (hm : w.cell? ⟨2, 0, none⟩ = some (.int .i64 m)) :
    Calls Tryz.prog 266 #[.string s, .string sub] w fun e w' => e = .returned (.bool (Lib.contains s.data.toList sub.data.toList)) ∧ w' = w := Any.strings_Contains Tryz.lays144 s sub m w hs hm
end Go.Proofs
end
section
namespace Go.Eng
theorem nbeq (n : Nat) : Nat.beq n n = true := by simp
def flatV (v : Value) : Bool := match v with
  | .complex _ _ _ => true
  | .bool _ => true
  | .int _ _ => true
  | .string _ => true
  | .nilFunc => true
  | .nilIface => true
  | .pointer none => true
  | .pointer (some a) => a.spot.isNone
  | .slice none _ _ => true
  | .slice (some a) _ _ => a.spot.isNone
  | .map _ => true
  | _ => false
def flat1 (v : Value) : Bool := match v with
  | .complex .f32 _ _ => false
  | v => flatV v
theorem beqL_self (l : List UInt8) : beqL l l = true := by rw [beqL_eq]; simp
theorem same1_flat (q : Value → Value → Bool) {v : Value} (h : flat1 v = true) : same1 q v v = true := by
  unfold flat1 at h
  split at h
  · cases h
  · rename_i hc
    unfold flatV at h
    split at h <;> first | rfl | skip
    · rename_i k a b
      cases k with
      | f32 => exact absurd rfl (hc _ _)
      | f64 => show (Nat.beq a a && Nat.beq b b) = true; rw [nbeq, nbeq]; rfl
    · rename_i b; cases b <;> rfl
    · rename_i k n
      show cnd (sameKind k k) (ieq n n) false = true
      have h1 : sameKind k k = true := by cases k <;> rfl
      have h2 : ieq n n = true := by cases n <;> simp [ieq]
      rw [h1, h2]; rfl
    · rename_i s
      exact beqL_self _
    · rename_i a
      obtain ⟨b, o, sp⟩ := a
      cases sp with
      | none => show (Nat.beq b b && Nat.beq o o && true && true) = true; rw [nbeq, nbeq]; rfl
      | some _ => cases h
    · rename_i n c
      show (Nat.beq n n && Nat.beq c c) = true
      rw [nbeq, nbeq]; rfl
    · rename_i a n c
      obtain ⟨b, o, sp⟩ := a
      cases sp with
      | none => show ((Nat.beq b b && Nat.beq o o && true && true) && Nat.beq n n && Nat.beq c c) = true; rw [nbeq, nbeq, nbeq, nbeq]; rfl
      | some _ => cases h
    · rename_i r
      cases r with
      | none => rfl
      | some r => exact nbeq r
    · cases h
theorem sameL_flat {q : Value → Value → Bool} : ∀ {l : List Value}, (∀ v ∈ l, q v v = true) → sameL q l l = true
  | [], _ => rfl
  | v :: l, h => by
    show cnd (q v v) (sameL q l l) false = true
    rw [h v (by simp), sameL_flat fun u hu => h u (by simp [hu])]; rfl
def Sm (d : Nat) (v : Value) : Prop := ∀ k, d ≤ k → sameV k v v = true
theorem Sm.flat {v : Value} (h : flat1 v = true) : Sm 1 v := fun k hk => by
  obtain ⟨k, rfl⟩ : ∃ m, k = m + 1 := ⟨k - 1, by omega⟩
  exact same1_flat _ h
theorem Sm.agg {d : Nat} {l : List Value} (h : ∀ v ∈ l, Sm d v) : Sm (d + 1) (.agg ⟨l⟩) := fun k hk => by
  obtain ⟨k, rfl⟩ : ∃ m, k = m + 1 := ⟨k - 1, by omega⟩
  exact sameL_flat (q := sameV k) fun v hv => h v hv k (by omega)
theorem Sm.tuple {d : Nat} {l : List Value} (h : ∀ v ∈ l, Sm d v) : Sm (d + 1) (.tuple ⟨l⟩) := fun k hk => by
  obtain ⟨k, rfl⟩ : ∃ m, k = m + 1 := ⟨k - 1, by omega⟩
  exact sameL_flat (q := sameV k) fun v hv => h v hv k (by omega)
theorem Sm.up {d e : Nat} {v : Value} (h : Sm d v) (k : d ≤ e) : Sm e v := fun j hj => h j (by omega)
theorem Sm.flats {l : List Value} (h : allL flat1 l = true) : ∀ v ∈ l, Sm 1 v := fun v hv => by
  rw [allL_eq, List.all_eq_true] at h
  exact .flat (h v hv)
section
variable {E : Env} {f : Fid} {nt : Nat} {all : List Oper} {tm0 : Tm} {ms : List MR} {s0 : St} {Q : Tm → List Deferred → St → Prop}
def FD (E : Env) (nt : Nat) (all : List Oper) (tm0 : Tm) (ms : List MR) (s0 : St) (Q : Tm → List Deferred → St → Prop) (l : List Oper) (i : Nat) (bs : Tr Nat) (acc : Tm) (fixed : Nat) (ps : List PR) (ns : List NR) (df : List Deferred) (s : St) : Prop :=
  (∀ p ∈ ps, checkP E s0 ns p = true) → ∀ vals, ∃ tm' df' u' s', opsF E call0 none nt all tm0 ms s0 (masksA l i bs) acc ⟨i, fixed, vals, ps, ns⟩ df none s = some (.fin tm' df' u' s') ∧ Q tm' df' s'
theorem FD.nil {i : Nat} {bs : Tr Nat} {acc : Tm} {fixed : Nat} {ps : List PR} {ns : List NR} {df : List Deferred} {s : St} (h : Q acc df s) : FD E nt all tm0 ms s0 Q [] i bs acc fixed ps ns df s := fun hp vals => by
  refine ⟨acc, df, none, s, ?_, h⟩
  show cnd (allL (checkP E s0 ns) ps) (some (RO.fin acc df none s)) none = _
  have : allL (checkP E s0 ns) ps = true := by rw [allL_eq, List.all_eq_true]; exact hp
  rw [this]; rfl
variable {o : Oper} {l : List Oper} {i m : Nat} {bs : Tr Nat} {acc : Tm} {fixed : Nat} {ps : List PR} {ns : List NR} {df : List Deferred} {s s1 : St} {v : Value}
theorem FD.eq (hm : maskOf bs i o.after.toList = m) (hg : o.guard = none) {d : DS} {u : Option FrameMode} :
    opsF E call0 none nt all tm0 ms s0 (masksA (o :: l) i bs) acc d df u s = runF (clsOf o.op) E call0 none s0 d m (dstOf nt o.dst) o.op (panF E nt tm0 ms s0 d m (masksA l (i + 1) (Tr.put (.leaf m) bs 9 i))) (opsF E call0 none nt all tm0 ms s0 (masksA l (i + 1) (Tr.put (.leaf m) bs 9 i))) acc df u s := by
  subst hm
  show ob (wantedG all acc o.guard) _ = _
  rw [hg]
  rfl
theorem FD.still (m : Nat) (v : Value) (hc : clsOf o.op = 0) (hm : maskOf bs i o.after.toList = m) (hg : o.guard = none) (h : opA o.op E acc (lastS s0 ns) = some (.val v, s1)) (hk : checkP E s0 ns ⟨i, m, o.op, acc, v⟩ = true)
    (k : FD E nt all tm0 ms s0 Q l (i + 1) (Tr.put (.leaf m) bs 9 i) (put acc (dstOf nt o.dst) v) fixed (⟨i, m, o.op, acc, v⟩ :: ps) ns df s) : FD E nt all tm0 ms s0 Q (o :: l) i bs acc fixed ps ns df s := fun hp vals => by
  obtain ⟨tm', df', u', s', h1, h2⟩ := k (fun p hpm => by
    rcases List.mem_cons.1 hpm with rfl | hpm
    · exact hk
    · exact hp p hpm) (consV vals i (dstOf nt o.dst) v)
  refine ⟨tm', df', u', s', ?_, h2⟩
  rw [FD.eq hm hg, hc]
  show ob (opA o.op E acc (lastS s0 ns)) _ = _
  rw [h, ob_some]
  exact h1
theorem FD.still0 (m : Nat) (v : Value) (hc : clsOf o.op = 0) (hm : maskOf bs i o.after.toList = m) (hg : o.guard = none) (h : opA o.op E acc s0 = some (.val v, s1)) (hv : Sm 6 v)
    (k : FD E nt all tm0 ms s0 Q l (i + 1) (Tr.put (.leaf m) bs 9 i) (put acc (dstOf nt o.dst) v) fixed (⟨i, m, o.op, acc, v⟩ :: ps) [] df s) : FD E nt all tm0 ms s0 Q (o :: l) i bs acc fixed ps [] df s :=
  FD.still m v hc hm hg h (by
    show sameR (opA o.op E acc s0) v = true
    rw [h]
    exact hv 6 (Nat.le_refl _)) k
theorem FD.alloc (m : Nat) (v : Value) (hc : clsOf o.op = 1) (hm : maskOf bs i o.after.toList = m) (hg : o.guard = none) (h : opA o.op E acc s = some (.val v, s1))
    (k : FD E nt all tm0 ms s0 Q l (i + 1) (Tr.put (.leaf m) bs 9 i) (put acc (dstOf nt o.dst) v) (Nat.lor fixed (Nat.pow 2 i)) ps ns df s1) : FD E nt all tm0 ms s0 Q (o :: l) i bs acc fixed ps ns df s := fun hp vals => by
  obtain ⟨tm', df', u', s', h1, h2⟩ := k hp (consV vals i (dstOf nt o.dst) v)
  refine ⟨tm', df', u', s', ?_, h2⟩
  rw [FD.eq hm hg, hc]
  show ob (opA o.op E acc s) _ = _
  rw [h, ob_some]
  exact h1
theorem check_more {n : NR} {p : PR} (h : checkP E s0 ns p = true) (hn : (testB n.m p.i || sameR (opA p.op E p.tm n.s) p.v) = true) : checkP E s0 (n :: ns) p = true := by
  have hn' : cnd (testB n.m p.i) true (okAt E p n.s none) = true := by
    cases e : testB n.m p.i with
    | true => rfl
    | false => rw [e] at hn; exact hn
  show cnd (cnd (testB n.m p.i) true (okAt E p n.s none)) (lrec (fun nxt => okAt E p s0 nxt) (fun n _ ih nxt => cnd (cnd (testB n.m p.i) true (okAt E p n.s nxt)) (ih (some n.i)) false) ns (some n.i)) false = true
  rw [hn', cnd_true]
  have key : ∀ s c, okAt E p s none = true → okAt E p s (some c) = true := fun s c h => by
    show cnd (testB p.m c) true (sameR (opA p.op E p.tm s) p.v) = true
    have h : sameR (opA p.op E p.tm s) p.v = true := h
    rw [h]
    cases testB p.m c <;> rfl
  cases ns with
  | nil => exact key s0 _ h
  | cons n' ns =>
    have h : cnd (cnd (testB n'.m p.i) true (okAt E p n'.s none)) (lrec (fun nxt => okAt E p s0 nxt) (fun n _ ih nxt => cnd (cnd (testB n.m p.i) true (okAt E p n.s nxt)) (ih (some n.i)) false) ns (some n'.i)) false = true := h
    show cnd (cnd (testB n'.m p.i) true (okAt E p n'.s (some n.i))) (lrec (fun nxt => okAt E p s0 nxt) (fun n _ ih nxt => cnd (cnd (testB n.m p.i) true (okAt E p n.s nxt)) (ih (some n.i)) false) ns (some n'.i)) false = true
    cases e : testB n'.m p.i with
    | true => rw [e] at h; exact h
    | false =>
      rw [e, cnd_false] at h
      rw [cnd_false]
      cases e2 : okAt E p n'.s none with
      | true => rw [e2] at h; rw [key _ _ e2]; exact h
      | false => rw [e2] at h; cases h
theorem FD.skip (m : Nat) (hc : clsOf o.op = 2) (hm : maskOf bs i o.after.toList = m) (hg : o.guard = none) (hf : Nat.beq (Nat.land m fixed) fixed = true) (h : opA o.op E acc s = some (.skip, s1))
    (hps : allL (fun p => testB m p.i || sameR (opA p.op E p.tm s1) p.v) ps = true)
    (k : FD E nt all tm0 ms s0 Q l (i + 1) (Tr.put (.leaf m) bs 9 i) (put acc (dstOf nt o.dst) undef) (Nat.lor fixed (Nat.pow 2 i)) ps (⟨i, m, s1⟩ :: ns) df s1) : FD E nt all tm0 ms s0 Q (o :: l) i bs acc fixed ps ns df s := fun hp vals => by
  rw [allL_eq, List.all_eq_true] at hps
  obtain ⟨tm', df', u', s', h1, h2⟩ := k (fun p hpm => check_more (hp p hpm) (hps p hpm)) (consV vals i (dstOf nt o.dst) undef)
  refine ⟨tm', df', u', s', ?_, h2⟩
  rw [FD.eq hm hg, hc]
  show cnd (Nat.beq (Nat.land m fixed) fixed) (ob (opA o.op E acc s) _) none = _
  rw [hf, cnd_true, h, ob_some]
  exact h1
theorem FD.act (m : Nat) (v : Value) (hc : clsOf o.op = 2) (hm : maskOf bs i o.after.toList = m) (hg : o.guard = none) (hf : Nat.beq (Nat.land m fixed) fixed = true) (h : opA o.op E acc s = some (.val v, s1))
    (hps : allL (fun p => testB m p.i || sameR (opA p.op E p.tm s1) p.v) ps = true)
    (k : FD E nt all tm0 ms s0 Q l (i + 1) (Tr.put (.leaf m) bs 9 i) (put acc (dstOf nt o.dst) v) (Nat.lor fixed (Nat.pow 2 i)) ps (⟨i, m, s1⟩ :: ns) df s1) : FD E nt all tm0 ms s0 Q (o :: l) i bs acc fixed ps ns df s := fun hp vals => by
  rw [allL_eq, List.all_eq_true] at hps
  obtain ⟨tm', df', u', s', h1, h2⟩ := k (fun p hpm => check_more (hp p hpm) (hps p hpm)) (consV vals i (dstOf nt o.dst) v)
  refine ⟨tm', df', u', s', ?_, h2⟩
  rw [FD.eq hm hg, hc]
  show cnd (Nat.beq (Nat.land m fixed) fixed) (ob (opA o.op E acc s) _) none = _
  rw [hf, cnd_true, h, ob_some]
  exact h1
theorem FD.still0X (m : Nat) (v : Value) (hc : clsOf o.op = 0) (hm : maskOf bs i o.after.toList = m) (hg : o.guard = none) (h : opA o.op E acc s0 = some (.val v, s1)) (hv : flat1 v = true)
    (k : FD E nt all tm0 ms s0 Q l (i + 1) (Tr.put (.leaf m) bs 9 i) (put acc (dstOf nt o.dst) v) fixed (⟨i, m, o.op, acc, v⟩ :: ps) [] df s) : FD E nt all tm0 ms s0 Q (o :: l) i bs acc fixed ps [] df s :=
  FD.still0 m v hc hm hg h ((Sm.flat hv).up (by decide)) k
theorem FD.stillF (m : Nat) (v : Value) (hc : clsOf o.op = 0) (hm : maskOf bs i o.after.toList = m) (hg : o.guard = none) (h : ∀ s, opA o.op E acc s = some (.val v, s)) (hv : Sm 6 v)
    (k : FD E nt all tm0 ms s0 Q l (i + 1) (Tr.put (.leaf m) bs 9 i) (put acc (dstOf nt o.dst) v) fixed (⟨i, m, o.op, acc, v⟩ :: ps) ns df s) : FD E nt all tm0 ms s0 Q (o :: l) i bs acc fixed ps ns df s :=
  FD.still m v hc hm hg (h _) (by
    clear k
    have hs : ∀ s, sameR (opA o.op E acc s) v = true := fun s => by rw [h s]; exact hv 6 (Nat.le_refl _)
    have hok : ∀ s nxt, okAt E ⟨i, m, o.op, acc, v⟩ s nxt = true := fun s nxt => by
      cases nxt with
      | none => exact hs s
      | some c =>
        show cnd (testB m c) true (sameR (opA o.op E acc s) v) = true
        rw [hs s]
        cases testB m c <;> rfl
    show lrec (fun nxt => okAt E ⟨i, m, o.op, acc, v⟩ s0 nxt) (fun n _ ih nxt => cnd (cnd (testB n.m i) true (okAt E ⟨i, m, o.op, acc, v⟩ n.s nxt)) (ih (some n.i)) false) ns none = true
    generalize (none : Option Nat) = nxt
    induction ns generalizing nxt with
    | nil => exact hok _ _
    | cons n ns ih =>
      show cnd (cnd (testB n.m i) true (okAt E ⟨i, m, o.op, acc, v⟩ n.s nxt)) (lrec (fun nxt => okAt E ⟨i, m, o.op, acc, v⟩ s0 nxt) (fun n _ ih nxt => cnd (cnd (testB n.m i) true (okAt E ⟨i, m, o.op, acc, v⟩ n.s nxt)) (ih (some n.i)) false) ns (some n.i)) false = true
      rw [hok, ih]
      cases testB n.m i <;> rfl) k
theorem FD.allocX {P : St → Prop} (m : Nat) (v : Value) (hc : clsOf o.op = 1) (hm : maskOf bs i o.after.toList = m) (hg : o.guard = none) (h : ∃ s1, opA o.op E acc s = some (.val v, s1) ∧ P s1)
    (k : ∀ s1, P s1 → FD E nt all tm0 ms s0 Q l (i + 1) (Tr.put (.leaf m) bs 9 i) (put acc (dstOf nt o.dst) v) (Nat.lor fixed (Nat.pow 2 i)) ps ns df s1) : FD E nt all tm0 ms s0 Q (o :: l) i bs acc fixed ps ns df s := by
  obtain ⟨s1, h1, h2⟩ := h
  exact FD.alloc m v hc hm hg h1 (k s1 h2)
theorem FD.skipX {P : St → Prop} (m : Nat) (hc : clsOf o.op = 2) (hm : maskOf bs i o.after.toList = m) (hg : o.guard = none) (hf : Nat.beq (Nat.land m fixed) fixed = true) (h : ∃ s1, opA o.op E acc s = some (.skip, s1) ∧ P s1)
    (hps : ∀ s1, allL (fun p => testB m p.i || sameR (opA p.op E p.tm s1) p.v) ps = true)
    (k : ∀ s1, P s1 → FD E nt all tm0 ms s0 Q l (i + 1) (Tr.put (.leaf m) bs 9 i) (put acc (dstOf nt o.dst) undef) (Nat.lor fixed (Nat.pow 2 i)) ps (⟨i, m, s1⟩ :: ns) df s1) : FD E nt all tm0 ms s0 Q (o :: l) i bs acc fixed ps ns df s := by
  obtain ⟨s1, h1, h2⟩ := h
  exact FD.skip m hc hm hg hf h1 (hps s1) (k s1 h2)
theorem FD.actX {P : St → Prop} (m : Nat) (v : Value) (hc : clsOf o.op = 2) (hm : maskOf bs i o.after.toList = m) (hg : o.guard = none) (hf : Nat.beq (Nat.land m fixed) fixed = true) (h : ∃ s1, opA o.op E acc s = some (.val v, s1) ∧ P s1)
    (hps : ∀ s1, allL (fun p => testB m p.i || sameR (opA p.op E p.tm s1) p.v) ps = true)
    (k : ∀ s1, P s1 → FD E nt all tm0 ms s0 Q l (i + 1) (Tr.put (.leaf m) bs 9 i) (put acc (dstOf nt o.dst) v) (Nat.lor fixed (Nat.pow 2 i)) ps (⟨i, m, s1⟩ :: ns) df s1) : FD E nt all tm0 ms s0 Q (o :: l) i bs acc fixed ps ns df s := by
  obtain ⟨s1, h1, h2⟩ := h
  exact FD.act m v hc hm hg hf h1 (hps s1) (k s1 h2)
theorem AW.drawnF (H : EOK2 E) {N : Base} {id : Nat} {ops : Array Oper} {tm : Tm} {Q : Post} (hlen : Nat.blt (len ops.toList) 512 = true) (hst : statOK f.nt ops.toList (masksA ops.toList 0 .nil) = true)
    (h : FD E f.nt ops.toList tm (masksA ops.toList 0 .nil) s (fun tm df s => Q .normal tm df s N) ops.toList 0 .nil tm 0 [] [] df s) : AW E f N (.region id ops true) Q tm df s := by
  obtain ⟨tm', df', u', s', h1, h2⟩ := h (fun p hp => by cases hp) []
  refine AW.drawn H (tm' := tm') (df' := df') (u' := u') (s' := s') ?_ h2
  show cnd (Nat.blt (len ops.toList) 512) (cnd (statOK f.nt ops.toList (masksA ops.toList 0 .nil)) (opsF E call0 none f.nt ops.toList tm (masksA ops.toList 0 .nil) s (masksA ops.toList 0 .nil) tm ⟨0, 0, [], [], []⟩ df none s) none) none = _
  rw [hlen, hst]
  exact h1
end
end Go.Eng
end
