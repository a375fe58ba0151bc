/- A part of the proof of the law: Ins2. Conditions: none. -/
import Derived.Test.YtjmojapijbimbaaGreatDoorQn06
set_option linter.unusedVariables false
set_option linter.unusedSimpArgs false
namespace Go.Eng
open Go.Proofs Go.Lib
noncomputable section
theorem enterP {g : FuncId} {F : Func} {c : Code} (hf : Tryz.prog.funcs[g]? = some F) (hn : (F.name == "runtime.NumGoroutine") = false) (hb : F.body = some c) (args : Array Value) (w : World) : (callFunc g args).run Tryz.prog w = .ok (.enter g args) w := by
  unfold callFunc
  simp [hf, hb]
  intro h3
  rw [h3] at hn
  simp at hn
theorem orc0_ok {orc : FuncId → List Value → Option Value} : ∀ g args v, orc0 g args = some v → ∀ N0 φ s w args', RW (EE orc) N0 φ s w → RVs φ args args' →
    (∃ v' w', (callFunc g ⟨args'⟩).run Tryz.prog w = .ok (.value v') w' ∧ RV φ v v' ∧ Stp (EE orc) N0 φ s w φ s w') ∨
    ((∀ w, (callFunc g ⟨args'⟩).run Tryz.prog w = .ok (.enter g ⟨args'⟩) w) ∧ Calls Tryz.prog g ⟨args'⟩ w fun e w' => ∃ v', e = .returned v' ∧ RV φ v v' ∧ Stp (EE orc) N0 φ s w φ s w') := by
  intro g args v h N0 φ s w args' hw ha
  unfold orc0 at h
  rw [cnd_eq] at h
  split at h
  · rename_i hg
    have := Nat.eq_of_beq_eq_true hg
    subst this
    unfold orcC at h
    split at h
    · rename_i a b
      obtain ⟨h1, h2⟩ := cnd_some.1 h
      cases h2
      obtain ⟨x', y', rfl, hx, hy⟩ := ha.two
      cases hx
      cases hy
      right
      obtain ⟨hb1, hb3⟩ := hw.base
      obtain ⟨o2, hg1, m, hg2⟩ := (show good0 N0 from hb3)
      have hm := hg2 w (hb1 2 o2 hg1)
      have hlen : a.size < 4294967281 := by
        rw [len_eq] at h1
        have := blt_true h1
        have e : a.size = a.data.toList.length := by simp
        omega
      refine ⟨fun w => enterP Tryz.func266 (by kernel_rfl) rfl _ w, ?_⟩
      refine (Tryz.strings_Contains a b m w hlen hm).mono ?_
      rintro e w' ⟨rfl, rfl⟩
      exact ⟨_, rfl, by rw [hasL_ok]; exact .bool _, Stp.refl hw⟩
    · cases h
  · rw [cnd_eq] at h
    split at h
    · rename_i hg
      have := Nat.eq_of_beq_eq_true hg
      subst this
      unfold orcI at h
      split at h
      · rename_i a c
        cases h
        obtain ⟨x', y', rfl, hx, hy⟩ := ha.two
        cases hx
        cases hy
        left
        refine ⟨_, w, ?_, .int _ _, Stp.refl hw⟩
        have hidx : idxB c.toNat.toUInt8.toNat a.data.toList 0 = Lib.indexByte a.data.toList c.toNat.toUInt8 := by
          rw [idxB_ok]
          split
          · rename_i h; exact h.symm
          · simp
        rw [hidx, run_callFunc_extern (e := Extern.BytealgIndexByte.indexByte) Tryz.func318 (by kernel_rfl) rfl (by kernel_rfl) (by kernel_rfl)]
        have := run_indexByteString (P := Tryz.prog) a c w
        rw [show (⟨[.string a, .int .u8 c]⟩ : Array Value) = #[.string a, .int .u8 c] from rfl, this]
        rfl
      · cases h
    · rw [cnd_eq] at h
      split at h
      · rename_i hg
        have := Nat.eq_of_beq_eq_true hg
        subst this
        have := one_some h
        subst this
        obtain ⟨x', rfl, hx⟩ := ha.one
        left
        refine ⟨x', w, ?_, hx, Stp.refl hw⟩
        rw [run_callFunc_extern (e := Extern.AbiNoEscape.same) Tryz.func324 (by kernel_rfl) rfl (by kernel_rfl) (by kernel_rfl)]
        rfl
      · cases h
theorem eok0 : EOK2 E0 := ⟨eok orc0, mixedOK, names0 orc0, orc0_ok⟩
def clsL : List Nat := app [0, 0, 0, 0, 0, 0, 0, 0, 0, 1, 1, 0, 0, 0, 0, 0, 0, 0, 0, 0, 0, 0, 0, 0, 0, 0, 0, 0, 0, 0, 0, 0, 1, 8, 0, 2, 0, 0, 0, 0, 6, 6, 0, 0, 6, 0, 6, 0, 4, 4, 4, 4, 4, 4, 4, 4, 4, 4, 6, 6, 7, 6, 7, 0, 0, 3, 3, 3, 3, 3, 3, 3, 3, 3, 3, 3, 3, 3, 3, 3, 3, 3, 3, 3, 3, 3, 3, 3, 3, 3, 3, 6, 0, 6, 0, 5, 0, 3, 3, 3, 3, 3, 3, 3, 3, 3, 3, 3, 3, 3, 3, 3, 3, 3, 3, 3, 3, 3, 3, 3, 3, 3, 3, 6, 0, 6, 0] (repl 129 [0])
def clsC : List Value := mapL (fun n => Value.int .u8 (Int.ofNat n)) clsL
def clsV : Value := .agg ⟨clsC⟩
def orc1 (f : FuncId) (args : List Value) : Option Value := cnd (Nat.beq f 202) (lcase (some clsV) (fun _ _ => none) args) (orc0 f args)
def E1 : Env := EE orc1
def sameInts (a : List Value) (ns : List Nat) : Bool :=
  lrec (fun ns => lcase true (fun _ _ => false) ns) (fun x _ ih ns => lcase false (fun n r => cnd (plain1 x (.int .u8 (Int.ofNat n))) (ih r) false) ns) a ns
def isCls (x : CallR) : Bool := match x with
  | some (.returned (.agg c), _, _) => sameInts c.toList clsL
  | _ => false
theorem isCls_some {x : CallR} (h : isCls x = true) : ∃ c u s, x = some (.returned (.agg c), u, s) ∧ sameInts c.toList clsL = true := by
  unfold isCls at h
  split at h
  · exact ⟨_, _, _, rfl, h⟩
  · cases h
theorem cls_run : isCls (callN E0 60 none (.fn 202 []) ⟨hp0, 0⟩) = true := by kernel_rfl
theorem sameInts_ok : ∀ (a : List Value) (ns : List Nat), sameInts a ns = true → a = ns.map fun n => Value.int .u8 (Int.ofNat n) := by
  intro a
  induction a with
  | nil =>
    intro ns h
    cases ns with
    | nil => rfl
    | cons n ns => cases h
  | cons x a ih =>
    intro ns h
    cases ns with
    | nil => cases h
    | cons n ns =>
      have h' : cnd (plain1 x (.int .u8 (Int.ofNat n))) (sameInts a ns) false = true := h
      cases hp : plain1 x (.int .u8 (Int.ofNat n)) with
      | false => rw [hp] at h'; cases h'
      | true =>
        rw [hp] at h'
        rw [(plain1_eq hp).1, ih ns h']
        rfl
theorem ints_rigid {φ : Rn} : ∀ (ns : List Nat) (l : List Value), RVs φ (ns.map fun n => Value.int .u8 (Int.ofNat n)) l → l = ns.map fun n => Value.int .u8 (Int.ofNat n) := by
  intro ns
  induction ns with
  | nil => intro l h; cases h; rfl
  | cons n ns ih =>
    intro l h
    cases h with
    | cons _ v' _ l' h1 h2 => cases h1; rw [ih l' h2]; rfl
theorem ints_self (φ : Rn) : ∀ (ns : List Nat), RVs φ (ns.map fun n => Value.int .u8 (Int.ofNat n)) (ns.map fun n => Value.int .u8 (Int.ofNat n))
  | [] => .nil
  | n :: ns => .cons _ _ _ _ (.int _ _) (ints_self φ ns)
theorem Stp.grow {E : Env} {N0 : Base} {φ : Rn} {s : St} {w w' : World} (h : RW E N0 φ s w) (hs : w.heap.size ≤ w'.heap.size) (hk : ∀ c, c < w.heap.size → w'.heap[c]? = w.heap[c]?) (ht : w'.tape = w.tape) (ho : w'.os = w.os) (hu : w'.output = w.output) : Stp E N0 φ s w φ s w' :=
  ⟨.refl _, fun _ h1 h2 => (h2 h1).elim, Nat.le_refl _,
    ⟨h.wf, h.gl, h.dom, h.top, fun b o hb e => by obtain ⟨c, z, h1, h2⟩ := h.live b o hb e; exact ⟨c, z, h1, h2.congr (.refl _) h1 (hk c h2.lt)⟩, h.inj, h.own, fun b c z e => Nat.lt_of_lt_of_le (h.img b c z e) hs, fun c o hc => by rw [hk c (Array.getElem?_eq_some_iff.1 (h.base.1 c o hc)).1]; exact h.base.1 c o hc, h.base.2⟩,
    hs, fun c hc _ => hk c hc, fun _ h => .inl h, ht, ho, hu⟩
theorem good_of {N0 : Base} {w : World} (h : good0 N0) (h1 : ∀ c o, N0 c = some o → w.heap[c]? = some o) : good0 fun c => w.heap[c]? := by
  obtain ⟨o, a, m, b⟩ := h
  exact ⟨o, h1 2 o a, m, b⟩
theorem orc202 : E0.orc 202 [] = none := by kernel_rfl
theorem eok1 : EOK2 E1 := ⟨eok orc1, mixedOK, names0 orc1, by
  intro g args v h N0 φ s w args' hw ha
  have h : orc1 g args = some v := h
  unfold orc1 at h
  rw [cnd_eq] at h
  split at h
  · rename_i hg
    have := Nat.eq_of_beq_eq_true hg
    subst this
    cases args with
    | cons a l => cases h
    | nil =>
      cases h
      cases ha
      right
      obtain ⟨hb1, hb3⟩ := hw.base
      have hgood := good_of (show good0 N0 from hb3) hb1
      refine ⟨fun w => enterP Tryz.func202 (by kernel_rfl) rfl _ w, ?_⟩
      obtain ⟨c, u', s', hcall, hc1⟩ := isCls_some cls_run
      refine (closed_call eok0 rfl hcall orc202 w hgood).mono ?_
      rintro e w' ⟨φ', v', rfl, hv, hs, hk, ht, ho, hu⟩
      have hc := sameInts_ok _ _ hc1
      refine ⟨v', rfl, ?_, Stp.grow hw hs hk ht ho hu⟩
      obtain ⟨cl⟩ := c
      simp only at hc
      subst hc
      cases hv with
      | agg l l' e =>
        rw [ints_rigid _ _ e]
        show RV φ (.agg ⟨mapL (fun n => Value.int .u8 (Int.ofNat n)) clsL⟩) _
        rw [mapL_eq]
        exact .agg _ _ (ints_self φ _)
  · exact orc0_ok g args v h N0 φ s w args' hw ha⟩
def okB (x : CallR) : Bool := match x with
  | some (.returned (.bool b), _, _) => b
  | _ => false
theorem okB_some {x : CallR} (h : okB x = true) : ∃ u s, x = some (.returned (.bool true), u, s) := by
  unfold okB at h
  split at h
  · subst h; exact ⟨_, _, rfl⟩
  · cases h
theorem orc11 : E1.orc 11 [] = none := by kernel_rfl
end
end Go.Eng
