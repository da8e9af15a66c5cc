/-
  The engine, part DD: functions that defer a closure first; calls that are entered, and how a contract comes out of a body. Own work; no condition.
-/
import Derived.Test.YtbdojimkdgajgaaGreatDoorEngDC
namespace Go.Vg
open Go Go.RowKit

/-! Functions that defer a closure first. -/
def deferOf (o : Oper) : Option Operand :=
  match o.op, o.guard with
  | .defer { callee := .value f, args, .. }, none => match args.toList with
    | [] => some f
    | _ => none
  | _, _ => none

/-- The last operation, if it defers a closure. -/
def lastD : List Oper → Option (Oper × Operand)
  | [] => none
  | [o] => match deferOf o with
    | some f => some (o, f)
    | none => none
  | _ :: r => lastD r

structure DefB where
  p : Nat
  ops0 : Array Oper
  ops1 : Array Oper
  o : Oper
  f : Operand
  rest : Code

def splitD (p : Nat) (ops0 : Array Oper) : Code → Option DefB
  | .seq (.region _ ops1 false) r => match lastD ops1.toList with
    | some x => some ⟨p, ops0, ops1, x.1, x.2, r⟩
    | none => none
  | _ => none

def defSplit : Code → Option DefB
  | .seq (.region _ ops0 false) (.scope c) => splitD 13 ops0 c
  | .seq (.region _ ops0 false) c => splitD 7 ops0 c
  | _ => none

/-- A deferred closure's parts. -/
structure ClosB where
  gn : Func
  ops : Array Oper
  o : Oper
  rest : List Oper
  B : Code

def allSimple : List Oper → Bool
  | [] => true
  | o :: r => simpleOp o && allSimple r

def closOf (P : Program) (g : FuncId) : Option ClosB :=
  match P.funcs[g]? with
  | some gn => match gn.body with
    | some (.seq (.region _ ops false) B) => match ops.toList with
      | o :: r => match isRecover o && allSimple r && Nat.beq gn.results.size 0 && enters P g with
        | true => some ⟨gn, ops, o, r, B⟩
        | false => none
      | [] => none
    | _ => none
  | none => none

def onGo (A : St → Prop) : Fi → Prop
  | .go σ => A σ
  | .pan _ _ => False

/-- The way out through the deferred closure; x: what it recovers. -/
def leaveS (P : Program) (G : World → Prop) (Γ : Cons) (call : CallT) (g : FuncId) (caps : List AV) (Q : Exit → St → Prop) (x : AV) (σ : St) : Prop :=
  match closOf P g with
  | some c => Nat.ble caps.length c.gn.ntmps = true ∧
      execSeq P Γ call c.ops c.rest (({ slots := numbered 0 (AV.maps (hasKey σ.H) dead caps), H := σ.H, next := σ.next + 1, n := c.gn.ntmps } : St).put c.o.dst x)
        (closQ P G Γ call σ.next c.B fun H' n' => Q .ret { slots := mapSlots (hasKey H') dead σ.slots, H := H', next := n', n := σ.n })
  | none => False

def leaveQ (P : Program) (G : World → Prop) (Γ : Cons) (call : CallT) (g : FuncId) (caps : List AV) (Q : Exit → St → Prop) : Exit → St → Prop
  | .normal, σ => leaveS P G Γ call g caps Q .nili σ
  | .ret, σ => leaveS P G Γ call g caps Q .nili σ
  | .panic ch, σ => ofChainP ch fun x => leaveS P G Γ call g caps Q x σ
  | _, _ => False

/-- A way to tell what code does. -/
abbrev ExecT := Nat → Code → St → (Exit → St → Prop) → Prop

def restS (X : ExecT) (P : Program) (G : World → Prop) (Γ : Cons) (call : CallT) (d : DefB) (Q : Exit → St → Prop) (σ : St) : Prop :=
  match σ.eval d.f with
  | .fn g [] caps => X d.p d.rest (σ.put d.o.dst .und) (leaveQ P G Γ call g caps Q)
  | _ => False

def execD (X : ExecT) (P : Program) (G : World → Prop) (Γ : Cons) (call : CallT) (d : DefB) (σ : St) (Q : Exit → St → Prop) : Prop :=
  execSeq P Γ call d.ops0 d.ops0.toList σ (onGo fun σ => execSeq P Γ call d.ops1 d.ops1.toList.dropLast σ (onGo (restS X P G Γ call d Q)))

/-- A function's body. -/
def execB (P : Program) (G : World → Prop) (Γ : Cons) (call : CallT) (c : Code) (σ : St) (Q : Exit → St → Prop) : Prop :=
  exec P G Γ call none c σ Q ∨ ∃ d, defSplit c = some d ∧ execD (fun _ => exec P G Γ call none) P G Γ call d σ Q

/-- A call that is entered; XB, XL: how bodies are told of. -/
def callX (XB : FuncId → Code → St → (Exit → St → Prop) → Prop) (XL : Nat → ExecT) (P : Program) : CallT := fun t args H next K => match t with
  | .fn f => match P.funcs[f]? with
    | some fn => match fn.body with
      | some code => enters P f = true ∧ Nat.ble args.length fn.ntmps = true ∧
          XB f code { slots := numbered 0 args, H := H, next := next, n := fn.ntmps } (retP P fn (callQ K) (callP K))
      | none => False
    | none => False
  | .yld l => match H.find l with
    | some (.loop r) => match Nat.beq args.length r.ps.size with
      | true => XL l 2 r.assign (bindS { slots := r.slots, H := H, next := next, n := r.n } r.ps.toList args)
          (bodyQ l fun σ => XL l 3 r.body σ (endQ l K))
      | false => False
    | _ => False

/-- A call that is entered. -/
def callS (P : Program) (G : World → Prop) (Γ : Cons) (call : CallT) : CallT :=
  callX (fun _ => execB P G Γ call) (fun l _ => exec P G Γ call (some l)) P

/-- Calls that are entered, to a depth. -/
def callD (P : Program) (G : World → Prop) (Γ : Cons) : Nat → CallT
  | 0 => fun _ _ _ _ _ => False
  | d + 1 => callS P G Γ (callD P G Γ d)

section
variable {C : Ctx} {P : Program} {G : World → Prop}

theorem Fr.wh {ρ ρ' : Nat → Nat} {H H' : Heap} {w w' : World} {m n : Nat} {hn : C.w0.heap.size ≤ n} {us : List Deferred} {ms : Option (List Nat)} (h : Fr (C.wh n hn us ms) m ρ H w ρ' H' w') : Fr C m ρ H w ρ' H' w' :=
  ⟨h.data, h.keys, h.rows, h.size⟩
theorem VR.un {ρ : Nat → Nat} {H : Heap} {w : World} {n : Nat} {hn : C.w0.heap.size ≤ n} {us : List Deferred} {ms : Option (List Nat)} {x : AV} {v : Value} (h : VR (C.wh n hn us ms) ρ H w x v) : VR C ρ H w x v :=
  VR.wh (C := C.wh n hn us ms) (n := C.lo) (hn := C.hlo) (us := C.us) (ms := C.mks) h
theorem VRs.un {ρ : Nat → Nat} {H : Heap} {w : World} {n : Nat} {hn : C.w0.heap.size ≤ n} {us : List Deferred} {ms : Option (List Nat)} {xs : List AV} {vs : List Value} (h : VRs (C.wh n hn us ms) ρ H w xs vs) : VRs C ρ H w xs vs :=
  VRs.wh (C := C.wh n hn us ms) (n := C.lo) (hn := C.hlo) (us := C.us) (ms := C.mks) h
theorem MRel.un {ρ : Nat → Nat} {H : Heap} {next : Nat} {w : World} {n : Nat} {hn : C.w0.heap.size ≤ n} {us : List Deferred} {ms : Option (List Nat)} (h : MRel (C.wh n hn us ms) ρ H next w) : MRel C ρ H next w :=
  MRel.wh (C := C.wh n hn us ms) (n := C.lo) (hn := C.hlo) (us := C.us) (ms := C.mks) h

/-- Blocks above the beginning have changed, none of them the call's own. -/
theorem Fr.shut {ρ ρ' : Nat → Nat} {H H' : Heap} {w w' w'' : World} {n : Nat} (h : Fr C n ρ H w ρ' H' w') (h1 : ∀ b, b < w.heap.size → w''.heap[b]? = w'.heap[b]?) (h2 : ∀ k ∈ H'.keys, w''.heap[ρ' k]? = w'.heap[ρ' k]?) (h3 : w''.heap.size = w'.heap.size) : Fr C n ρ H w ρ' H' w'' := by
  refine ⟨fun b hb => ?_, h.keys, fun k e t l hk hk1 hk2 => ?_, by rw [h3]; exact h.size⟩
  · obtain ⟨g1, g2⟩ := h.data b hb
    exact ⟨⟨g1.1, by rw [h3]; exact g1.2.1, g1.2.2⟩, (h1 b hb.2.1).trans g2⟩
  · obtain ⟨l', g1, g2, g3⟩ := h.rows k e t l hk hk1 hk2
    refine ⟨l', g1, g2, fun c fr hc => ?_⟩
    obtain ⟨c', fr', g4, g5⟩ := g3 c fr hc
    exact ⟨c', fr', by rw [← (h.keys k hk hk2).2, h2 k hk2, (h.keys k hk hk2).2]; exact g4, g5⟩

theorem Fr.vr {ρ ρ' : Nat → Nat} {H H' : Heap} {next next' : Nat} {w w' : World} (hm : MRel C ρ H next' w) (hn : next' ≤ next) (h : Fr C next ρ H w ρ' H' w') {x : AV} {v : Value} (hx : VR C ρ H w x v) : VR C ρ' H' w' (x.map (hasKey H') dead) v :=
  VR.map h.data (fun k hk hp => ⟨hasKey_iff.1 hp, (h.keys k (Nat.lt_of_lt_of_le (hm.lt k hk) hn) (hasKey_iff.1 hp)).2⟩) (fun k e t l hk hp => h.rows k e t l (Nat.lt_of_lt_of_le (hm.lt k (mem_keys hk)) hn) hk (hasKey_iff.1 hp)) (fun _ _ _ _ _ _ => .no) hx

/-- How the body of a function ends, whose frame began with this state. -/
def EndS (C : Ctx) (σ : St) (ρ : Nat → Nat) (w : World) (Kr : List AV → St → Prop) (Kp : List PanicEntry → St → Prop) (e : Ending) (w' : World) : Prop :=
  (∃ ρ' σ' l vs, Kr l σ' ∧ MRel C ρ' σ'.H σ'.next w' ∧ VRs C ρ' σ'.H w' l vs ∧ Fr C σ.next ρ σ.H w ρ' σ'.H w' ∧ σ.next ≤ σ'.next ∧ e = .returned (resV vs)) ∨
  ∃ ρ' σ' ch, Kp ch σ' ∧ MRel C ρ' σ'.H σ'.next w' ∧ Fr C σ.next ρ σ.H w ρ' σ'.H w' ∧ σ.next ≤ σ'.next ∧ e = .panicked ch

/-- What is to be known of a body. -/
def BSat (P : Program) (G : World → Prop) (fn : Func) (code : Code) (σ : St) (Kr : List AV → St → Prop) (Kp : List PanicEntry → St → Prop) : Prop :=
  ∀ (C : Ctx), G C.w0 → ∀ (ρ : Nat → Nat) (a : Act) (w : World), SRel C ρ σ a w → C.us = [] → C.mks = none → C.lo = w.heap.size → a.defers = [] →
    code.wpIn (wideR none) 0 P (bodyPostM (wideR none) 0 P fn (EndS C σ ρ w Kr Kp)) a w

theorem body_plain {fn : Func} {code : Code} {σ : St} {Kr : List AV → St → Prop} {Kp : List PanicEntry → St → Prop}
    (h : Sat P G none code σ (retP P fn Kr Kp)) (hC : G C.w0) {ρ : Nat → Nat} {a : Act} {w : World} (hs : SRel C ρ σ a w) (hu : C.us = []) (hmk : C.mks = none) (hlo : C.lo = w.heap.size) :
    code.wpIn (wideR none) 0 P (bodyPostM (wideR none) 0 P fn (EndS C σ ρ w Kr Kp)) a w := by
  refine wpIn_mono (h C hC ρ a w hs none ⟨rfl, hmk⟩) ?_
  rintro e a' w' ⟨ρ', σ', h1, h2, h3, h4⟩
  have fin : (resT P σ' fn.results.toList).holds (fun l => Kr l σ') → LeavesInM (wideR none) 0 P fn a'.tmps (EndS C σ ρ w Kr Kp) a'.defers .returning w' := fun hh =>
    ret_end hu hmk h2 hh (fun l us w'' k1 k2 k3 k4 k5 k6 => Or.inl ⟨ρ', σ', l, us, k1, k2, k3, h3.shut (by rw [hlo] at k4; exact k4) k5 k6, h4, rfl⟩)
  have finP : ∀ ch, Kp ch σ' → LeavesInM (wideR none) 0 P fn a'.tmps (EndS C σ ρ w Kr Kp) a'.defers (.panicking ch) w' := by
    intro ch hk
    obtain ⟨hlo', ds, e1, e2, e3, -⟩ := h2.defers
    rw [e1, hu]
    show LeavesInM _ _ _ _ _ _ (_ ++ []) _ _
    refine marks_leave (by simp) ds w' h2.m e2 e3 (fun w'' k2 k3 k4 k5 k6 => ?_)
    exact Or.inr ⟨ρ', σ', ch, hk, k2, h3.shut (by rw [hlo] at k4; exact k4) k5 k6, h4, rfl⟩
  cases e with
  | normal => exact fin h1
  | ret => exact fin h1
  | panic ch => exact finP ch h1
  | _ => exact h1.elim

theorem lastD_spec : ∀ {l : List Oper} {o : Oper} {f : Operand}, lastD l = some (o, f) → l = l.dropLast ++ [o] ∧ deferOf o = some f
  | [], _, _, h => by cases h
  | [x], o, f, h => by
    simp only [lastD] at h
    split at h
    · rename_i f' hf
      injection h with h; injection h with h1 h2; subst h1; subst h2
      exact ⟨rfl, hf⟩
    · cases h
  | x :: y :: r, o, f, h => by
    obtain ⟨h1, h2⟩ := lastD_spec (l := y :: r) h
    refine ⟨?_, h2⟩
    rw [List.dropLast_cons_cons, List.cons_append, ← h1]

theorem deferOf_spec {o : Oper} {f : Operand} (h : deferOf o = some f) : (∃ ts, o.op = .defer { callee := .value f, args := #[], argTypes := ts }) ∧ o.guard = none := by
  unfold deferOf at h
  split at h
  · rename_i f' args ts ho hg
    split at h
    · rename_i ha
      injection h with h; subst h
      have : args = #[] := by apply Array.ext'; exact ha
      subst this
      exact ⟨⟨_, ho⟩, hg⟩
    · cases h
  · cases h

theorem splitD_spec {p : Nat} {ops0 : Array Oper} {c : Code} {d : DefB} (h : splitD p ops0 c = some d) : d.ops0 = ops0 ∧ (∃ i, c = .seq (.region i d.ops1 false) d.rest) ∧ lastD d.ops1.toList = some (d.o, d.f) := by
  unfold splitD at h
  split at h
  · split at h
    · rename_i x hx
      injection h with h; subst h
      exact ⟨rfl, ⟨_, rfl⟩, hx⟩
    · cases h
  · cases h

theorem defSplit_spec {c : Code} {d : DefB} (h : defSplit c = some d) : lastD d.ops1.toList = some (d.o, d.f) ∧ ∃ i j, c = .seq (.region i d.ops0 false) (.scope (.seq (.region j d.ops1 false) d.rest)) ∨ c = .seq (.region i d.ops0 false) (.seq (.region j d.ops1 false) d.rest) := by
  unfold defSplit at h
  split at h
  · obtain ⟨rfl, ⟨i, rfl⟩, h3⟩ := splitD_spec h
    exact ⟨h3, _, _, Or.inl rfl⟩
  · obtain ⟨rfl, ⟨i, rfl⟩, h3⟩ := splitD_spec h
    exact ⟨h3, _, _, Or.inr rfl⟩
  · cases h

theorem closOf_spec {g : FuncId} {c : ClosB} (h : closOf P g = some c) : P.funcs[g]? = some c.gn ∧ (∃ id, c.gn.body = some (.seq (.region id c.ops false) c.B)) ∧ c.ops.toList[0]? = some c.o ∧ c.ops.toList.drop 1 = c.rest ∧ isRecover c.o = true ∧ (∀ x ∈ c.rest, simpleOp x = true) ∧ c.gn.results = #[] ∧ enters P g = true := by
  unfold closOf at h
  split at h
  · rename_i gn hg
    split at h
    · rename_i id ops B hb
      split at h
      · rename_i o r hl
        split at h
        · rename_i hc
          injection h with h; subst h
          simp only [Bool.and_eq_true] at hc
          have hall : ∀ (l : List Oper), allSimple l = true → ∀ x ∈ l, simpleOp x = true := by
            intro l
            induction l with
            | nil => intro _ x hx; cases hx
            | cons y r ih =>
              intro h x hx
              simp only [allSimple, Bool.and_eq_true] at h
              rcases List.mem_cons.1 hx with rfl | hx
              · exact h.1
              · exact ih h.2 x hx
          refine ⟨hg, ⟨id, hb⟩, by simp [hl], by simp [hl], hc.1.1.1, hall _ hc.1.1.2, ?_, hc.2⟩
          exact Array.eq_empty_of_size_eq_zero (beq_true hc.1.2)
        · cases h
      · cases h
    · cases h
  · cases h

theorem maps_length (p : Nat → Bool) (f : Nat → Nat → Nat → AV) : ∀ l : List AV, (AV.maps p f l).length = l.length
  | [] => rfl
  | _ :: r => congrArg Nat.succ (maps_length p f r)

/-- The way out of a function that has deferred a closure. -/
theorem leave_sound (hG : GMono G) (hmix : P.follows .mixedOrders = true) {Γ : Cons} (hΓ : Γ.ok P G) {call : CallT} (hcall : CallSat P G call) {fn : Func} {σ0 σ1 σ : St} {Kr : List AV → St → Prop} {Kp : List PanicEntry → St → Prop} {g : FuncId} {caps : List AV} {vc : List Value} {x : AV} {v : Value} {u u' : FrameMode}
    (hrec : Rec u v u') (hu : u ≠ .run) (hset : settle u' = .returning) (hC : G C.w0) {ρ0 ρ1 ρ : Nat → Nat} {a : Act} {w0 w1 w : World} (hlo : C.lo = w0.heap.size)
    (hm1 : MRel C ρ1 σ1.H σ1.next w1) (hcaps : VRs C ρ1 σ1.H w1 caps vc) (hf0 : Fr C σ0.next ρ0 σ0.H w0 ρ1 σ1.H w1) (hn0 : σ0.next ≤ σ1.next) (hf1 : Fr C σ1.next ρ1 σ1.H w1 ρ σ.H w) (hn1 : σ1.next ≤ σ.next)
    (hs : SRel (C.wh C.lo C.hlo [defOf g vc] none) ρ σ a w) (hx : ∀ w', VR C ρ σ.H w' x v) (h : leaveS P G Γ call g caps (retP P fn Kr Kp) x σ) :
    LeavesInM (wideR none) 0 P fn a.tmps (EndS C σ0 ρ0 w0 Kr Kp) a.defers u w := by
  unfold leaveS at h
  split at h
  case h_2 => exact h.elim
  rename_i c hc
  obtain ⟨g1, ⟨id, g2⟩, g3, g4, g5, g6, g7, g8⟩ := closOf_spec hc
  obtain ⟨hble, hex⟩ := h
  obtain ⟨hlo', ds, e1, e2, e3, -⟩ := hs.defers
  rw [e1]
  show LeavesInM _ _ _ _ _ _ (_ ++ [defOf g vc]) _ _
  refine marks_leave hu ds w hs.m e2 e3 (fun w2 k2 k3 k4 k5 k6 => ?_)
  have hcap2 : VRs C ρ σ.H w2 (AV.maps (hasKey σ.H) dead caps) vc := VRs.map (fun y u hy => (k3 _ _ (Fr.vr hm1 (Nat.le_refl _) hf1 hy).wh).un) hcaps
  rw [← g4] at hex
  refine leaves_closure hu g8 (clos_sound (C := C) (u := u) (u' := u') hG hmix hC hΓ hcall g1 g2 g3 g5 (by rw [g4]; exact g6) g7 k2.un hcap2 (by rw [maps_length]; exact hble) hrec (hx w2) hex) ?_
  rintro w3 ⟨ρ3, H3, n3, hK, hm3, hf3, hn3⟩
  rw [hset]
  have hf01 : Fr C σ0.next ρ0 σ0.H w0 ρ σ.H w := hf0.trans hn0 hf1
  have hf2 : Fr C σ0.next ρ0 σ0.H w0 ρ σ.H w2 := hf01.shut (fun b hb => k4 b (by show b < C.lo; rw [hlo]; exact hb)) k5 k6
  have hf3' : Fr C σ0.next ρ0 σ0.H w0 ρ3 H3 w3 := hf2.trans (Nat.le_trans hn0 hn1) hf3
  have hle : C.lo ≤ w3.heap.size := by rw [hlo]; exact hf3'.size
  have hs3 : SRel (C.wh C.lo C.hlo [] none) ρ3 { slots := mapSlots (hasKey H3) dead σ.slots, H := H3, next := n3, n := σ.n } { a with defers := [] } w3 :=
    ⟨hm3.wh, fun t => by rw [look_map]; exact (Fr.vr k2.un (Nat.le_refl _) hf3 (k3 _ _ (hs.slots t)).un).wh, hs.size, Dfs.nil hle rfl rfl⟩
  obtain ⟨l, hl1, hl2⟩ := T.leaf (show (resT P _ fn.results.toList).holds _ from hK)
  obtain ⟨us, q1, q2⟩ := resT_sound (P := P) hs3 _ _ hl1
  exact ⟨_, results_run q1, Or.inl ⟨ρ3, _, l, us, hl2, hm3, q2.un, hf3', Nat.le_trans hn0 (Nat.le_trans hn1 hn3), rfl⟩⟩

theorem body_defer (hG : GMono G) (hmix : P.follows .mixedOrders = true) {Γ : Cons} (hΓ : Γ.ok P G) {call : CallT} (hcall : CallSat P G call) {X : ExecT} (hX : ∀ p c σ Q, X p c σ Q → Sat P G none c σ Q) {fn : Func} {code : Code} {d : DefB} (hd : defSplit code = some d) {σ : St} {Kr : List AV → St → Prop} {Kp : List PanicEntry → St → Prop}
    (h : execD X P G Γ call d σ (retP P fn Kr Kp)) (hC : G C.w0) {ρ : Nat → Nat} {a : Act} {w : World} (hs : SRel C ρ σ a w) (hlo : C.lo = w.heap.size) (hds : a.defers = []) :
    code.wpIn (wideR none) 0 P (bodyPostM (wideR none) 0 P fn (EndS C σ ρ w Kr Kp)) a w := by
  obtain ⟨hlast, i, j, hcode⟩ := defSplit_spec hd
  obtain ⟨hl, hdo⟩ := lastD_spec hlast
  obtain ⟨⟨ts, ho⟩, hg⟩ := deferOf_spec hdo
  have hs0 : SRel (C.wh C.lo C.hlo [] (some [])) ρ σ a w := ⟨hs.m.wh, fun t => (hs.slots t).wh, hs.size, by show C.lo ≤ _; rw [hlo]; exact Nat.le_refl _, [], by rw [hds]; rfl, List.nodup_nil, fun _ h => (by cases h), fun x hx => Option.some.inj hx⟩
  have main : ∀ (ρ1 : Nat → Nat) (σ1 : St) (a1 : Act) (w1 : World), execSeq P Γ call d.ops1 d.ops1.toList.dropLast σ1 (onGo (restS X P G Γ call d (retP P fn Kr Kp))) → SRel (C.wh C.lo C.hlo [] (some [])) ρ1 σ1 a1 w1 → Fr C σ.next ρ σ.H w ρ1 σ1.H w1 → σ.next ≤ σ1.next →
      (Code.seq (.region j d.ops1 false) d.rest).wpIn (wideR none) 0 P (noGoto (bodyPostM (wideR none) 0 P fn (EndS C σ ρ w Kr Kp))) a1 w1 := by
    intro ρ1 σ1 a1 w1 hx hs1 hf1 hn1
    refine wpIn_seq (wpIn_region_list ?_)
    rw [hl]
    refine list_append _ _ _ (execSeq_sound (C := C.wh C.lo C.hlo [] (some [])) hG hC hΓ hcall _ hs1 hx (fun a2 w2 hr => ?_) (fun ch a2 w2 hr => ?_) none)
    · obtain ⟨ρ2, σ2, hq, hs2, hf2, hn2⟩ := hr
      simp only [onGo, restS] at hq
      split at hq
      case h_2 => exact hq.elim
      rename_i g caps hfv
      have hev := hs2.eval d.f
      rw [hfv] at hev
      generalize hvf : a2.eval d.f = vf at hev
      cases hev with
      | @fn _ _ _ vff vc hh1 hh2 =>
        cases hh1
        refine list_defer ho hg hvf ?_
        have hd2 : a2.defers = [] := by
          obtain ⟨-, ds, e1, -, -, e2⟩ := hs2.defers
          have : ds = [] := e2 [] rfl
          subst this
          exact e1
        have hlo2 : C.lo ≤ w2.heap.size := hs2.defers.1
        have hs3 : SRel (C.wh C.lo C.hlo [defOf g vc] none) ρ2 σ2 { a2 with defers := defOf g vc :: a2.defers } w2 :=
          ⟨hs2.m.un.wh, fun t => (hs2.slots t).un.wh, hs2.size, hlo2, [], by rw [hd2]; rfl, List.nodup_nil, fun _ h => (by cases h), fun x hx => (by cases hx)⟩
        have hs4 := hs3.put (dst := d.o.dst) .und
        have hf12 : Fr C σ.next ρ σ.H w ρ2 (σ2.put d.o.dst .und).H w2 := by rw [St.put_H]; exact hf1.trans hn1 hf2.wh
        have hn12 : σ.next ≤ (σ2.put d.o.dst .und).next := by rw [St.put_next]; exact Nat.le_trans hn1 hn2
        refine wpIn_mono (hX _ _ _ _ hq (C.wh C.lo C.hlo [defOf g vc] none) hC ρ2 _ w2 hs4 none ⟨rfl, rfl⟩) ?_
        rintro e a3 w3 ⟨ρ3, σ3, h3, h4, h5, h6⟩
        have hm1 : MRel C ρ2 (σ2.put d.o.dst .und).H (σ2.put d.o.dst .und).next w2 := hs4.m.un
        have hcp : VRs C ρ2 (σ2.put d.o.dst .und).H w2 caps vc := by rw [St.put_H]; exact hh2.un
        cases e with
        | normal => exact leave_sound hG hmix hΓ hcall .none (by simp) rfl hC hlo hm1 hcp hf12 hn12 h5.wh h6 h4 (fun _ => .nili) h3
        | ret => exact leave_sound hG hmix hΓ hcall .none (by simp) rfl hC hlo hm1 hcp hf12 hn12 h5.wh h6 h4 (fun _ => .nili) h3
        | panic ch =>
          · simp only [leaveQ] at h3
            obtain ⟨x, hx, h7⟩ := ofChainP_of h3
            clear h3
            obtain ⟨v, rfl, -⟩ := ofChain_vr (C := C) (ρ := ρ3) (H := σ3.H) (w := w3) hx
            refine leave_sound hG hmix hΓ hcall (.some v []) (by simp) rfl hC hlo hm1 hcp hf12 hn12 h5.wh h6 h4 (fun w' => ?_) h7
            obtain ⟨v', e', hv'⟩ := ofChain_vr (C := C) (ρ := ρ3) (H := σ3.H) (w := w') hx
            injection e' with e' _
            injection e' with e' _
            rw [e']
            exact hv'
        | _ => exact h3.elim
    · obtain ⟨_, _, hq, _⟩ := hr
      exact hq.elim
  have first : (∀ {B : Code}, (∀ (ρ1 : Nat → Nat) (σ1 : St) (a1 : Act) (w1 : World), execSeq P Γ call d.ops1 d.ops1.toList.dropLast σ1 (onGo (restS X P G Γ call d (retP P fn Kr Kp))) → SRel (C.wh C.lo C.hlo [] (some [])) ρ1 σ1 a1 w1 → Fr C σ.next ρ σ.H w ρ1 σ1.H w1 → σ.next ≤ σ1.next →
      B.wpIn (wideR none) 0 P (bodyPostM (wideR none) 0 P fn (EndS C σ ρ w Kr Kp)) a1 w1) → (Code.seq (.region i d.ops0 false) B).wpIn (wideR none) 0 P (bodyPostM (wideR none) 0 P fn (EndS C σ ρ w Kr Kp)) a w) := by
    intro B hB
    refine wpIn_seq (wpIn_region_list (execSeq_sound (C := C.wh C.lo C.hlo [] (some [])) hG hC hΓ hcall _ hs0 h (fun a1 w1 hr => ?_) (fun ch a1 w1 hr => ?_) none))
    · obtain ⟨ρ1, σ1, hq, hs1, hf1, hn1⟩ := hr
      exact hB ρ1 σ1 a1 w1 hq hs1 hf1.wh hn1
    · obtain ⟨_, _, hq, _⟩ := hr
      exact hq.elim
  rcases hcode with rfl | rfl
  · exact first fun ρ1 σ1 a1 w1 h1 h2 h3 h4 => wpIn_scope (main ρ1 σ1 a1 w1 h1 h2 h3 h4)
  · refine first fun ρ1 σ1 a1 w1 h1 h2 h3 h4 => wpIn_mono (main ρ1 σ1 a1 w1 h1 h2 h3 h4) ?_
    intro e a2 w2 hq
    cases e <;> first | exact hq | exact hq.elim

theorem body_sound (hG : GMono G) (hmix : P.follows .mixedOrders = true) {Γ : Cons} (hΓ : Γ.ok P G) {call : CallT} (hcall : CallSat P G call) {fn : Func} {code : Code} {σ : St} {Kr : List AV → St → Prop} {Kp : List PanicEntry → St → Prop}
    (h : execB P G Γ call code σ (retP P fn Kr Kp)) : BSat P G fn code σ Kr Kp := by
  intro C hC ρ a w hs hu hmk hlo hds
  rcases h with h | ⟨d, hd, h⟩
  · exact body_plain (exec_sound hG hmix hΓ hcall code _ _ h) hC hs hu hmk hlo
  · exact body_defer hG hmix hΓ hcall (fun _ c σ Q => exec_sound hG hmix hΓ hcall c σ Q) hd h hC hs hlo hds

theorem callX_sat {XB : FuncId → Code → St → (Exit → St → Prop) → Prop} {XL : Nat → ExecT} (hB : ∀ f fn code σ Kr Kp, XB f code σ (retP P fn Kr Kp) → BSat P G fn code σ Kr Kp) (hL : ∀ l q c σ Q, XL l q c σ Q → Sat P G (some l) c σ Q) : CallSat P G (callX XB XL P) := by
    refine ⟨fun f args H next K h C ρ w vs hC hm hv => ?_, fun l args H next K h C ρ w vs hC hm hv => ?_⟩
    · simp only [callX] at h
      split at h
      · rename_i fn hf
        split at h
        · rename_i code hb
          obtain ⟨he, hle, hex⟩ := h
          have hw0 : C.w0.heap.size ≤ w.heap.size := hm.below.size
          refine ⟨he, (callsIn_wideR (r := none) (n := 0)).1 (CallsIn.mono (callsIn_of_wp_marks (F := wideR none) (n := 0) hf hb trivial (hB _ _ _ _ _ _ hex (C.at w.heap.size hw0) hC _ _ _ (entry_rel rfl rfl hm.at (Nat.le_refl _) hv.at (Nat.le_of_ble_eq_true hle)) rfl rfl rfl rfl)) ?_)⟩
          rintro e w' (⟨ρ', σ', l, us, k1, k2, k3, k4, k5, rfl⟩ | ⟨ρ', σ', ch, k1, k2, k4, k5, rfl⟩)
          · unfold callQ at k1
            split at k1
            · rename_i hpn
              exact ⟨ρ', _, _, _, k1, k2.back, k4.back, k5, Or.inl ⟨_, rfl, hpn, (resAV_sound k3).back⟩⟩
            · exact k1.elim
          · simp only [callP] at k1
            obtain ⟨x, hx, k1⟩ := ofChainP_of k1
            exact ⟨ρ', _, _, _, k1, k2.back, k4.back, k5, Or.inr ⟨x, ch, rfl, ofChain_chain hx, rfl⟩⟩
        · exact h.elim
      · exact h.elim
    · simp only [callX] at h
      split at h
      · rename_i r hfind
        split at h
        · rename_i hlen
          have hlen := beq_true hlen
          have hkey := mem_keys (Heap.find_mem hfind)
          have hlt := hm.lt l hkey
          obtain ⟨fn, tmps, dd, g1, g2, g3⟩ := hm.mem _ _ (Heap.find_mem hfind)
          have hvl := hv.length
          have hw0 : C.w0.heap.size ≤ w.heap.size := hm.below.size
          refine ⟨fn, _, r.assign, r.body, run_yield g1 (by simp; omega), roundIn_of_wpIn trivial ?_⟩
          have hs0 : SRel (C.at w.heap.size hw0) ρ { slots := r.slots, H := H, next := next, n := r.n } { tmps := tmps, defers := [] } w := ⟨hm.at, fun t => (g3 t).at, g2, Dfs.nil (Nat.le_refl _) rfl rfl⟩
          obtain ⟨hs1, hH1, hn1⟩ := bindS_rel r.ps.toList args vs _ _ hs0 hv.at
          have htm : (r.ps.zip (⟨vs⟩ : Array Value)).foldl (fun t (x : Nat × Value) => t.setIfInBounds x.1 x.2) tmps = (r.ps.toList.zip vs).foldl (fun t x => t.setIfInBounds x.1 x.2) tmps := by
            rw [← Array.foldl_toList, Array.toList_zip]
          have hs1' : SRel (C.at w.heap.size hw0) ρ (bindS { slots := r.slots, H := H, next := next, n := r.n } r.ps.toList args) { tmps := (r.ps.zip (⟨vs⟩ : Array Value)).foldl (fun t (x : Nat × Value) => t.setIfInBounds x.1 x.2) tmps, defers := [] } w := by
            rw [htm]; exact hs1
          refine wpIn_mono (hL _ _ _ _ _ h (C.at w.heap.size hw0) hC ρ _ w hs1' (some (ρ l)) ⟨by rw [hn1]; exact hlt, fun _ => rfl⟩) ?_
          rintro e a1 w1 ⟨ρ1, σ1, k1, k2, k3, k4⟩
          rw [hH1, hn1] at k3
          rw [hn1] at k4
          cases e with
          | normal =>
            simp only [bodyQ] at k1
            split at k1
            · rename_i r1 hf1
              split at k1
              · rename_i hst
                have hkey1 := mem_keys (Heap.find_mem hf1)
                have hρ1 := (k3.keys l hlt hkey1).2
                obtain ⟨fn1, tmps1, d1, b1, b2, b3⟩ := k2.m.mem _ _ (Heap.find_mem hf1)
                have hbr := run_beginRound (P := P) b1 hst
                obtain ⟨hm2, hext2⟩ := k2.m.turn hf1 .busy r1.pend b1 b2 b3
                rw [hρ1] at hbr hm2 hext2
                refine ⟨_, hbr, ?_⟩
                have hfr2 := hext2.fr (n := σ1.next) (fun k _ hk => by rwa [Heap.keys_up] at hk)
                have hs2 := k2.frame (next' := σ1.next) hm2 hfr2 (fun k hk => by rw [Heap.keys_up]; exact hk)
                refine wpIn_mono (hL _ _ _ _ _ k1 (C.at w.heap.size hw0) hC ρ1 _ _ hs2 (some (ρ l)) ⟨Nat.lt_of_lt_of_le hlt k4, fun _ => by rw [hρ1]⟩) ?_
                rintro e a3 w3 ⟨ρ3, σ3, m1, m2, m3, m4⟩
                unfold endQ at m1
                split at m1
                · rename_i j hj
                  split at m1
                  · rename_i r3 hf3
                    have hkey3 := mem_keys (Heap.find_mem hf3)
                    have hρ3 : ρ3 l = ρ l := (m3.keys l (Nat.lt_of_lt_of_le hlt k4) hkey3).2.trans hρ1
                    obtain ⟨fn3, tmps3, d3, c1, c2, c3⟩ := m2.m.mem _ _ (Heap.find_mem hf3)
                    have hend := run_endRound (P := P) j c1
                    have hrs : roundEnd j = (if j.isNone then .ready else .done) := by cases j <;> rfl
                    obtain ⟨hm4, hext4⟩ := m2.m.turn hf3 (roundEnd j) j c1 c2 c3
                    rw [hρ3] at hend hm4 hext4
                    rw [hrs] at hm4 hext4 m1
                    have f2 : Fr (C.at w.heap.size hw0) σ1.next ρ1 σ1.H w1 ρ3 σ3.H w3 := hfr2.trans (Nat.le_refl _) m3
                    have f3 := hext4.fr (n := σ3.next) (fun k _ hk => by rwa [Heap.keys_up] at hk)
                    have hfr := ((k3.trans k4 f2).trans (n' := σ3.next) (Nat.le_trans k4 m4) f3).back
                    generalize w3.putObj (ρ l) (.loop { state := if j.isNone then .ready else .done, pending := j, fn := fn3, tmps := tmps3, params := r3.ps, assign := r3.assign, body := r3.body, defers := d3 }) = W4 at hend hm4 hfr
                    have hce : CallEnd C ρ H next w K (.returned (.bool j.isNone)) W4 := ⟨ρ3, _, _, _, m1, hm4.back, hfr, Nat.le_trans k4 m4, Or.inl ⟨_, rfl, rfl, vr_bool⟩⟩
                    cases e with
                    | normal => injection hj with hj; subst hj; exact ⟨_, _, hend, hce⟩
                    | ret => injection hj with hj; subst hj; exact ⟨_, _, hend, hce⟩
                    | exit id => injection hj with hj; subst hj; exact ⟨_, _, hend, hce⟩
                    | _ => cases hj
                  · exact m1.elim
                · exact m1.elim
              · exact k1.elim
            · exact k1.elim
          | _ => exact k1.elim
        · exact h.elim
      · exact h.elim

theorem callS_sat (hG : GMono G) (hmix : P.follows .mixedOrders = true) {Γ : Cons} (hΓ : Γ.ok P G) {call : CallT} (hcall : CallSat P G call) : CallSat P G (callS P G Γ call) :=
  callX_sat (fun _ _ _ _ _ _ h => body_sound hG hmix hΓ hcall h) (fun _ _ c σ Q h => exec_sound hG hmix hΓ hcall c σ Q h)

theorem callD_sat (hG : GMono G) (hmix : P.follows .mixedOrders = true) {Γ : Cons} (hΓ : Γ.ok P G) : ∀ d, CallSat P G (callD P G Γ d)
  | 0 => ⟨fun _ _ _ _ _ h => h.elim, fun _ _ _ _ _ h => h.elim⟩
  | d + 1 => callS_sat hG hmix hΓ (callD_sat hG hmix hΓ d)

/-- A contract, out of the body's evaluation. -/
theorem con_of_body {f : FuncId} {fn : Func} {code : Code} (hf : P.funcs[f]? = some fn) (hb : fn.body = some code) (he : enters P f = true)
    (c : Con) (hce : c.err = false) (hn : ∀ x, c.pre x → Nat.ble (argAVs c.args x).length fn.ntmps = true)
    (hex : ∀ x : c.args.T, Wf c.args x → c.pre x → BSat P G fn code { slots := numbered 0 (argAVs c.args x), H := [], next := 0, n := fn.ntmps } (finQ c.res (c.fn x)) fun _ _ => False) : c.ok P G f := by
  refine Con.ok_plain hce ⟨he, fun w ok vs x hGw hok hvs hp => (callsIn_wideR (r := none) (n := 0)).1 ?_⟩
  generalize hC : ({ w0 := w, okA := ok, lt := hok, lo := w.heap.size, hlo := Nat.le_refl _ } : Ctx) = C
  have hCw : C.w0 = w := by rw [← hC]
  have hCu : C.us = [] := by rw [← hC]
  have hCm : C.mks = none := by rw [← hC]
  have hClo : C.lo = w.heap.size := by rw [← hC]
  have hokA : C.okA = ok := by rw [← hC]
  have hm : MRel C (fun _ => 0) [] 0 w := ⟨by rw [hCw]; exact Below.refl _ _, List.nodup_nil, (by intro k hk; cases hk), (by intro k hk; cases hk), (by intro k hk; cases hk), (by intro k b hk; cases hk)⟩
  have hkk : ∀ b, ok b → Ok C (fun _ => 0) [] w b := fun b hb => ⟨Or.inl (by rw [hokA]; exact hb), hok b hb, (by intro k hk; cases hk)⟩
  refine CallsIn.mono (callsIn_of_wp_marks (F := wideR none) (n := 0) hf hb trivial (hex x hvs.wf hp C (by rw [hCw]; exact hGw) _ _ _ (entry_rel hCu hCm hm (by rw [hClo]; exact Nat.le_refl _) (RdVs.args hkk _ _ _ hvs) (Nat.le_of_ble_eq_true (hn x hp))) hCu hCm hClo rfl)) ?_
  rintro e w'' (⟨ρ', σ', l, us, k1, k2, k3, k4, k5, rfl⟩ | ⟨_, _, _, k1, _⟩)
  · refine ⟨us, rfl, ?_, by have := k2.below; rw [hCw] at this; exact this⟩
    unfold finQ at k1
    split at k1
    · rename_i z hz
      subst k1
      have h5 := toRes_sound _ _ _ _ hz (VRs.map (fun x v hx => lend_all k2 hx) k3)
      have mono : ∀ (t : Ty) (x : t.T) (vs : List Value), RdVs (Ok C ρ' [] w'') w'' t x vs → RdVs (okNew ok w w'') w'' t x vs := by
        intro t
        induction t with
        | unit => intro x vs h; exact h
        | pair t u _ ihu =>
          rintro x vs ⟨v, us, e, h6, h7⟩
          refine ⟨v, us, e, h6.mono (fun b hb => ⟨?_, rfl⟩), ihu _ _ h7⟩
          rcases hb.1 with h | h
          · exact Or.inl (by rw [hokA] at h; exact h)
          · exact Or.inr ⟨by rw [hCw] at h; exact h, hb.2.1⟩
        | _ => intro x vs h; exact h.elim
      exact mono _ _ _ h5
    · exact k1.elim
  · exact k1.elim

theorem con_of_exec (hG : GMono G) (hmix : P.follows .mixedOrders = true) {Γ : Cons} (hΓ : Γ.ok P G) {f : FuncId} {fn : Func} {code : Code} (hf : P.funcs[f]? = some fn) (hb : fn.body = some code) (he : enters P f = true)
    (c : Con) (hce : c.err = false) (d : Nat) (hn : ∀ x, Nat.ble (argAVs c.args x).length fn.ntmps = true)
    (hex : ∀ x : c.args.T, Wf c.args x → c.pre x → exec P G Γ (callD P G Γ d) none code { slots := numbered 0 (argAVs c.args x), H := [], next := 0, n := fn.ntmps } (retQ P fn (finQ c.res (c.fn x)))) : c.ok P G f :=
  con_of_body hf hb he c hce (fun x _ => hn x) (fun x h1 h2 => body_sound hG hmix hΓ (callD_sat hG hmix hΓ d) (Or.inl (hex x h1 h2)))

end
end Go.Vg
