/-
  An evaluator of Go code over plain data, proved sound against the model. Own work; no condition.
-/
import Derived.Test.YtebeijpmpjpgcaaGreatDoorClE4
set_option linter.unusedVariables false
set_option linter.unusedSimpArgs false
namespace Go.Vg
open Go Go.RowKit
def awY (o : Oper) : Option Operand :=
 match o.op, o.guard with
 | .defer { callee := .value f, args, .. }, none => match args.toList with
  | [] => some f
  | _ => none
 | _, _ => none
def aDZ : List Oper → Option (Oper × Operand)
 | [] => none
 | [o] => match awY o with
  | some f => some (o, f)
  | none => none
 | _ :: r => aDZ r
structure DefB where
 p : Nat
 ops0 : Array Oper
 ops1 : Array Oper
 o : Oper
 f : Operand
 rest : Code
def aB5 (p : Nat) (ops0 : Array Oper) : Code → Option DefB
 | .seq (.region _ ops1 false) r => match aDZ ops1.toList with
  | some x => some ⟨p, ops0, ops1, x.1, x.2, r⟩
  | none => none
 | _ => none
def ajK : Code → Option DefB
 | .seq (.region _ ops0 false) (.scope c) => aB5 13 ops0 c
 | .seq (.region _ ops0 false) c => aB5 7 ops0 c
 | _ => none
structure ClosB where
 gn : Func
 ops : Array Oper
 o : Oper
 rest : List Oper
 B : Code
def al4 : List Oper → Bool
 | [] => true
 | o :: r => agL o && al4 r
def aC0 (P : Program) (g : FuncId) : Option ClosB :=
 match P.funcs[g]? with
 | some gn => match gn.body with
  | some (.seq (.region _ ops false) B) => match ops.toList with
   | o :: r => match ahC o && al4 r && Nat.beq gn.results.size 0 && ac1 P g with
    | true => some ⟨gn, ops, o, r, B⟩
    | false => none
   | [] => none
  | _ => none
 | none => none
def aNI (A : St → Prop) : Fi → Prop
 | .go σ => A σ
 | .pan _ _ => False
def an4 (Y : aAA) (P : Program) (Γ : Cons) (call : acI) (g : FuncId) (caps : List AV) (Q : Exit → St → Prop) (x : AV) (σ : St) : Prop :=
 match aC0 P g with
 | some c => Nat.ble caps.length c.gn.ntmps = true ∧
   abM P Γ call c.ops c.rest (({ slots := acW 0 (AV.maps (abY σ.H) ae3 caps), H := σ.H, next := σ.next + 1, n := c.gn.ntmps } : St).put c.o.dst x)
    (aOi Y σ.next c.B fun H' n' => Q .ret { slots := abL (abY H') ae3 σ.slots, H := H', next := n', n := σ.n })
 | none => False
def aGy (Y : aAA) (P : Program) (Γ : Cons) (call : acI) (g : FuncId) (caps : List AV) (Q : Exit → St → Prop) : Exit → St → Prop
 | .normal, σ => an4 Y P Γ call g caps Q .nili σ
 | .ret, σ => an4 Y P Γ call g caps Q .nili σ
 | .panic ch, σ => alI ch fun x => an4 Y P Γ call g caps Q x σ
 | _, _ => False
abbrev aIc := Nat → Code → St → (Exit → St → Prop) → Prop
def aDt (X : aIc) (Y : aAA) (P : Program) (Γ : Cons) (call : acI) (d : DefB) (Q : Exit → St → Prop) (σ : St) : Prop :=
 match σ.eval d.f with
 | .fn g [] caps => X d.p d.rest (σ.put d.o.dst .und) (aGy Y P Γ call g caps Q)
 | _ => False
def aMh (X : aIc) (Y : aAA) (P : Program) (Γ : Cons) (call : acI) (d : DefB) (σ : St) (Q : Exit → St → Prop) : Prop :=
 abM P Γ call d.ops0 d.ops0.toList σ (aNI fun σ => abM P Γ call d.ops1 d.ops1.toList.dropLast σ (aNI (aDt X Y P Γ call d Q)))
def aMi (P : Program) (G : World → Prop) (Γ : Cons) (call : acI) (c : Code) (σ : St) (Q : Exit → St → Prop) : Prop :=
 exec P G Γ call none c σ Q ∨ ∃ d, ajK c = some d ∧ aMh (fun _ => exec P G Γ call none) (fun l => exec P G Γ call (some l)) P Γ call d σ Q
def aAh (XB : FuncId → Code → St → (Exit → St → Prop) → Prop) (XL : Nat → aIc) (P : Program) : acI := fun t args H next K => match t with
 | .fn f => match P.funcs[f]? with
  | some fn => match fn.body with
   | some code => ac1 P f = true ∧ Nat.ble args.length fn.ntmps = true ∧
     XB f code { slots := acW 0 args, H := H, next := next, n := fn.ntmps } (aIi P fn (aKd K) (aOk K))
   | none => False
  | none => False
 | .yld l => match H.find l with
  | some (.loop r) => match Nat.beq args.length r.ps.size with
   | true => XL l 2 r.assign (anK { slots := r.slots, H := H, next := next, n := r.n } r.ps.toList args)
     (aMr l fun σ => XL l 3 r.body σ (aPf l K))
   | false => False
  | _ => False
def aBM (P : Program) (G : World → Prop) (Γ : Cons) (call : acI) : acI :=
 aAh (fun _ => aMi P G Γ call) (fun l _ => exec P G Γ call (some l)) P
section
variable {C : Ctx} {P : Program} {G : World → Prop}
theorem Fr.wh {ρ ρ' : Nat → Nat} {H H' : Heap} {w w' : World} {m n : Nat} {hn : C.w0.heap.size ≤ n} {us : List Deferred} {ms : Option (List Nat)} (h : Fr (C.wh n hn us ms) m ρ H w ρ' H' w') : Fr C m ρ H w ρ' H' w' :=
 ⟨h.data, h.keys, h.rows, h.size⟩
theorem VR.un {ρ : Nat → Nat} {H : Heap} {w : World} {n : Nat} {hn : C.w0.heap.size ≤ n} {us : List Deferred} {ms : Option (List Nat)} {x : AV} {v : Value} (h : VR (C.wh n hn us ms) ρ H w x v) : VR C ρ H w x v :=
 VR.wh (C := C.wh n hn us ms) (n := C.lo) (hn := C.hlo) (us := C.us) (ms := C.mks) h
theorem VRs.un {ρ : Nat → Nat} {H : Heap} {w : World} {n : Nat} {hn : C.w0.heap.size ≤ n} {us : List Deferred} {ms : Option (List Nat)} {xs : List AV} {vs : List Value} (h : VRs (C.wh n hn us ms) ρ H w xs vs) : VRs C ρ H w xs vs :=
 VRs.wh (C := C.wh n hn us ms) (n := C.lo) (hn := C.hlo) (us := C.us) (ms := C.mks) h
theorem MRel.un {ρ : Nat → Nat} {H : Heap} {next : Nat} {w : World} {n : Nat} {hn : C.w0.heap.size ≤ n} {us : List Deferred} {ms : Option (List Nat)} (h : MRel (C.wh n hn us ms) ρ H next w) : MRel C ρ H next w :=
 MRel.wh (C := C.wh n hn us ms) (n := C.lo) (hn := C.hlo) (us := C.us) (ms := C.mks) h
theorem Fr.shut {ρ ρ' : Nat → Nat} {H H' : Heap} {w w' w'' : World} {n : Nat} (h : Fr C n ρ H w ρ' H' w') (h1 : ∀ b, b < w.heap.size → w''.heap[b]? = w'.heap[b]?) (h2 : ∀ k ∈ H'.keys, w''.heap[ρ' k]? = w'.heap[ρ' k]?) (h3 : w''.heap.size = w'.heap.size) : Fr C n ρ H w ρ' H' w'' := by
 refine ⟨fun b hb => ?_, h.keys, fun k e t l hk hk1 hk2 => ?_, by rw [h3]; exact h.size⟩
 ·obtain ⟨g1, g2⟩ := h.data b hb
  exact ⟨⟨g1.1, by rw [h3]; exact g1.2.1, g1.2.2⟩, (h1 b hb.2.1).trans g2⟩
 ·obtain ⟨l', g1, g2, g3⟩ := h.rows k e t l hk hk1 hk2
  refine ⟨l', g1, g2, fun c fr hc => ?_⟩
  obtain ⟨c', fr', g4, g5⟩ := g3 c fr hc
  exact ⟨c', fr', by rw [← (h.keys k hk hk2).2, h2 k hk2, (h.keys k hk hk2).2]; exact g4, g5⟩
theorem Fr.vr {ρ ρ' : Nat → Nat} {H H' : Heap} {next next' : Nat} {w w' : World} (hm : MRel C ρ H next' w) (hn : next' ≤ next) (h : Fr C next ρ H w ρ' H' w') {x : AV} {v : Value} (hx : VR C ρ H w x v) : VR C ρ' H' w' (x.map (abY H') ae3) v :=
 VR.map h.data (fun k hk hp => ⟨hasKey_iff.1 hp, (h.keys k (zR (hm.lt k hk) hn) (hasKey_iff.1 hp)).2⟩) (fun k e t l hk hp => h.rows k e t l (zR (hm.lt k (aaI hk)) hn) hk (hasKey_iff.1 hp)) (fun _ _ _ _ _ _ => .no) hx
def aKm (C : Ctx) (σ : St) (ρ : Nat → Nat) (w : World) (Kr : List AV → St → Prop) (Kp : List PanicEntry → St → Prop) (e : Ending) (w' : World) : Prop :=
 (∃ ρ' σ' l vs, Kr l σ' ∧ MRel C ρ' σ'.H σ'.next w' ∧ VRs C ρ' σ'.H w' l vs ∧ Fr C σ.next ρ σ.H w ρ' σ'.H w' ∧ σ.next ≤ σ'.next ∧ e = .returned (aFj vs)) ∨
 ∃ ρ' σ' ch, Kp ch σ' ∧ MRel C ρ' σ'.H σ'.next w' ∧ Fr C σ.next ρ σ.H w ρ' σ'.H w' ∧ σ.next ≤ σ'.next ∧ e = .panicked ch
def aPm (P : Program) (G : World → Prop) (fn : Func) (code : Code) (σ : St) (Kr : List AV → St → Prop) (Kp : List PanicEntry → St → Prop) : Prop :=
 ∀ (C : Ctx), G C.w0 → ∀ (ρ : Nat → Nat) (a : Act) (w : World), SRel C ρ σ a w → C.us = [] → C.mks = none → C.lo = w.heap.size → a.defers = [] →
  code.wpIn (abI none) 0 P (bodyPostM (abI none) 0 P fn (aKm C σ ρ w Kr Kp)) a w
theorem au4 {fn : Func} {code : Code} {σ : St} {Kr : List AV → St → Prop} {Kp : List PanicEntry → St → Prop}
  (h : Sat P G none code σ (aIi P fn Kr Kp)) (hC : G C.w0) {ρ : Nat → Nat} {a : Act} {w : World} (hs : SRel C ρ σ a w) (hu : C.us = []) (hmk : C.mks = none) (hlo : C.lo = w.heap.size) :
  code.wpIn (abI none) 0 P (bodyPostM (abI none) 0 P fn (aKm C σ ρ w Kr Kp)) a w := by
 refine wpIn_mono (h C hC ρ a w hs none ⟨rfl, hmk⟩) ?_
 rintro e a' w' ⟨ρ', σ', h1, h2, h3, h4⟩
 have fin : (aIj P σ' fn.results.toList).holds (fun l => Kr l σ') → LeavesInM (abI none) 0 P fn a'.tmps (aKm C σ ρ w Kr Kp) a'.defers .returning w' := fun hh =>
  aLF hu hmk h2 hh (fun l us w'' k1 k2 k3 k4 k5 k6 => Or.inl ⟨ρ', σ', l, us, k1, k2, k3, h3.shut (by rw [hlo] at k4; exact k4) k5 k6, h4, rfl⟩)
 have finP : ∀ ch, Kp ch σ' → LeavesInM (abI none) 0 P fn a'.tmps (aKm C σ ρ w Kr Kp) a'.defers (.panicking ch) w' := by
  intro ch hk
  obtain ⟨hlo', ds, e1, e2, e3, -⟩ := h2.defers
  rw [e1, hu]
  show LeavesInM _ _ _ _ _ _ (_ ++ []) _ _
  refine ahV zh ds w' h2.m e2 e3 (fun w'' k2 k3 k4 k5 k6 => ?_)
  exact Or.inr ⟨ρ', σ', ch, hk, k2, h3.shut (by rw [hlo] at k4; exact k4) k5 k6, h4, rfl⟩
 cases e with
 | normal => exact fin h1
 | ret => exact fin h1
 | panic ch => exact finP ch h1
 | _ => exact h1.elim
theorem auK : ∀ {l : List Oper} {o : Oper} {f : Operand}, aDZ l = some (o, f) → l = l.dropLast ++ [o] ∧ awY o = some f
 | [], _, _, h => by cases h
 | [x], o, f, h => by
  simp only [aDZ] at h
  split at h
  ·rename_i f' hf
   injection h with h; injection h with h1 h2; subst h1; subst h2
   exact ⟨rfl, hf⟩
  ·cases h
 | x :: y :: r, o, f, h => by
  obtain ⟨h1, h2⟩ := auK (l := y :: r) h
  refine ⟨?_, h2⟩
  rw [List.dropLast_cons_cons, xB, ← h1]
theorem az5 {o : Oper} {f : Operand} (h : awY o = some f) : (∃ ts, o.op = .defer { callee := .value f, args := #[], argTypes := ts }) ∧ o.guard = none := by
 unfold awY at h
 split at h
 ·rename_i f' args ts ho hg
  split at h
  ·rename_i ha
   injection h with h; subst h
   have : args = #[] := by apply Array.ext'; exact ha
   subst this
   exact ⟨⟨_, ho⟩, hg⟩
  ·cases h
 ·cases h
theorem apS {p : Nat} {ops0 : Array Oper} {c : Code} {d : DefB} (h : aB5 p ops0 c = some d) : d.ops0 = ops0 ∧ (∃ i, c = .seq (.region i d.ops1 false) d.rest) ∧ aDZ d.ops1.toList = some (d.o, d.f) := by
 unfold aB5 at h
 split at h
 ·split at h
  ·rename_i x hx
   injection h with h; subst h
   exact ⟨rfl, ⟨_, rfl⟩, hx⟩
  ·cases h
 ·cases h
theorem awZ {c : Code} {d : DefB} (h : ajK c = some d) : aDZ d.ops1.toList = some (d.o, d.f) ∧ ∃ i j, c = .seq (.region i d.ops0 false) (.scope (.seq (.region j d.ops1 false) d.rest)) ∨ c = .seq (.region i d.ops0 false) (.seq (.region j d.ops1 false) d.rest) := by
 unfold ajK at h
 split at h
 ·obtain ⟨rfl, ⟨i, rfl⟩, h3⟩ := apS h
  exact ⟨h3, _, _, Or.inl rfl⟩
 ·obtain ⟨rfl, ⟨i, rfl⟩, h3⟩ := apS h
  exact ⟨h3, _, _, Or.inr rfl⟩
 ·cases h
theorem aBK {g : FuncId} {c : ClosB} (h : aC0 P g = some c) : P.funcs[g]? = some c.gn ∧ (∃ id, c.gn.body = some (.seq (.region id c.ops false) c.B)) ∧ c.ops.toList[0]? = some c.o ∧ c.ops.toList.drop 1 = c.rest ∧ ahC c.o = true ∧ (∀ x ∈ c.rest, agL x = true) ∧ c.gn.results = #[] ∧ ac1 P g = true := by
 unfold aC0 at h
 split at h
 ·rename_i gn hg
  split at h
  ·rename_i id ops B hb
   split at h
   ·rename_i o r hl
    split at h
    ·rename_i hc
     injection h with h; subst h
     simp only [zj] at hc
     have hall : ∀ (l : List Oper), al4 l = true → ∀ x ∈ l, agL x = true := by
      intro l
      induction l with
      | nil => intro _ x hx; cases hx
      | cons y r ih =>
       intro h x hx
       simp only [al4, zj] at h
       rcases zo.1 hx with rfl | hx
       ·exact h.1
       ·exact ih h.2 x hx
     refine ⟨hg, ⟨id, hb⟩, by simp [hl], by simp [hl], hc.1.1.1, hall _ hc.1.1.2, ?_, hc.2⟩
     exact Array.eq_empty_of_size_eq_zero (aaD hc.1.2)
    ·cases h
   ·cases h
  ·cases h
 ·cases h
theorem aqO (p : Nat → Bool) (f : Nat → Nat → Nat → AV) : ∀ l : List AV, (AV.maps p f l).length = l.length
 | [] => rfl
 | _ :: r => congrArg Nat.succ (aqO p f r)
theorem akP (hG : adG G) {Γ : Cons} (hΓ : Γ.ok P G) {call : acI} (hcall : CallSat P G call) {Y : aAA} (hY : ∀ l c σ Q, Y l c σ Q → Sat P G (some l) c σ Q) {fn : Func} {σ0 σ1 σ : St} {Kr : List AV → St → Prop} {Kp : List PanicEntry → St → Prop} {g : FuncId} {caps : List AV} {vc : List Value} {x : AV} {v : Value} {u u' : FrameMode}
  (hrec : Rec u v u') (hu : u ≠ .run) (hset : settle u' = .returning) (hC : G C.w0) {ρ0 ρ1 ρ : Nat → Nat} {a : Act} {w0 w1 w : World} (hlo : C.lo = w0.heap.size)
  (hm1 : MRel C ρ1 σ1.H σ1.next w1) (hcaps : VRs C ρ1 σ1.H w1 caps vc) (hf0 : Fr C σ0.next ρ0 σ0.H w0 ρ1 σ1.H w1) (hn0 : σ0.next ≤ σ1.next) (hf1 : Fr C σ1.next ρ1 σ1.H w1 ρ σ.H w) (hn1 : σ1.next ≤ σ.next)
  (hs : SRel (C.wh C.lo C.hlo [atE g vc] none) ρ σ a w) (hx : ∀ w', VR C ρ σ.H w' x v) (h : an4 Y P Γ call g caps (aIi P fn Kr Kp) x σ) :
  LeavesInM (abI none) 0 P fn a.tmps (aKm C σ0 ρ0 w0 Kr Kp) a.defers u w := by
 unfold an4 at h
 split at h
 case h_2 => exact h.elim
 rename_i c hc
 obtain ⟨g1, ⟨id, g2⟩, g3, g4, g5, g6, g7, g8⟩ := aBK hc
 obtain ⟨hble, hex⟩ := h
 obtain ⟨hlo', ds, e1, e2, e3, -⟩ := hs.defers
 rw [e1]
 show LeavesInM _ _ _ _ _ _ (_ ++ [atE g vc]) _ _
 refine ahV hu ds w hs.m e2 e3 (fun w2 k2 k3 k4 k5 k6 => ?_)
 have hcap2 : VRs C ρ σ.H w2 (AV.maps (abY σ.H) ae3 caps) vc := VRs.map (fun y u hy => (k3 _ _ (Fr.vr hm1 (zi _) hf1 hy).wh).un) hcaps
 rw [← g4] at hex
 refine atA hu g8 (aEp (C := C) (u := u) (u' := u') hG hC hΓ hcall hY g1 g2 g3 g5 (by rw [g4]; exact g6) g7 k2.un hcap2 (by rw [aqO]; exact hble) hrec (hx w2) hex) ?_
 rintro w3 ⟨ρ3, H3, n3, hK, hm3, hf3, hn3⟩
 rw [hset]
 have hf01 : Fr C σ0.next ρ0 σ0.H w0 ρ σ.H w := hf0.trans hn0 hf1
 have hf2 : Fr C σ0.next ρ0 σ0.H w0 ρ σ.H w2 := hf01.shut (fun b hb => k4 b (by show b < C.lo; rw [hlo]; exact hb)) k5 k6
 have hf3' : Fr C σ0.next ρ0 σ0.H w0 ρ3 H3 w3 := hf2.trans (zu hn0 hn1) hf3
 have hle : C.lo ≤ w3.heap.size := by rw [hlo]; exact hf3'.size
 have hs3 : SRel (C.wh C.lo C.hlo [] none) ρ3 { slots := abL (abY H3) ae3 σ.slots, H := H3, next := n3, n := σ.n } { a with defers := [] } w3 :=
  ⟨hm3.wh, fun t => by rw [alT]; exact (Fr.vr k2.un (zi _) hf3 (k3 _ _ (hs.slots t)).un).wh, hs.size, Dfs.nil hle rfl rfl⟩
 obtain ⟨l, hl1, hl2⟩ := T.leaf (show (aIj P _ fn.results.toList).holds _ from hK)
 obtain ⟨us, q1, q2⟩ := ai9 (P := P) hs3 _ _ hl1
 exact ⟨_, ap0 q1, Or.inl ⟨ρ3, _, l, us, hl2, hm3, q2.un, hf3', zu hn0 (zu hn1 hn3), rfl⟩⟩
theorem au5 (hG : adG G) {Γ : Cons} (hΓ : Γ.ok P G) {call : acI} (hcall : CallSat P G call) {X : aIc} (hX : ∀ p c σ Q, X p c σ Q → Sat P G none c σ Q) {Y : aAA} (hY : ∀ l c σ Q, Y l c σ Q → Sat P G (some l) c σ Q) {fn : Func} {code : Code} {d : DefB} (hd : ajK code = some d) {σ : St} {Kr : List AV → St → Prop} {Kp : List PanicEntry → St → Prop}
  (h : aMh X Y P Γ call d σ (aIi P fn Kr Kp)) (hC : G C.w0) {ρ : Nat → Nat} {a : Act} {w : World} (hs : SRel C ρ σ a w) (hlo : C.lo = w.heap.size) (hds : a.defers = []) :
  code.wpIn (abI none) 0 P (bodyPostM (abI none) 0 P fn (aKm C σ ρ w Kr Kp)) a w := by
 obtain ⟨hlast, i, j, hcode⟩ := awZ hd
 obtain ⟨hl, hdo⟩ := auK hlast
 obtain ⟨⟨ts, ho⟩, hg⟩ := az5 hdo
 have hs0 : SRel (C.wh C.lo C.hlo [] (some [])) ρ σ a w := ⟨hs.m.wh, fun t => (hs.slots t).wh, hs.size, by show C.lo ≤ _; rw [hlo]; exact zi _, [], by rw [hds]; rfl, xL, fun _ h => (by cases h), fun x hx => Option.some.inj hx⟩
 have main : ∀ (ρ1 : Nat → Nat) (σ1 : St) (a1 : Act) (w1 : World), abM P Γ call d.ops1 d.ops1.toList.dropLast σ1 (aNI (aDt X Y P Γ call d (aIi P fn Kr Kp))) → SRel (C.wh C.lo C.hlo [] (some [])) ρ1 σ1 a1 w1 → Fr C σ.next ρ σ.H w ρ1 σ1.H w1 → σ.next ≤ σ1.next →
   (Code.seq (.region j d.ops1 false) d.rest).wpIn (abI none) 0 P (aK7 (bodyPostM (abI none) 0 P fn (aKm C σ ρ w Kr Kp))) a1 w1 := by
  intro ρ1 σ1 a1 w1 hx hs1 hf1 hn1
  refine wpIn_seq (wpIn_region_list ?_)
  rw [hl]
  refine akO _ _ _ (adU (C := C.wh C.lo C.hlo [] (some [])) hG hC hΓ hcall _ hs1 hx (fun a2 w2 hr => ?_) (fun ch a2 w2 hr => ?_) none)
  ·obtain ⟨ρ2, σ2, hq, hs2, hf2, hn2⟩ := hr
   simp only [aNI, aDt] at hq
   split at hq
   case h_2 => exact hq.elim
   rename_i g caps hfv
   have hev := hs2.eval d.f
   rw [hfv] at hev
   generalize hvf : a2.eval d.f = vf at hev
   cases hev with
   | @fn _ _ _ vff vc hh1 hh2 =>
    cases hh1
    refine aDV ho hg hvf ?_
    have hd2 : a2.defers = [] := by
     obtain ⟨-, ds, e1, -, -, e2⟩ := hs2.defers
     have : ds = [] := e2 [] rfl
     subst this
     exact e1
    have hlo2 : C.lo ≤ w2.heap.size := hs2.defers.1
    have hs3 : SRel (C.wh C.lo C.hlo [atE g vc] none) ρ2 σ2 { a2 with defers := atE g vc :: a2.defers } w2 :=
     ⟨hs2.m.un.wh, fun t => (hs2.slots t).un.wh, hs2.size, hlo2, [], by rw [hd2]; rfl, xL, fun _ h => (by cases h), fun x hx => (by cases hx)⟩
    have hs4 := hs3.put (dst := d.o.dst) .und
    have hf12 : Fr C σ.next ρ σ.H w ρ2 (σ2.put d.o.dst .und).H w2 := by rw [St.put_H]; exact hf1.trans hn1 hf2.wh
    have hn12 : σ.next ≤ (σ2.put d.o.dst .und).next := by rw [St.put_next]; exact zu hn1 hn2
    refine wpIn_mono (hX _ _ _ _ hq (C.wh C.lo C.hlo [atE g vc] none) hC ρ2 _ w2 hs4 none ⟨rfl, rfl⟩) ?_
    rintro e a3 w3 ⟨ρ3, σ3, h3, h4, h5, h6⟩
    have hm1 : MRel C ρ2 (σ2.put d.o.dst .und).H (σ2.put d.o.dst .und).next w2 := hs4.m.un
    have hcp : VRs C ρ2 (σ2.put d.o.dst .und).H w2 caps vc := by rw [St.put_H]; exact hh2.un
    cases e with
    | normal => exact akP hG hΓ hcall hY .none zh rfl hC hlo hm1 hcp hf12 hn12 h5.wh h6 h4 (fun _ => .nili) h3
    | ret => exact akP hG hΓ hcall hY .none zh rfl hC hlo hm1 hcp hf12 hn12 h5.wh h6 h4 (fun _ => .nili) h3
    | panic ch =>
     ·simp only [aGy] at h3
      obtain ⟨x, hx, h7⟩ := aqH h3
      clear h3
      obtain ⟨v, rfl, -⟩ := auA (C := C) (ρ := ρ3) (H := σ3.H) (w := w3) hx
      refine akP hG hΓ hcall hY (.some v []) zh rfl hC hlo hm1 hcp hf12 hn12 h5.wh h6 h4 (fun w' => ?_) h7
      obtain ⟨v', e', hv'⟩ := auA (C := C) (ρ := ρ3) (H := σ3.H) (w := w') hx
      injection e' with e' _
      injection e' with e' _
      rw [e']
      exact hv'
    | _ => exact h3.elim
  ·obtain ⟨_, _, hq, _⟩ := hr
   exact hq.elim
 have first : (∀ {B : Code}, (∀ (ρ1 : Nat → Nat) (σ1 : St) (a1 : Act) (w1 : World), abM P Γ call d.ops1 d.ops1.toList.dropLast σ1 (aNI (aDt X Y P Γ call d (aIi P fn Kr Kp))) → SRel (C.wh C.lo C.hlo [] (some [])) ρ1 σ1 a1 w1 → Fr C σ.next ρ σ.H w ρ1 σ1.H w1 → σ.next ≤ σ1.next →
   B.wpIn (abI none) 0 P (bodyPostM (abI none) 0 P fn (aKm C σ ρ w Kr Kp)) a1 w1) → (Code.seq (.region i d.ops0 false) B).wpIn (abI none) 0 P (bodyPostM (abI none) 0 P fn (aKm C σ ρ w Kr Kp)) a w) := by
  intro B hB
  refine wpIn_seq (wpIn_region_list (adU (C := C.wh C.lo C.hlo [] (some [])) hG hC hΓ hcall _ hs0 h (fun a1 w1 hr => ?_) (fun ch a1 w1 hr => ?_) none))
  ·obtain ⟨ρ1, σ1, hq, hs1, hf1, hn1⟩ := hr
   exact hB ρ1 σ1 a1 w1 hq hs1 hf1.wh hn1
  ·obtain ⟨_, _, hq, _⟩ := hr
   exact hq.elim
 rcases hcode with rfl | rfl
 ·exact first fun ρ1 σ1 a1 w1 h1 h2 h3 h4 => amH (main ρ1 σ1 a1 w1 h1 h2 h3 h4)
 ·refine first fun ρ1 σ1 a1 w1 h1 h2 h3 h4 => wpIn_mono (main ρ1 σ1 a1 w1 h1 h2 h3 h4) ?_
  intro e a2 w2 hq
  cases e <;> first | exact hq | exact hq.elim
theorem au3 (hG : adG G) (hmix : P.follows .mixedOrders = true) {Γ : Cons} (hΓ : Γ.ok P G) {call : acI} (hcall : CallSat P G call) {fn : Func} {code : Code} {σ : St} {Kr : List AV → St → Prop} {Kp : List PanicEntry → St → Prop}
  (h : aMi P G Γ call code σ (aIi P fn Kr Kp)) : aPm P G fn code σ Kr Kp := by
 intro C hC ρ a w hs hu hmk hlo hds
 rcases h with h | ⟨d, hd, h⟩
 ·exact au4 (acJ hG hmix hΓ hcall code _ _ h) hC hs hu hmk hlo
 ·exact au5 hG hΓ hcall (fun _ c σ Q => acJ hG hmix hΓ hcall c σ Q) (fun _ c σ Q => acJ hG hmix hΓ hcall c σ Q) hd h hC hs hlo hds
theorem aAg {XB : FuncId → Code → St → (Exit → St → Prop) → Prop} {XL : Nat → aIc} (hB : ∀ f fn code σ Kr Kp, XB f code σ (aIi P fn Kr Kp) → aPm P G fn code σ Kr Kp) (hL : ∀ l q c σ Q, XL l q c σ Q → Sat P G (some l) c σ Q) : CallSat P G (aAh XB XL P) := by
  refine ⟨fun f args H next K h C ρ w vs hC hm hv => ?_, fun l args H next K h C ρ w vs hC hm hv => ?_⟩
  ·simp only [aAh] at h
   split at h
   ·rename_i fn hf
    split at h
    ·rename_i code hb
     obtain ⟨he, hle, hex⟩ := h
     have hw0 : C.w0.heap.size ≤ w.heap.size := hm.below.size
     refine ⟨he, (callsIn_wideR (r := none) (n := 0)).1 (CallsIn.mono (callsIn_of_wp_marks (F := abI none) (n := 0) hf hb trivial (hB _ _ _ _ _ _ hex (C.at w.heap.size hw0) hC _ _ _ (arM rfl rfl hm.at (zi _) hv.at (Nat.le_of_ble_eq_true hle)) rfl rfl rfl rfl)) ?_)⟩
     rintro e w' (⟨ρ', σ', l, us, k1, k2, k3, k4, k5, rfl⟩ | ⟨ρ', σ', ch, k1, k2, k4, k5, rfl⟩)
     ·unfold aKd at k1
      split at k1
      ·rename_i hpn
       exact ⟨ρ', _, _, _, k1, k2.back, k4.back, k5, Or.inl ⟨_, rfl, hpn, (ap1 k3).back⟩⟩
      ·exact k1.elim
     ·simp only [aOk] at k1
      obtain ⟨x, hx, k1⟩ := aqH k1
      exact ⟨ρ', _, _, _, k1, k2.back, k4.back, k5, Or.inr ⟨x, ch, rfl, av1 hx, rfl⟩⟩
    ·exact h.elim
   ·exact h.elim
  ·simp only [aAh] at h
   split at h
   ·rename_i r hfind
    split at h
    ·rename_i hlen
     have hlen := aaD hlen
     have hkey := aaI (Heap.find_mem hfind)
     have hlt := hm.lt l hkey
     obtain ⟨fn, tmps, dd, g1, g2, g3⟩ := hm.mem _ _ (Heap.find_mem hfind)
     have hvl := hv.length
     have hw0 : C.w0.heap.size ≤ w.heap.size := hm.below.size
     refine ⟨fn, _, r.assign, r.body, run_yield g1 zg, roundIn_of_wpIn trivial ?_⟩
     have hs0 : SRel (C.at w.heap.size hw0) ρ { slots := r.slots, H := H, next := next, n := r.n } { tmps := tmps, defers := [] } w := ⟨hm.at, fun t => (g3 t).at, g2, Dfs.nil (zi _) rfl rfl⟩
     obtain ⟨hs1, hH1, hn1⟩ := aAj r.ps.toList args vs _ _ hs0 hv.at
     have htm : (r.ps.zip (⟨vs⟩ : Array Value)).foldl (fun t (x : Nat × Value) => t.setIfInBounds x.1 x.2) tmps = (r.ps.toList.zip vs).foldl (fun t x => t.setIfInBounds x.1 x.2) tmps := by
      rw [← Array.foldl_toList, Array.toList_zip]
     have hs1' : SRel (C.at w.heap.size hw0) ρ (anK { slots := r.slots, H := H, next := next, n := r.n } r.ps.toList args) { tmps := (r.ps.zip (⟨vs⟩ : Array Value)).foldl (fun t (x : Nat × Value) => t.setIfInBounds x.1 x.2) tmps, defers := [] } w := by
      rw [htm]; exact hs1
     refine wpIn_mono (hL _ _ _ _ _ h (C.at w.heap.size hw0) hC ρ _ w hs1' (some (ρ l)) ⟨by rw [hn1]; exact hlt, fun _ => rfl⟩) ?_
     rintro e a1 w1 ⟨ρ1, σ1, k1, k2, k3, k4⟩
     rw [hH1, hn1] at k3
     rw [hn1] at k4
     cases e with
     | normal =>
      simp only [aMr] at k1
      split at k1
      ·rename_i r1 hf1
       split at k1
       ·rename_i hst
        have hkey1 := aaI (Heap.find_mem hf1)
        have hρ1 := (k3.keys l hlt hkey1).2
        obtain ⟨fn1, tmps1, d1, b1, b2, b3⟩ := k2.m.mem _ _ (Heap.find_mem hf1)
        have hbr := run_beginRound (P := P) b1 hst
        obtain ⟨hm2, hext2⟩ := k2.m.turn hf1 .busy r1.pend b1 b2 b3
        rw [hρ1] at hbr hm2 hext2
        refine ⟨_, hbr, ?_⟩
        have hfr2 := hext2.fr (n := σ1.next) (fun k _ hk => by rwa [Heap.keys_up] at hk)
        have hs2 := k2.frame (next' := σ1.next) hm2 hfr2 (fun k hk => by rw [Heap.keys_up]; exact hk)
        refine wpIn_mono (hL _ _ _ _ _ k1 (C.at w.heap.size hw0) hC ρ1 _ _ hs2 (some (ρ l)) ⟨zR hlt k4, fun _ => by rw [hρ1]⟩) ?_
        rintro e a3 w3 ⟨ρ3, σ3, m1, m2, m3, m4⟩
        unfold aPf at m1
        split at m1
        ·rename_i j hj
         split at m1
         ·rename_i r3 hf3
          have hkey3 := aaI (Heap.find_mem hf3)
          have hρ3 : ρ3 l = ρ l := (m3.keys l (zR hlt k4) hkey3).2.trans hρ1
          obtain ⟨fn3, tmps3, d3, c1, c2, c3⟩ := m2.m.mem _ _ (Heap.find_mem hf3)
          have hend := run_endRound (P := P) j c1
          have hrs : ao3 j = (if j.isNone then .ready else .done) := by cases j <;> rfl
          obtain ⟨hm4, hext4⟩ := m2.m.turn hf3 (ao3 j) j c1 c2 c3
          rw [hρ3] at hend hm4 hext4
          rw [hrs] at hm4 hext4 m1
          have f2 : Fr (C.at w.heap.size hw0) σ1.next ρ1 σ1.H w1 ρ3 σ3.H w3 := hfr2.trans (zi _) m3
          have f3 := hext4.fr (n := σ3.next) (fun k _ hk => by rwa [Heap.keys_up] at hk)
          have hfr := ((k3.trans k4 f2).trans (n' := σ3.next) (zu k4 m4) f3).back
          generalize w3.putObj (ρ l) (.loop { state := if j.isNone then .ready else .done, pending := j, fn := fn3, tmps := tmps3, params := r3.ps, assign := r3.assign, body := r3.body, defers := d3 }) = W4 at hend hm4 hfr
          have hce : CallEnd C ρ H next w K (.returned (.bool j.isNone)) W4 := ⟨ρ3, _, _, _, m1, hm4.back, hfr, zu k4 m4, Or.inl ⟨_, rfl, rfl, ac5⟩⟩
          cases e with
          | normal => injection hj with hj; subst hj; exact ⟨_, _, hend, hce⟩
          | ret => injection hj with hj; subst hj; exact ⟨_, _, hend, hce⟩
          | exit id => injection hj with hj; subst hj; exact ⟨_, _, hend, hce⟩
          | _ => cases hj
         ·exact m1.elim
        ·exact m1.elim
       ·exact k1.elim
      ·exact k1.elim
     | _ => exact k1.elim
    ·exact h.elim
   ·exact h.elim
theorem aHI (hG : adG G) (hmix : P.follows .mixedOrders = true) {Γ : Cons} (hΓ : Γ.ok P G) {call : acI} (hcall : CallSat P G call) : CallSat P G (aBM P G Γ call) :=
 aAg (fun _ _ _ _ _ _ h => au3 hG hmix hΓ hcall h) (fun _ _ c σ Q h => acJ hG hmix hΓ hcall c σ Q h)
theorem ar0 {f : FuncId} {fn : Func} {code : Code} (hf : P.funcs[f]? = some fn) (hb : fn.body = some code) (he : ac1 P f = true)
  (c : Con) (hce : c.err = false) (hn : ∀ x, c.pre x → Nat.ble (aiI c.args x).length fn.ntmps = true)
  (hex : ∀ x : c.args.T, Wf c.args x → c.pre x → aPm P G fn code { slots := acW 0 (aiI c.args x), H := [], next := 0, n := fn.ntmps } (aN5 c.res (c.fn x)) fun _ _ => False) : c.ok P G f := by
 refine Con.ok_plain hce ⟨he, fun w ok vs x hGw hok hvs hp => (callsIn_wideR (r := none) (n := 0)).1 ?_⟩
 generalize hC : ({ w0 := w, okA := ok, lt := hok, lo := w.heap.size, hlo := zi _ } : Ctx) = C
 have hCw : C.w0 = w := by rw [← hC]
 have hCu : C.us = [] := by rw [← hC]
 have hCm : C.mks = none := by rw [← hC]
 have hClo : C.lo = w.heap.size := by rw [← hC]
 have hokA : C.okA = ok := by rw [← hC]
 have hm : MRel C (fun _ => 0) [] 0 w := ⟨by rw [hCw]; exact Below.refl _ _, xL, (by intro k hk; cases hk), (by intro k hk; cases hk), (by intro k hk; cases hk), (by intro k b hk; cases hk)⟩
 have hkk : ∀ b, ok b → Ok C (fun _ => 0) [] w b := fun b hb => ⟨Or.inl (by rw [hokA]; exact hb), hok b hb, (by intro k hk; cases hk)⟩
 refine CallsIn.mono (callsIn_of_wp_marks (F := abI none) (n := 0) hf hb trivial (hex x hvs.wf hp C (by rw [hCw]; exact hGw) _ _ _ (arM hCu hCm hm (by rw [hClo]; exact zi _) (RdVs.args hkk _ _ _ hvs) (Nat.le_of_ble_eq_true (hn x hp))) hCu hCm hClo rfl)) ?_
 rintro e w'' (⟨ρ', σ', l, us, k1, k2, k3, k4, k5, rfl⟩ | ⟨_, _, _, k1, _⟩)
 ·refine ⟨us, rfl, ?_, by have := k2.below; rw [hCw] at this; exact this⟩
  unfold aN5 at k1
  split at k1
  ·rename_i z hz
   subst k1
   have h5 := apQ _ _ _ _ hz (VRs.map (fun x v hx => aJC k2 hx) k3)
   have mono : ∀ (t : Ty) (x : t.T) (vs : List Value), RdVs (Ok C ρ' [] w'') w'' t x vs → RdVs (aA3 ok w w'') w'' t x vs := by
    intro t
    induction t with
    | unit => intro x vs h; exact h
    | pair t u _ ihu =>
     rintro x vs ⟨v, us, e, h6, h7⟩
     refine ⟨v, us, e, h6.mono (fun b hb => ⟨?_, rfl⟩), ihu _ _ h7⟩
     rcases hb.1 with h | h
     ·exact Or.inl (by rw [hokA] at h; exact h)
     ·exact Or.inr ⟨by rw [hCw] at h; exact h, hb.2.1⟩
    | _ => intro x vs h; exact h.elim
   exact mono _ _ _ h5
  ·exact k1.elim
 ·exact k1.elim
end
open Go Go.RowKit
def rn (k k' j : Nat) : Nat := match Nat.beq j k with | true => k' | false => j
mutual
def AV.ren (k k' : Nat) : AV → AV
 | .ptr j off => .ptr (rn k k' j) off
 | .eptr j i => .eptr (rn k k' j) i
 | .efp j i f => .efp (rn k k' j) i f
 | .own j off len => .own (rn k k' j) off len
 | .ox j off len => .ox (rn k k' j) off len
 | .sv j n => .sv (rn k k' j) n
 | .fn g first caps => .fn g (AV.rens k k' first) (AV.rens k k' caps)
 | .yld l => .yld (rn k k' l)
 | .mp j => .mp (rn k k' j)
 | .ag cells => .ag (AV.rens k k' cells)
 | .tup l => .tup (AV.rens k k' l)
 | .d t x => .d t x
 | .dptr t x => .dptr t x
 | .nsl => .nsl
 | .nilp => .nilp
 | .nili => .nili
 | .nni => .nni
 | .ifc k t x => .ifc k t x
 | .und => .und
 | .no => .no
def AV.rens (k k' : Nat) : List AV → List AV
 | [] => []
 | a :: as => a.ren k k' :: AV.rens k k' as
end
def ajA (k k' : Nat) : List (Nat × AV) → List (Nat × AV)
 | [] => []
 | (t, a) :: r => (t, a.ren k k') :: ajA k k' r
def aFm (k k' : Nat) : List (DK × AV) → List (DK × AV)
 | [] => []
 | (n, v) :: r => (n, v.ren k k') :: aFm k k' r
def Bk.ren (k k' : Nat) : Bk → Bk
 | .vars e cells => .vars e (AV.rens k k' cells)
 | .row e t l => .row e t l
 | .loop r => .loop { r with slots := ajA k k' r.slots }
 | .dic j l => .dic j (aFm k k' l)
 | .any => .any
def Heap.ren (k k' : Nat) : Heap → Heap
 | [] => []
 | (j, b) :: r => (rn k k' j, b.ren k k') :: Heap.ren k k' r
def St.rekey (σ : St) (k k' : Nat) : St := { σ with slots := ajA k k' σ.slots, H := Heap.ren k k' σ.H, next := Nat.max σ.next (k' + 1) }
section
variable {C : Ctx} {ρ : Nat → Nat} {H : Heap} {w : World} {k k' : Nat}
theorem avW : rn k k' k = k' := by simp [rn]
theorem aFi {j : Nat} (h : j ≠ k) : rn k k' j = j := by simp [rn, aqN h]
theorem af1 (hk' : k' ∉ H.keys) {j : Nat} (hj : j ∈ H.keys) : upd ρ k' (ρ k) (rn k k' j) = ρ j := by
 by_cases h : j = k
 ·subst h; rw [avW, abG]
 ·rw [aFi h, adZ]; intro e; subst e; exact hk' hj
theorem agO : (Heap.ren k k' H).keys = H.keys.map (rn k k') := by
 induction H with
 | nil => rfl
 | cons x r ih =>
  obtain ⟨j, b⟩ := x
  show rn k k' j :: (Heap.ren k k' r).keys = rn k k' j :: ((Heap.keys r).map (rn k k'))
  rw [ih]
theorem mem_ren {j : Nat} {b : Bk} : (j, b) ∈ Heap.ren k k' H ↔ ∃ i c, (i, c) ∈ H ∧ j = rn k k' i ∧ b = c.ren k k' := by
 induction H with
 | nil => exact ⟨fun h => (by cases h), fun ⟨_, _, h, _⟩ => (by cases h)⟩
 | cons x r ih =>
  obtain ⟨i, c⟩ := x
  simp only [Heap.ren, zo, Prod.mk.injEq]
  constructor
  ·rintro (⟨h1, h2⟩ | h)
   ·exact ⟨i, c, Or.inl ⟨rfl, rfl⟩, h1, h2⟩
   ·obtain ⟨i', c', h1, h2⟩ := ih.1 h
    exact ⟨i', c', Or.inr h1, h2⟩
  ·rintro ⟨i', c', ⟨rfl, rfl⟩ | h1, h2, h3⟩
   ·exact Or.inl ⟨h2, h3⟩
   ·exact Or.inr (ih.2 ⟨i', c', h1, h2, h3⟩)
theorem Ok.ren (hk' : k' ∉ H.keys) {b : Nat} (h : Ok C ρ H w b) : Ok C (upd ρ k' (ρ k)) (Heap.ren k k' H) w b := by
 refine ⟨h.1, h.2.1, ?_⟩
 intro j hj
 rw [agO] at hj
 obtain ⟨i, hi, rfl⟩ := zE.1 hj
 rw [af1 hk' hi]
 exact h.2.2 i hi
theorem VR.ren (hk' : k' ∉ H.keys) {x : AV} {v : Value} (h : VR C ρ H w x v) : VR C (upd ρ k' (ρ k)) (Heap.ren k k' H) w (x.ren k k') v := by
 have hd : ∀ b, Ok C ρ H w b → Ok C (upd ρ k' (ρ k)) (Heap.ren k k' H) w b ∧ w.heap[b]? = w.heap[b]? := fun b h => ⟨h.ren hk', rfl⟩
 have hkey : ∀ j, j ∈ H.keys → rn k k' j ∈ (Heap.ren k k' H).keys := fun j hj => by rw [agO]; exact zE.2 ⟨j, hj, rfl⟩
 have hrow : ∀ j e t l, (j, Bk.row e t l) ∈ H → (rn k k' j, Bk.row e t l) ∈ Heap.ren k k' H := fun j e t l hj => mem_ren.2 ⟨j, _, hj, rfl, rfl⟩
 refine VR.rec (motive_1 := fun x v _ => VR C (upd ρ k' (ρ k)) (Heap.ren k k' H) w (x.ren k k') v) (motive_2 := fun xs vs _ => VRs C (upd ρ k' (ρ k)) (Heap.ren k k' H) w (AV.rens k k' xs) vs)
  ?_ ?_ ?_ ?_ ?_ ?_ ?_ ?_ ?_ ?_ ?_ ?_ ?_ ?_ ?_ ?_ ?_ ?_ ?_ ?_ ?_ ?_ h
 ·intro t x v h; exact .d (RdV.mono hd h)
 ·intro j off h
  rw [← af1 (ρ := ρ) (k := k) hk' h]
  exact .ptr (hkey j h)
 ·intro j i e t l h hi
  rw [← af1 (ρ := ρ) (k := k) hk' (aaI h)]
  exact .eptr (hrow j e t l h) hi
 ·intro j i f o u e t l h hi ho
  rw [← af1 (ρ := ρ) (k := k) hk' (aaI h)]
  exact .efp (hrow j e t l h) hi ho
 ·intro t x b o c e fr hb hc ho h
  exact .dptr (hd b hb).1 hc ho (Rd.mono hd _ _ _ h)
 ·intro j off len e t l a cap c fr h hl hc hm hb hs ha
  have e1 := af1 (ρ := ρ) (k := k) hk' (aaI h)
  exact .own (hrow j e t l h) hl hc hm (by rw [e1]; exact hb) hs (by rw [e1]; exact ha)
 ·intro j off len e t l a c fr h hl hm hb hs ha
  have e1 := af1 (ρ := ρ) (k := k) hk' (aaI h)
  exact .ox (hrow j e t l h) hl hm (by rw [e1]; exact hb) hs (by rw [e1]; exact ha)
 ·intro j n cap h hn hc
  rw [← af1 (ρ := ρ) (k := k) hk' h]
  exact .sv (hkey j h) hn hc
 ·exact .nsl
 ·exact .nilp
 ·exact .nili
 ·exact .nni
 ·intro k t x v h; exact .ifc (RdV.mono hd h)
 ·intro g first caps vf vc _ _ h1 h2; exact .fn h1 h2
 ·intro l h
  rw [← af1 (ρ := ρ) (k := k) hk' h]
  exact .yld (hkey l h)
 ·intro j h
  rw [← af1 (ρ := ρ) (k := k) hk' h]
  exact .mp (hkey j h)
 ·intro cells vs _ h1 h; exact .ag h h1
 ·intro l vs _ h; exact .tup h
 ·exact .und
 ·intro v; exact .no
 ·exact .nil
 ·intro a v as vs _ _ h hs; exact .cons h hs
theorem VRs.ren (hk' : k' ∉ H.keys) : ∀ {xs : List AV} {vs : List Value}, VRs C ρ H w xs vs → VRs C (upd ρ k' (ρ k)) (Heap.ren k k' H) w (AV.rens k k' xs) vs
 | _, _, .nil => .nil
 | _, _, .cons h1 h2 => .cons (h1.ren hk') (VRs.ren hk' h2)
theorem MapR.ren {R R' : AV → Value → Prop} {k k' : Nat} {j : KK} (h : ∀ x v, R x v → R' (x.ren k k') v) : ∀ {l : List (DK × AV)} {es : List MapEntry}, MapR R j l es → MapR R' j (aFm k k' l) es
 | [], [], _ => trivial
 | _ :: _, _ :: _, ⟨h1, h2, h3⟩ => ⟨h1, h _ _ h2, MapR.ren h h3⟩
 | [], _ :: _, h => h.elim
 | _ :: _, [], h => h.elim
theorem aCy (s : List (Nat × AV)) (t : Nat) : adA (ajA k k' s) t = (adA s t).ren k k' := by
 induction s with
 | nil => rfl
 | cons x r ih =>
  obtain ⟨j, a⟩ := x
  simp only [ajA, adA]
  cases Nat.beq j t <;> simp [ih]
theorem SRel.rekey {σ : St} {a : Act} (hs : SRel C ρ σ a w) (hk' : k' ∉ σ.H.keys) : SRel C (upd ρ k' (ρ k)) (σ.rekey k k') a w := by
 have hm := hs.m
 have hd : ∀ b, Ok C ρ σ.H w b → Ok C (upd ρ k' (ρ k)) (Heap.ren k k' σ.H) w b ∧ w.heap[b]? = w.heap[b]? := fun b h => ⟨h.ren hk', rfl⟩
 refine ⟨⟨hm.below, ?_, ?_, ?_, ?_, ?_⟩, fun t => ?_, hs.size, hs.defers.mono hd (zi _)⟩
 ·show (Heap.ren k k' σ.H).keys.Nodup
  rw [agO]
  refine List.nodup_iff_pairwise_ne.2 (List.pairwise_map.2 (List.Pairwise.imp_of_mem ?_ (List.nodup_iff_pairwise_ne.1 hm.nodup)))
  intro i j hi hj hne e
  apply hne
  have h1 := af1 (ρ := fun x => x) (k := k) hk' hi
  have h2 := af1 (ρ := fun x => x) (k := k) hk' hj
  rw [e] at h1
  exact h1.symm.trans h2
 ·intro j hj
  have hj' : j ∈ (Heap.ren k k' σ.H).keys := hj
  rw [agO] at hj'
  obtain ⟨i, hi, rfl⟩ := zE.1 hj'
  by_cases h : i = k
  ·subst h; rw [avW]; exact zR (yv _) (Nat.le_max_right _ _)
  ·rw [aFi h]; exact zR (hm.lt i hi) (Nat.le_max_left _ _)
 ·intro j hj i hi e
  have hj' : j ∈ (Heap.ren k k' σ.H).keys := hj
  have hi' : i ∈ (Heap.ren k k' σ.H).keys := hi
  rw [agO] at hj' hi'
  obtain ⟨j0, hj0, rfl⟩ := zE.1 hj'
  obtain ⟨i0, hi0, rfl⟩ := zE.1 hi'
  rw [af1 hk' hj0, af1 hk' hi0] at e
  rw [hm.inj _ hj0 _ hi0 e]
 ·intro j hj
  have hj' : j ∈ (Heap.ren k k' σ.H).keys := hj
  rw [agO] at hj'
  obtain ⟨j0, hj0, rfl⟩ := zE.1 hj'
  rw [af1 hk' hj0]
  exact hm.low _ hj0
 ·intro j b hb
  obtain ⟨i, c, h1, rfl, rfl⟩ := mem_ren.1 hb
  rw [af1 hk' (aaI h1)]
  have hbr := hm.mem i c h1
  cases c with
  | vars e cells =>
   obtain ⟨c, g1, g2, g3⟩ := hbr
   exact ⟨c, g1, g2.ren hk', g3⟩
  | row e t l =>
   obtain ⟨c, g1, g2, g3, g4, g5⟩ := hbr
   exact ⟨c, g1, g2, g3, RdL.mono (fun x cs => Rd.mono hd t x cs) _ _ g4, g5⟩
  | loop r =>
   obtain ⟨fn, tmps, d, g1, g2, g3⟩ := hbr
   exact ⟨fn, tmps, d, g1, g2, fun t => by rw [aCy]; exact (g3 t).ren hk'⟩
  | dic j l =>
   obtain ⟨es, n, g1, g2⟩ := hbr
   exact ⟨es, n, g1, g2.ren (fun x v h => VR.ren hk' h)⟩
  | any => exact hbr
 ·show VR C _ (Heap.ren k k' σ.H) w (adA (ajA k k' σ.slots) t) _
  rw [aCy]
  exact (hs.slots t).ren hk'
theorem Fr.rekey {n : Nat} (hk' : k' ∉ H.keys) (h1 : n ≤ k') : Fr C n ρ H w (upd ρ k' (ρ k)) (Heap.ren k k' H) w := by
 refine ⟨fun b h => ⟨h.ren hk', rfl⟩, fun j hj hjm => ?_, fun j e t l hj hjm hj' => ⟨l, mem_ren.2 ⟨j, _, hjm, (aFi ?_).symm, rfl⟩, zi _, fun c fr hc => ⟨c, fr, hc, rfl⟩⟩, zi _⟩
 rotate_left
 ·rintro rfl
  rw [agO] at hj'
  obtain ⟨i, hi, e⟩ := zE.1 hj'
  by_cases h : i = j
  ·subst h; rw [avW] at e; subst e; exact hk' hi
  ·rw [aFi h] at e; exact h e
 rw [agO] at hjm
 obtain ⟨i, hi, rfl⟩ := zE.1 hjm
 by_cases h : i = k
 ·subst h; rw [avW] at hj; omega
 ·rw [aFi h] at hj ⊢
  exact ⟨hi, adZ ρ zc⟩
end
section
variable {P : Program} {G : World → Prop}
end
def asT (α : Type) (x : α) : α := x
def len {α : Type} (l : List α) : Int := (l.length : Int)
def gi {α : Type} (l : List α) (i : Int) (d : α) : α := l.getD i.toNat d
def si {α : Type} (l : List α) (i : Int) (x : α) : List α := l.set i.toNat x
def w64 (x : Int) : Int := IntKind.wrap .i64 x
def abZ (x : Int) : Int := IntKind.wrap .u64 x
def adY (x : Int) : Int := IntKind.wrap .u32 x
def wu8 (x : Int) : Int := IntKind.wrap .u8 x
def inb (a b : Int) : Prop := 0 ≤ a ∧ a < b
def inc (a b : Int) : Prop := 0 ≤ a ∧ a ≤ b
open Go Go.RowKit
def ak1 (m : Nat) : List Edge → Bool
 | [] => true
 | e :: r => match acS e with
  | true => match Nat.testBit m e.on with
   | true => ak1 m r
   | false => false
  | false => ak1 m r
def aEL (n : Nat) (σ σ' : St) : Prop := ∀ (C : Ctx) (ρ : Nat → Nat) (a : Act) (w : World), SRel C ρ σ a w → ∃ ρ', SRel C ρ' σ' a w ∧ Fr C n ρ σ.H w ρ' σ'.H w ∧ σ.next ≤ σ'.next
def anA (P : Program) (Γ : Cons) (call : acI) (ops : Array Oper) (b : Nat) : Nat → Nat → St → (Fi → Prop) → Prop
 | 0, _, σ, K => K (.go σ)
 | n + 1, m, σ, K => ∀ i o, ops[i]? = some o → Nat.testBit m i = false → ak1 m o.after.toList = true → abM P Γ call ops [o] σ (aMF (fun σ1 => ∃ σ', aEL b σ1 σ' ∧ anA P Γ call ops b n (m ||| 2 ^ i) σ' K) K)
theorem anF {m : Nat} : ∀ {l : List Edge}, (∀ e ∈ l, acS e = true → Nat.testBit m e.on = true) → ak1 m l = true
 | [], _ => rfl
 | e :: r, h => by
  simp only [ak1]
  cases hb : acS e with
  | false => exact anF fun e he => h e (zq _ he)
  | true => simp only [h e (zv ..) hb]; exact anF fun e he => h e (zq _ he)
section
variable {C : Ctx} {P : Program} {G : World → Prop} {Γ : Cons} {ops : Array Oper}
def aLt (C : Ctx) (b : Nat) (ρ : Nat → Nat) (H : Heap) (w : World) (K : St → Prop) (a' : Act) (w' : World) : Prop :=
 ∃ ρ' σ', K σ' ∧ SRel C ρ' σ' a' w' ∧ Fr C b ρ H w ρ' σ'.H w' ∧ b ≤ σ'.next
theorem aHT (hG : adG G) (hC : G C.w0) (hΓ : Γ.ok P G) {call : acI} (hcall : CallSat P G call) {Q : Exit → Act → World → Prop} {K : Fi → Prop} (hed : ac7 ops.toList 0 = true) (rnd : Option Nat) {b : Nat} :
  ∀ (n m : Nat) (listed : Array Bool) {ρ : Nat → Nat} {σ : St} {a : Act} {w : World}, SRel C ρ σ a w → b ≤ σ.next → anA P Γ call ops b n m σ K → listed.size = ops.size → (∀ j, j < ops.size → listed.getD j false = Nat.testBit m j) →
   axP (fun i => listed.getD i false) ops.size + n = ops.size → (∀ a' w', aLt C b ρ σ.H w (fun σ' => K (.go σ')) a' w' → Q .normal a' w') → (∀ ch a' w', aLt C b ρ σ.H w (fun σ' => K (.pan ch σ')) a' w' → Q (.panic ch) a' w') → wpAnyIn (abI rnd) 0 P .any ops Q n listed a w := by
 intro n
 induction n with
 | zero =>
  intro m listed ρ σ a w hs hb h hsz hl hcnt hQ hP
  refine ⟨xI.2 fun i hi => ?_, hQ a w ⟨ρ, σ, h, hs, Fr.refl _ _ _ _ _, hb⟩⟩
  unfold Region.ready at hi
  rw [xq] at hi
  obtain ⟨h1, h2⟩ := hi
  have hio : i < ops.size := by simpa using h1
  simp only [zj, zX] at h2
  have h3 : listed.getD i false = false := by
   have := h2.1
   rw [zm, zS zc] at this ⊢
   exact this
  have := aw5 (ls := fun i => listed.getD i false) h3 (n := ops.size) hio
  omega
 | succ n ih =>
  intro m listed ρ σ a w hs hb h hsz hl hcnt hQ hP
  have hlt : ∀ i, i < ops.size → listed.getD i true = listed.getD i false := by
   intro i hi
   rw [zm, zm, zS zc]
   rfl
  refine ⟨fun hnil => ?_, fun i hi => ?_⟩
  ·exfalso
   have hex : ∃ i, i < ops.size ∧ listed.getD i false = false := by
    refine Classical.byContradiction fun hno => ?_
    have hall : ∀ i, i < ops.size → listed.getD i false = true := fun i hi => by
     cases hb : listed.getD i false with
     | true => rfl
     | false => exact absurd ⟨i, hi, hb⟩ hno
    have := ae5 (ls := fun i => listed.getD i false) (m := ops.size) hall (fun i hi => by
     show listed.getD i false = false
     rw [zm, yR zc]; rfl) (n := ops.size)
    omega
   obtain ⟨i, hi1, hi2, hi3⟩ := alU (ls := fun i => listed.getD i false) hex
   have hil : ops.toList[i]? = some ops[i] := by simp [hi1]
   have : i ∈ Region.ready .any ops listed := by
    unfold Region.ready
    rw [xq]
    refine ⟨by simpa using hi1, ?_⟩
    rw [hlt i hi1, show listed.getD i false = false from hi2, zS hi1]
    simp only [xo, xA, Bool.not_false, Bool.true_and]
    rw [yw]
    intro e he
    cases hb : Region.binds .any e with
    | false => rfl
    | true =>
     have := ab3 hed hil e he hb
     rw [zl] at this
     have h3 : listed.getD e.on false = true := hi3 e.on this
     simp [h3]
   rw [hnil] at this
   cases this
  ·unfold Region.ready at hi
   rw [xq] at hi
   obtain ⟨h1, h2⟩ := hi
   have hio : i < ops.size := by simpa using h1
   have hoi : ops[i]? = some ops[i] := zS hio
   rw [hlt i hio, hoi] at h2
   simp only [zj, zX, xo, xA, yw] at h2
   obtain ⟨h3, h4⟩ := h2
   have hmem : Nat.testBit m i = false := by rw [← hl i hio]; exact h3
   have hedge : ak1 m ops[i].after.toList = true := anF fun e he hb => by
    have he' : e ∈ ops[i].after := by simpa using he
    have := h4 e he'
    unfold acS at hb
    rw [hb] at this
    have hlt' := ab3 hed (show ops.toList[i]? = some ops[i] by simp [hio]) e he' hb
    rw [zl] at hlt'
    rw [← hl e.on zc]
    simpa using this
   have hstep := h i ops[i] hoi hmem hedge
   unfold wpOpIn
   rw [hoi]
   simp only
   refine ai0 hG hC hΓ hcall hs hstep ?_ (fun ch a' w' hr => by
    obtain ⟨ρ1, σ1, q1, q2, q3, q4⟩ := hr
    exact hP ch a' w' ⟨ρ1, σ1, q1, q2, (Fr.refl C b ρ σ.H w).trans hb q3, zu hb q4⟩) rnd
   rintro a' w' ⟨ρ1, σ1, ⟨σ', g1, g2⟩, g3, g4, g5⟩
   obtain ⟨ρ', k1, k2, k3⟩ := g1 C ρ1 a' w' g3
   have hset : ∀ j, (listed.setIfInBounds i true).getD j false = if j = i then true else listed.getD j false := by
    intro j
    by_cases hj : j = i
    ·subst hj
     rw [if_pos rfl, zm, yQ zc]
     rfl
    ·rw [if_neg hj, zm, yy (Ne.symm hj), ← zm]
   have hfun : (fun j => (listed.setIfInBounds i true).getD j false) = al5 (fun j => listed.getD j false) i := by
    funext j; rw [hset]; rfl
   refine ih (m ||| 2 ^ i) _ k1 (zu hb (zu g5 k3)) g2 (by simp [hsz]) (fun j hj => ?_) ?_ (fun a'' w'' hr => ?_) (fun ch a'' w'' hr => ?_)
   ·rw [hset, yX, Nat.testBit_two_pow]
    by_cases hji : j = i
    ·subst hji; simp
    ·rw [if_neg hji, hl j hj]; simp [Ne.symm hji]
   ·rw [hfun, apC h3 hio]
    omega
   ·obtain ⟨ρ2, σ2, q1, q2, q3, q4⟩ := hr
    refine hQ a'' w'' ⟨ρ2, σ2, q1, q2, ?_, q4⟩
    have f1 : Fr C b ρ σ.H w ρ1 σ1.H w' := (Fr.refl C b ρ σ.H w).trans hb g4
    exact (f1.trans (zi _) k2).trans (zi _) q3
   ·obtain ⟨ρ2, σ2, q1, q2, q3, q4⟩ := hr
    refine hP ch a'' w'' ⟨ρ2, σ2, q1, q2, ?_, q4⟩
    have f1 : Fr C b ρ σ.H w ρ1 σ1.H w' := (Fr.refl C b ρ σ.H w).trans hb g4
    exact (f1.trans (zi _) k2).trans (zi _) q3
theorem aLD (hG : adG G) (hmix : P.follows .mixedOrders = true) (hΓ : Γ.ok P G) {call : acI} (hcall : CallSat P G call) {rd : Option Nat} {id : Nat} {σ : St} {Q : Exit → St → Prop} (hed : ac7 ops.toList 0 = true)
  (h : anA P Γ call ops σ.next ops.size 0 σ (aAC Q)) : Sat P G rd (.region id ops true) σ Q := by
 intro C hC ρ a w hs rnd hrd
 obtain ⟨hmd, hextd⟩ := hs.m.grow (w' := w.drew) ((Below.refl _ _).drew)
 have hfr := hextd.fr (n := σ.next) (fun k _ hk => hk)
 have hs' : SRel C ρ σ a w.drew := hs.frame hmd hfr (fun k hk => hk)
 refine wpIn_region_any hmix (aHT hG hC hΓ hcall hed rnd ops.size 0 (Array.replicate ops.size false) hs' (zi _) h zh (fun j hj => ?_) ?_ (fun a' w' hr => ?_) (fun ch a' w' hr => ?_))
 ·rw [zm, xD, if_pos hj, Nat.zero_testBit]; rfl
 ·have := ae5 (ls := fun i => (Array.replicate ops.size false).getD i false) (m := 0) (fun i hi => absurd hi (Nat.not_lt_zero _)) (fun i _ => by
   show (Array.replicate ops.size false).getD i false = false
   rw [zm, xD]; split <;> rfl) (n := ops.size)
  omega
 ·obtain ⟨ρ1, σ1, h1, h2, h3, h4⟩ := hr
  exact ⟨ρ1, σ1, h1, h2, hfr.trans (zi _) h3, h4⟩
 ·obtain ⟨ρ1, σ1, h1, h2, h3, h4⟩ := hr
  exact ⟨ρ1, σ1, h1, h2, hfr.trans (zi _) h3, h4⟩
def St.rekeysK (n : Nat) (σ : St) : List (Nat × Nat) → St
 | [] => σ
 | (K, k') :: r => match abY σ.H k', abY σ.H K, Nat.ble n k' with
  | false, true, true => (σ.rekey K k').rekeysK n r
  | _, _, _ => σ.rekeysK n r
theorem SRel.rekeysK {n : Nat} {w : World} : ∀ (r : List (Nat × Nat)) {ρ : Nat → Nat} {σ : St} {a : Act}, SRel C ρ σ a w → ∃ ρ', SRel C ρ' (σ.rekeysK n r) a w ∧ Fr C n ρ σ.H w ρ' (σ.rekeysK n r).H w
 | [], ρ, σ, a, hs => ⟨ρ, hs, Fr.refl _ _ _ _ _⟩
 | (K, k') :: r, ρ, σ, a, hs => by
  simp only [St.rekeysK]
  split
  ·rename_i h1 h2 h3
   have hk' : k' ∉ σ.H.keys := fun h => by rw [hasKey_iff.2 h] at h1; cases h1
   obtain ⟨ρ', g1, g2⟩ := SRel.rekeysK (n := n) r (hs.rekey hk')
   exact ⟨ρ', g1, (Fr.rekey hk' (Nat.le_of_ble_eq_true h3)).trans (zi _) g2⟩
  ·exact SRel.rekeysK r hs
def St.raise (σ : St) (n : Nat) : St := { σ with next := Nat.max σ.next n }
theorem SRel.raise {ρ : Nat → Nat} {σ : St} {a : Act} {w : World} (hs : SRel C ρ σ a w) (n : Nat) : SRel C ρ (σ.raise n) a w := ⟨hs.m.mono (Nat.le_max_left _ _), hs.slots, hs.size, hs.defers⟩
theorem aBe (n k : Nat) (σ : St) (r : List (Nat × Nat)) (hn : σ.next ≤ ((σ.rekeysK n r).raise k).next) : aEL n σ ((σ.rekeysK n r).raise k) := by
 intro C ρ a w hs
 obtain ⟨ρ', h1, h2⟩ := SRel.rekeysK (n := n) r hs
 exact ⟨ρ', h1.raise k, h2, hn⟩
def eqT : (t : Ty) → t.T → t.T → Bool
 | .int _, x, y => eqD.eqI x y
 | .bool, x, y => eqD.eqB x y
 | .str, x, y => eqD.eqS x y
 | .unit, _, _ => true
 | .pair t u, x, y => match eqT t x.1 y.1 with
  | true => eqT u x.2 y.2
  | false => false
 | .arr _ t, x, y => eqD.eqL (eqT t) x y
 | .sl t, x, y => eqD.eqL (eqT t) x y
theorem aHj {α : Type} {f : α → α → Bool} (hf : ∀ x y, f x y = true → x = y) : ∀ (l m : List α), eqD.eqL f l m = true → l = m
 | [], [], _ => rfl
 | [], _ :: _, h => by cases h
 | _ :: _, [], h => by cases h
 | x :: l, y :: m, h => by
  simp only [eqD.eqL] at h
  cases hb : f x y with
  | false => rw [hb] at h; cases h
  | true => rw [hb] at h; rw [hf _ _ hb, aHj hf l m h]
theorem aOf {x y : Int} (h : eqD.eqI x y = true) : x = y := eq_of_beq h
theorem aOg {x y : Bool} (h : eqD.eqB x y = true) : x = y := eq_of_beq h
theorem aOe {x y : List UInt8} (h : eqD.eqS x y = true) : x = y := eq_of_beq h
theorem az3 : ∀ (t : Ty) (x y : t.T), eqT t x y = true → x = y
 | .int _, _, _, h => aOf h
 | .bool, _, _, h => aOg h
 | .str, _, _, h => aOe h
 | .unit, x, y, _ => rfl
 | .pair t u, x, y, h => by
  simp only [eqT] at h
  cases hb : eqT t x.1 y.1 with
  | false => rw [hb] at h; cases h
  | true => rw [hb] at h; exact Prod.ext (az3 t _ _ hb) (az3 u _ _ h)
 | .arr _ t, x, y, h => aHj (az3 t) x y h
 | .sl t, x, y, h => aHj (az3 t) x y h
mutual
def avB (p : Nat → Bool) : AV → AV → Bool
 | .no, _ => true
 | .d u y, .d t x => match t.as u x with
  | some x' => eqT u x' y
  | none => false
 | .dptr u y, .dptr t x => match t.as u x with
  | some x' => eqT u x' y
  | none => false
 | .nsl, .nsl => true
 | .nilp, .nilp => true
 | .nili, .nili => true
 | .nni, .nni => true
 | .ifc k u y, .ifc k' t x => Nat.beq k' k && match t.as u x with
  | some x' => eqT u x' y
  | none => false
 | .und, .und => true
 | .ptr k i, .ptr k' i' => Nat.beq k' k && Nat.beq i' i && p k
 | .eptr k i, .eptr k' i' => Nat.beq k' k && Nat.beq i' i && p k
 | .own k o n, .own k' o' n' => Nat.beq k' k && Nat.beq o' o && Nat.beq n' n && p k
 | .ox k o n, .ox k' o' n' => Nat.beq k' k && Nat.beq o' o && Nat.beq n' n && p k
 | .sv k n, .sv k' n' => Nat.beq k' k && Nat.beq n' n && p k
 | .mp k, .mp k' => Nat.beq k' k && p k
 | .fn f x y, .fn f' x' y' => Nat.beq f' f && aM0 p x x' && aM0 p y y'
 | .ag l, .ag l' => aM0 p l l'
 | .tup l, .tup l' => aM0 p l l'
 | _, _ => false
def aM0 (p : Nat → Bool) : List AV → List AV → Bool
 | [], [] => true
 | b :: bs, a :: as => avB p b a && aM0 p bs as
 | _, _ => false
end
def aNa (p : Nat → Bool) (s : List (Nat × AV)) : List (Nat × AV) → Bool
 | [] => true
 | (t, b) :: r => avB p b (adA s t) && aNa p s r
def bkB (p : Nat → Bool) : Bk → Bk → Bool
 | .any, .any => true
 | .vars e cells, .vars e' cells' => Nat.beq e' e && aM0 p cells cells'
 | .row e t l, .row e' t' l' => Nat.beq e' e && match (t'.sl).as (.sl t) l' with
  | some z => eqT (.sl t) z l
  | none => false
 | _, _ => false
def aP2 (p : Nat → Bool) (H : Heap) (n : Nat) : Heap → Bool
 | [] => true
 | (k, b) :: r => (match H.find k with
  | some b' => bkB p b b'
  | none => false) && Nat.blt k n && aP2 p H n r
mutual
def avE : AV → AV → Bool
 | .no, .no => true
 | .d u y, .d t x => match t.as u x with
  | some x' => eqT u y x'
  | none => false
 | .dptr u y, .dptr t x => match t.as u x with
  | some x' => eqT u y x'
  | none => false
 | .nsl, .nsl => true
 | .nilp, .nilp => true
 | .nili, .nili => true
 | .nni, .nni => true
 | .und, .und => true
 | .ptr k i, .ptr k' i' => Nat.beq k k' && Nat.beq i i'
 | .eptr k i, .eptr k' i' => Nat.beq k k' && Nat.beq i i'
 | .own k o n, .own k' o' n' => Nat.beq k k' && Nat.beq o o' && Nat.beq n n'
 | .ox k o n, .ox k' o' n' => Nat.beq k k' && Nat.beq o o' && Nat.beq n n'
 | .sv k n, .sv k' n' => Nat.beq k k' && Nat.beq n n'
 | .mp k, .mp k' => Nat.beq k k'
 | .fn f x y, .fn f' x' y' => Nat.beq f f' && aLq x x' && aLq y y'
 | .ag l, .ag l' => aLq l l'
 | .tup l, .tup l' => aLq l l'
 | _, _ => false
def aLq : List AV → List AV → Bool
 | [], [] => true
 | b :: bs, a :: as => avE b a && aLq bs as
 | _, _ => false
end
theorem aHQ {t u : Ty} {x : t.T} {y x' : u.T} (h : t.as u x = some x') (e : eqT u y x' = true) : (⟨u, y⟩ : (t : Ty) × t.T) = ⟨t, x⟩ := by
 obtain ⟨e1, e2⟩ := Ty.as_some h
 subst e1
 have := az3 _ _ _ e
 subst this
 have e2 : x = y := e2
 rw [e2]
mutual
theorem asE : ∀ (b a : AV), avE b a = true → b = a
 | .no, .no, _ => rfl
 | .d u y, .d t x, h => by
  simp only [avE] at h
  split at h
  ·rename_i x' hx
   have := aHQ hx h
   injection this with h1 h2
   subst h1
   rw [eq_of_heq h2]
  ·cases h
 | .dptr u y, .dptr t x, h => by
  simp only [avE] at h
  split at h
  ·rename_i x' hx
   have := aHQ hx h
   injection this with h1 h2
   subst h1
   rw [eq_of_heq h2]
  ·cases h
 | .nsl, .nsl, _ => rfl
 | .nilp, .nilp, _ => rfl
 | .nili, .nili, _ => rfl
 | .nni, .nni, _ => rfl
 | .und, .und, _ => rfl
 | .ptr k i, .ptr k' i', h => by
  simp only [avE, zj] at h
  rw [Nat.eq_of_beq_eq_true h.1, Nat.eq_of_beq_eq_true h.2]
 | .eptr k i, .eptr k' i', h => by
  simp only [avE, zj] at h
  rw [Nat.eq_of_beq_eq_true h.1, Nat.eq_of_beq_eq_true h.2]
 | .own k o n, .own k' o' n', h => by
  simp only [avE, zj] at h
  rw [Nat.eq_of_beq_eq_true h.1.1, Nat.eq_of_beq_eq_true h.1.2, Nat.eq_of_beq_eq_true h.2]
 | .ox k o n, .ox k' o' n', h => by
  simp only [avE, zj] at h
  rw [Nat.eq_of_beq_eq_true h.1.1, Nat.eq_of_beq_eq_true h.1.2, Nat.eq_of_beq_eq_true h.2]
 | .sv k n, .sv k' n', h => by
  simp only [avE, zj] at h
  rw [Nat.eq_of_beq_eq_true h.1, Nat.eq_of_beq_eq_true h.2]
 | .mp k, .mp k', h => by
  simp only [avE] at h
  rw [Nat.eq_of_beq_eq_true h]
 | .fn f x y, .fn f' x' y', h => by
  simp only [avE, zj] at h
  rw [Nat.eq_of_beq_eq_true h.1.1, anM _ _ h.1.2, anM _ _ h.2]
 | .ag l, .ag l', h => by rw [anM l l' h]
 | .tup l, .tup l', h => by rw [anM l l' h]
theorem anM : ∀ (bs as : List AV), aLq bs as = true → bs = as
 | [], [], _ => rfl
 | b :: bs, a :: as, h => by
  simp only [aLq, zj] at h
  rw [asE b a h.1, anM bs as h.2]
 | [], _ :: _, h => by cases h
 | _ :: _, [], h => by cases h
end
def aB6 : List (Nat × AV) → List (Nat × AV) → Bool
 | [], [] => true
 | (t, b) :: r, (t', b') :: r' => match Nat.beq t t' with
  | true => match avE b b' with
   | true => aB6 r r'
   | false => false
  | false => false
 | _, _ => false
theorem axV : ∀ {l l' : List (Nat × AV)}, aB6 l l' = true → l = l'
 | [], [], _ => rfl
 | [], _ :: _, h => by cases h
 | _ :: _, [], h => by cases h
 | (t, b) :: r, (t', b') :: r', h => by
  simp only [aB6] at h
  split at h
  ·rename_i h1
   split at h
   ·rename_i h2
    rw [Nat.eq_of_beq_eq_true h1, asE _ _ h2, axV h]
   ·cases h
  ·cases h
def aPh : List (DK × AV) → List (DK × AV) → Bool
 | [], [] => true
 | (t, b) :: r, (t', b') :: r' => match eqK t t' with
  | true => match avE b b' with
   | true => aPh r r'
   | false => false
  | false => false
 | _, _ => false
theorem aHr : ∀ {l l' : List (DK × AV)}, aPh l l' = true → l = l'
 | [], [], _ => rfl
 | [], _ :: _, h => by cases h
 | _ :: _, [], h => by cases h
 | (t, b) :: r, (t', b') :: r', h => by
  simp only [aPh] at h
  split at h
  ·rename_i h1
   split at h
   ·rename_i h2
    rw [aLm h1, asE _ _ h2, aHr h]
   ·cases h
  ·cases h
def bkE : Bk → Bk → Bool
 | .any, .any => true
 | .dic k l, .dic k' l' => match decide (k = k') with
  | true => aPh l l'
  | false => false
 | .vars e cells, .vars e' cells' => Nat.beq e e' && aLq cells cells'
 | .row e t l, .row e' t' l' => Nat.beq e e' && match (t'.sl).as (.sl t) l' with
  | some z => eqT (.sl t) l z
  | none => false
 | _, _ => false
theorem aOl : ∀ (b a : Bk), bkE b a = true → b = a
 | .any, .any, _ => rfl
 | .dic k l, .dic k' l', h => by
  simp only [bkE] at h
  split at h
  ·rename_i h1
   rw [of_decide_eq_true h1, aHr h]
  ·cases h
 | .vars e cells, .vars e' cells', h => by
  simp only [bkE, zj] at h
  rw [Nat.eq_of_beq_eq_true h.1, anM _ _ h.2]
 | .row e t l, .row e' t' l', h => by
  simp only [bkE, zj] at h
  have h2 := h.2
  split at h2
  ·rename_i z hz
   have := aHQ hz h2
   injection this with g1 g2
   injection g1 with g1
   subst g1
   rw [Nat.eq_of_beq_eq_true h.1, eq_of_heq g2]
  ·cases h2
def aJP : Heap → Heap → Bool
 | [], [] => true
 | (t, b) :: r, (t', b') :: r' => match Nat.beq t t' with
  | true => match bkE b b' with
   | true => aJP r r'
   | false => false
  | false => false
 | _, _ => false
theorem aCI : ∀ {l l' : Heap}, aJP l l' = true → l = l'
 | [], [], _ => rfl
 | [], _ :: _, h => by cases h
 | _ :: _, [], h => by cases h
 | (t, b) :: r, (t', b') :: r', h => by
  simp only [aJP] at h
  split at h
  ·rename_i h1
   split at h
   ·rename_i h2
    rw [Nat.eq_of_beq_eq_true h1, aOl _ _ h2, aCI h]
   ·cases h
  ·cases h
def stE (σ σ' : St) : Bool := Nat.beq σ.n σ'.n && Nat.beq σ.next σ'.next && aB6 σ.slots σ'.slots && aJP σ.H σ'.H
theorem aM9 {σ σ' : St} (h : stE σ σ' = true) : σ = σ' := by
 simp only [stE, zj] at h
 obtain ⟨⟨⟨h1, h2⟩, h3⟩, h4⟩ := h
 cases σ; cases σ'
 simp only at h1 h2 h3 h4
 rw [Nat.eq_of_beq_eq_true h1, Nat.eq_of_beq_eq_true h2, axV h3, aCI h4]
def aPb : Nat → Nat → AV → List (Nat × AV) → List (Nat × AV)
 | 0, t, v, l => (t, v) :: l
 | _ + 1, t, v, [] => [(t, v)]
 | n + 1, t, v, (k, a) :: r => match Nat.blt k t with
  | true => (k, a) :: aPb n t v r
  | false => (t, v) :: (k, a) :: r
theorem ay2 (u : Nat) : ∀ (n t : Nat) (v : AV) (l : List (Nat × AV)), adA (aPb n t v l) u = adA ((t, v) :: l) u
 | 0, _, _, _ => rfl
 | _ + 1, _, _, [] => rfl
 | n + 1, t, v, (k, a) :: r => by
  simp only [aPb]
  cases hb : Nat.blt k t with
  | false => rfl
  | true =>
   have hlt : k < t := Nat.le_of_ble_eq_true hb
   have ih := ay2 u n t v r
   simp only [adA] at ih ⊢
   cases h1 : Nat.beq k u with
   | true =>
    have := Nat.eq_of_beq_eq_true h1
    subst this
    have h2 : Nat.beq t k = false := aqN zc
    simp only [h2]
   | false => simp only; exact ih
def aPc (lo : Nat) (k : Nat) (b : Bk) : Heap → Heap
 | [] => [(k, b)]
 | (j, c) :: r => match Nat.blt lo j && Nat.blt j k with
  | true => (j, c) :: aPc lo k b r
  | false => (k, b) :: (j, c) :: r
theorem ay7 (lo k : Nat) (b : Bk) : ∀ l : Heap, (aPc lo k b l).Perm ((k, b) :: l)
 | [] => .refl _
 | (j, c) :: r => by
  simp only [aPc]
  split
  ·exact ((ay7 lo k b r).cons _).trans (.swap _ _ _)
  ·exact .refl _
def aLy (n : Nat) : List (Nat × AV) → List (Nat × AV)
 | [] => []
 | (t, v) :: r => aPb n t v r
def aID (lo : Nat) : Heap → Heap
 | [] => []
 | (k, b) :: r => aPc lo k b r
def St.sort (n lo : Nat) (σ : St) : St := { σ with slots := aLy n σ.slots, H := aID lo σ.H }
theorem aDm (lo : Nat) : ∀ l : Heap, (aID lo l).Perm l
 | [] => .refl _
 | (_, _) :: _ => ay7 ..
theorem aDU (n u : Nat) : ∀ l : List (Nat × AV), adA (aLy n l) u = adA l u
 | [] => rfl
 | (_, _) :: _ => ay2 ..
theorem SRel.sort {ρ : Nat → Nat} {σ : St} {a : Act} {w : World} (hs : SRel C ρ σ a w) (n lo : Nat) : SRel C ρ (σ.sort n lo) a w ∧ ∀ m, Fr C m ρ σ.H w ρ (σ.sort n lo).H w := by
 have hp := aDm lo σ.H
 obtain ⟨h1, h2⟩ := hs.m.perm (H' := aID lo σ.H) (fun x => hp.mem_iff.symm) ((hp.map _).nodup_iff.2 hs.m.nodup)
 refine ⟨⟨h1, fun t => ?_, hs.size, hs.defers.mono h2.data h2.size⟩, fun m => h2.fr (fun k _ hk => ((hp.map _).mem_iff).1 hk)⟩
 show VR C ρ (aID lo σ.H) w (adA (aLy n σ.slots) t) _
 rw [aDU]
 exact h2.vr (hs.slots t)
def aBl : Bk → Bk
 | .loop r => match r.st with
  | .exhausted => .any
  | _ => .loop r
 | b => b
def aq1 : Heap → Heap
 | [] => []
 | (k, b) :: r => (k, aBl b) :: aq1 r
def St.forget (σ : St) : St := { σ with H := aq1 σ.H }
theorem an6 : ∀ H : Heap, (aq1 H).keys = H.keys
 | [] => rfl
 | (k, _) :: r => congrArg (k :: ·) (an6 r)
theorem aq0 : ∀ {H : Heap} {k : Nat} {b : Bk}, (k, b) ∈ aq1 H → ∃ c, (k, c) ∈ H ∧ b = aBl c
 | (j, c) :: r, k, b, h => by
  rcases zo.1 h with e | h
  ·injection e with e1 e2; subst e1; exact ⟨c, zv, e2⟩
  ·obtain ⟨d, h1, h2⟩ := aq0 h; exact ⟨d, zq _ h1, h2⟩
theorem aqZ : ∀ {H : Heap} {k : Nat} {e : TypeId} {t : Ty} {l : List t.T}, (k, Bk.row e t l) ∈ H → (k, Bk.row e t l) ∈ aq1 H
 | (j, c) :: r, k, e, t, l, h => by
  rcases zo.1 h with h | h
  ·rw [← h]; exact zv
  ·exact zq _ (aqZ h)
theorem SRel.forget {ρ : Nat → Nat} {σ : St} {a : Act} {w : World} (hs : SRel C ρ σ a w) : SRel C ρ σ.forget a w ∧ ∀ m, Fr C m ρ σ.H w ρ σ.forget.H w := by
 have hk : σ.forget.H.keys = σ.H.keys := an6 σ.H
 have h2 : Ext C ρ σ.H w ρ σ.forget.H w := ⟨fun b hb => ⟨⟨hb.1, hb.2.1, fun k h => hb.2.2 k (hk ▸ h)⟩, rfl⟩, fun k h => ⟨by rw [hk]; exact h, rfl⟩, fun k e t l h => ⟨l, aqZ h, zi _, fun c fr hc => ⟨c, fr, hc, rfl⟩⟩, zi _⟩
 refine ⟨⟨⟨hs.m.below, by rw [hk]; exact hs.m.nodup, fun k h => hs.m.lt k (hk ▸ h), fun k h k' h' => hs.m.inj k (hk ▸ h) k' (hk ▸ h'), fun k h => hs.m.low k (hk ▸ h), fun k b hb => ?_⟩, fun t => h2.vr (hs.slots t), hs.size, hs.defers.mono h2.data h2.size⟩, fun m => h2.fr (fun k _ h => hk ▸ h)⟩
 obtain ⟨c, hc, rfl⟩ := aq0 hb
 have hr := hs.m.mem k c hc
 cases c with
 | loop r =>
  unfold aBl
  cases hst : r.st <;> simp only [hst] <;> first | exact BkR.ext h2 rfl hr | exact hr.block
 | _ => exact BkR.ext h2 rfl hr
theorem aBf (n k p lo : Nat) (σ : St) (r : List (Nat × Nat)) (hn : σ.next ≤ (((σ.rekeysK n r).sort p lo).forget.raise k).next) : aEL n σ (((σ.rekeysK n r).sort p lo).forget.raise k) := by
 intro C ρ a w hs
 obtain ⟨ρ', h1, h2⟩ := SRel.rekeysK (n := n) r hs
 obtain ⟨h3, h4⟩ := h1.sort p lo
 obtain ⟨h5, h6⟩ := h3.forget
 exact ⟨ρ', h5.raise k, (h2.trans (zi _) (h4 n)).trans (zi _) (h6 n), hn⟩
end
open Go Go.RowKit
def aGj (a : AV) (K : AV → Prop) : Prop := match a with
 | .d t x => K (.d t x)
 | .ptr k o => K (.ptr k o)
 | .eptr k i => K (.eptr k i)
 | .efp k i f => K (.efp k i f)
 | .dptr t x => K (.dptr t x)
 | .own k o n => K (.own k o n)
 | .ox k o n => K (.ox k o n)
 | .sv k n => K (.sv k n)
 | .nsl => K (.nsl)
 | .nilp => K (.nilp)
 | .nili => K (.nili)
 | .nni => K (.nni)
 | .ifc k t x => K (.ifc k t x)
 | .fn f a b => K (.fn f a b)
 | .yld l => K (.yld l)
 | .mp k => K (.mp k)
 | .ag l => K (.ag l)
 | .tup l => K (.tup l)
 | .und => K (.und)
 | .no => K (.no)
theorem ayW (a : AV) (K : AV → Prop) : aGj a K = K a := by cases a <;> rfl
def aqM : List AV → (List AV → Prop) → Prop
 | [], K => K []
 | a :: r, K => aGj a fun a' => aqM r fun r' => K (a' :: r')
theorem ayV : ∀ (l : List AV) (K : List AV → Prop), aqM l K = K l
 | [], _ => rfl
 | a :: r, K => by simp only [aqM, ayW, ayV r]
def aJv (a : AV) (K : AV → Prop) : Prop := match a with
 | .fn f x y => aqM x fun x' => aqM y fun y' => K (.fn f x' y')
 | .ag l => aqM l fun l' => K (.ag l')
 | .tup l => aqM l fun l' => K (.tup l')
 | a => aGj a K
theorem aCx (a : AV) (K : AV → Prop) : aJv a K = K a := by
 cases a <;> simp only [aJv, ayV, ayW]
def aJs : List AV → (List AV → Prop) → Prop
 | [], K => K []
 | a :: r, K => aJv a fun a' => aJs r fun r' => K (a' :: r')
theorem aCv : ∀ (l : List AV) (K : List AV → Prop), aJs l K = K l
 | [], _ => rfl
 | a :: r, K => by simp only [aJs, aCx, aCv r]
def aCu : List (Nat × AV) → (List (Nat × AV) → Prop) → Prop
 | [], K => K []
 | (t, a) :: r, K => aJv a fun a' => aCu r fun r' => K ((t, a') :: r')
theorem ayU : ∀ (l : List (Nat × AV)) (K : List (Nat × AV) → Prop), aCu l K = K l
 | [], _ => rfl
 | (t, a) :: r, K => by simp only [aCu, aCx, ayU r]
def aLW (b : Bk) (K : Bk → Prop) : Prop := match b with
 | .vars e l => aJs l fun l' => K (.vars e l')
 | b => K b
theorem aJu (b : Bk) (K : Bk → Prop) : aLW b K = K b := by cases b <;> simp only [aLW, aCv]
def aJt : Heap → (Heap → Prop) → Prop
 | [], K => K []
 | (k, b) :: r, K => aLW b fun b' => aJt r fun r' => K ((k, b') :: r')
theorem aCw : ∀ (H : Heap) (K : Heap → Prop), aJt H K = K H
 | [], _ => rfl
 | (k, b) :: r, K => by simp only [aJt, aJu, aCw r]
def auE (σ : St) (K : St → Prop) : Prop := aCu σ.slots fun s => aJt σ.H fun h => K { slots := s, H := h, next := σ.next, n := σ.n }
theorem ag9 (σ : St) (K : St → Prop) : auE σ K = K σ := by simp only [auE, ayU, aCw]
def aK0 (o : Oper) : Bool :=
 match o.guard with
 | some _ => false
 | none => match o.dst with
  | none => false
  | some _ => match o.op with
   | .move _ => true
   | .load _ _ => true
   | .fieldAddr _ _ _ => true
   | .field _ _ _ => true
   | .indexAddr _ _ _ => true
   | .index _ _ _ => true
   | .extract _ _ => true
   | .convert _ _ _ => true
   | .build _ _ => true
   | .binOp _ _ _ _ _ => true
   | .unOp _ _ _ => true
   | _ => false
def evU (P : Program) (H : Heap) (arg : Operand → AV) (o : Oper) : T AV :=
 match o.op with
 | .load t a => an3 P H t (arg a)
 | _ => evP P H arg o
def aIs : List Oper → Nat → Nat → Nat
 | [], _, u => u
 | o :: r, i, u => match aK0 o && o.after.toList.all (fun e => !acS e || u.testBit e.on) with
  | true => aIs r (i + 1) (u ||| 2 ^ i)
  | false => aIs r (i + 1) u
def aOj (o : Oper) (t : Nat) : List Oper → Nat → Bool
 | [], _ => true
 | p :: r, j => (match p.dst with
  | some d => match Nat.beq d t with
   | true => adX o j
   | false => true
  | none => true) && aOj o t r (j + 1)
def ahT (o : Oper) : Bool := match o.op with
 | .select _ _ => false
 | .defer _ => false
 | _ => true
def aMZ (pre : List Oper) : List Oper → Nat → Bool
 | [], _ => true
 | o :: r, i => (match o.guard with | none => true | some _ => false) && ((aiJ o.op.operands.toList).all (fun t => aOj o t pre 0) && ((match o.dst with | some d => ar7 i d pre 0 | none => true) && (ahT o && aMZ pre r (i + 1))))
def agW (m i : Nat) : List Nat → Nat → Bool
 | [], _ => false
 | x :: r, j => (m.testBit j && x.testBit i) || agW m i r (j + 1)
def aCd (a b : AV) : Prop := a = b
def aFd (r y : AV) (K : Prop) : Prop := match y with
 | .ptr _ _ => (match avE r y with | true => K | false => False)
 | .nsl => (match avE r y with | true => K | false => False)
 | .own _ _ _ => (match avE r y with | true => K | false => False)
 | _ => aCd r y ∧ K
theorem axZ {r y : AV} {K : Prop} (h : aFd r y K) : r = y ∧ K := by
 unfold aFd at h
 split at h
 ·split at h
  ·rename_i h1; exact ⟨asE _ _ h1, h⟩
  ·exact h.elim
 ·split at h
  ·rename_i h1; exact ⟨asE _ _ h1, h⟩
  ·exact h.elim
 ·split at h
  ·rename_i h1; exact ⟨asE _ _ h1, h⟩
  ·exact h.elim
 ·exact h
def aOY (c n : Nat) : Heap → List (Nat × Nat)
 | [] => []
 | (k, _) :: r => match Nat.ble n k with
  | true => (k, c + (k - n)) :: aOY c n r
  | false => aOY c n r
def aP7 (b L i k : Nat) (σ σ1 : St) : St :=
 match Nat.ble σ1.next ((σ1.rekeysK b (aOY (b + 1000 * (i + 1)) σ.next σ1.H)).raise (b + 1000 * (L + 2) + 1000 * (L - k))).next with
 | true => (σ1.rekeysK b (aOY (b + 1000 * (i + 1)) σ.next σ1.H)).raise (b + 1000 * (L + 2) + 1000 * (L - k))
 | false => σ1
theorem aEs (b L i k : Nat) (σ σ1 : St) : aEL b σ1 (aP7 b L i k σ σ1) := by
 unfold aP7
 split
 ·rename_i h; exact aBe _ _ _ _ (Nat.le_of_ble_eq_true h)
 ·exact fun C ρ a w hs => ⟨ρ, hs, Fr.refl _ _ _ _ _, zi _⟩
def obU (P : Program) (σ : St) (o : Oper) (K : Prop) : Prop :=
 match o.dst with
 | none => False
 | some d => (evU P σ.H σ.eval o).holds fun r => match adA σ.slots d with
  | .no => K
  | y => aFd r y K
def ae2 (P : Program) (ms : List Nat) (u m : Nat) (σ : St) (K : Prop) : List Oper → Nat → Prop
 | [], _ => K
 | o :: r, i => match u.testBit i && !agW m i ms 0 with
  | true => obU P σ o (ae2 P ms u m σ K r (i + 1))
  | false => ae2 P ms u m σ K r (i + 1)
def aIL (P : Program) (u : Nat) (K : St → Prop) : List Oper → Nat → St → Prop
 | [], _, σ => K σ
 | o :: r, i, σ => match u.testBit i with
  | true => (evU P σ.H σ.eval o).holds fun x => aIL P u K r (i + 1) (σ.put o.dst x)
  | false => aIL P u K r (i + 1) σ
def aJ6 (o : Oper) (v : Nat) : Bool := o.after.toList.all fun e => !acS e || v.testBit e.on
def arP (v : Nat) : List Oper → Nat → List (Nat × Oper)
 | [], _ => []
 | o :: r, i => match !(v.testBit i) && aJ6 o v with
  | true => (i, o) :: arP v r (i + 1)
  | false => arP v r (i + 1)
structure Both (p q : Prop) : Prop where
 l : p
 r : q
def aOr (f : Nat × Oper → Prop) : List (Nat × Oper) → Prop
 | [] => False
 | [x] => f x
 | x :: y :: r => Both (f x) (aOr f (y :: r))
theorem aC6 {f : Nat × Oper → Prop} : ∀ {l : List (Nat × Oper)}, aOr f l → ∀ x ∈ l, f x
 | [x], h, y, hy => by
  rcases zo.1 hy with rfl | hy
  ·exact h
  ·cases hy
 | x :: z :: r, h, y, hy => by
  rcases zo.1 hy with rfl | hy
  ·exact h.l
  ·exact aC6 h.r y hy
def goQ (K : St → Prop) : Fi → Prop
 | .go σ => K σ
 | .pan _ _ => False
def aoG (v : Nat) : List Oper → Nat → Nat
 | [], _ => 0
 | _ :: r, i => match v.testBit i with
  | true => aoG v r (i + 1)
  | false => aoG v r (i + 1) + 1
def akJ (m : Nat) : List Oper → Nat → Nat → Nat
 | [], _, u => u
 | o :: r, i, u => match !((u ||| m).testBit i) && (aK0 o && o.after.toList.all (fun e => !acS e || (u ||| m).testBit e.on)) with
  | true => akJ m r (i + 1) (u ||| 2 ^ i)
  | false => akJ m r (i + 1) u
def aQr (c : Nat) (t s : Prop) : Prop := match c with
 | 0 => t
 | _ + 1 => s
def aGt {α : Type} : List α → Bool
 | _ :: _ :: _ => true
 | _ => false
def aP8 (c : Bool) (b L i k : Nat) (σ σ1 : St) : St := match c with
 | true => aP7 b L i k σ σ1
 | false => σ1
theorem aEt (c : Bool) (b L i k : Nat) (σ σ1 : St) : aEL b σ1 (aP8 c b L i k σ σ1) := by
 cases c with
 | true => exact aEs b L i k σ σ1
 | false => exact fun C ρ a w hs => ⟨ρ, hs, Fr.refl _ _ _ _ _, zi _⟩
def azW (P : Program) (Γ : Cons) (call : acI) (b : Nat) (pre : List Oper) (ms : List Nat) (tl : St → Prop) : Nat → Bool → Nat → Nat → St → Prop
 | 0, _, u, m, σ => ae2 P ms u m σ (aQr (aoG (u ||| m) pre 0) (tl σ) False) pre 0
 | k + 1, c, u, m, σ => ae2 P ms u m σ (aQr (aoG (u ||| m) pre 0) (tl σ) (aOr (fun x => opS P Γ call x.2 σ (goQ fun σ' => auE (aP8 (c || aGt (arP (u ||| m) pre 0)) b pre.length x.1 k σ σ') fun σ2 => aIL P (akJ (m ||| 2 ^ x.1) pre 0 u ^^^ u) (fun σ1 => azW P Γ call b pre ms tl k (c || aGt (arP (u ||| m) pre 0)) (akJ (m ||| 2 ^ x.1) pre 0 u) (m ||| 2 ^ x.1) σ1) pre 0 σ2)) (arP (u ||| m) pre 0))) pre 0
def aEj (P : Program) (Γ : Cons) (call : acI) (ops : Array Oper) (σ : St) (K : Fi → Prop) : Prop :=
 let l := ops.toList
 let ms := ab2 l []
 let m := ab9 ms
 let pre := l.take m
 let u := aIs pre 0 0
 match aMZ pre pre 0 && ac7 l 0 && ag2 m ms 0 && Nat.ble m l.length with
 | true => auE σ fun σ => aIL P u (fun σ' => azW P Γ call σ.next pre ms (fun σ'' => abM P Γ call ops (l.drop m) σ'' K) (aoG u pre 0) false u 0 σ') pre 0 σ
 | false => False
theorem MRel.keepP {C : Ctx} {ρ : Nat → Nat} {H : Heap} {next : Nat} {w : World} (hm : MRel C ρ H next w) (p : Nat → Bool) :
  MRel C ρ (H.keep p ae3) next w ∧ (∀ x v, VR C ρ H w x v → VR C ρ (H.keep p ae3) w (x.map p ae3) v) ∧ ∀ n, Fr C n ρ H w ρ (H.keep p ae3) w := by
 have hv : ∀ x v, VR C ρ H w x v → VR C ρ (H.keep p ae3) w (x.map p ae3) v := fun x v h =>
  VR.map (fun b hb => ⟨hb.keep, rfl⟩) (fun k hk hp => ⟨Heap.keys_keep.2 ⟨hp, hk⟩, rfl⟩) (fun k e t l hk hp => ⟨l, Heap.mem_keep.2 ⟨hp, _, hk, rfl⟩, zi _, fun c fr hc => ⟨c, fr, hc, rfl⟩⟩) (fun _ _ _ _ _ _ => .no) h
 have hd : ∀ b, Ok C ρ H w b → Ok C ρ (H.keep p ae3) w b ∧ w.heap[b]? = w.heap[b]? := fun b hb => ⟨hb.keep, rfl⟩
 refine ⟨⟨hm.below, Heap.nodup_keep hm.nodup, fun k hk => hm.lt k (Heap.keys_keep.1 hk).2, fun k hk k' hk' => hm.inj k (Heap.keys_keep.1 hk).2 k' (Heap.keys_keep.1 hk').2, fun k hk => hm.low k (Heap.keys_keep.1 hk).2, fun k b hb => ?_⟩, hv,
  fun n => ⟨hd, fun k _ hk => ⟨(Heap.keys_keep.1 hk).2, rfl⟩, fun k e t l _ hkm hk => ⟨l, Heap.mem_keep.2 ⟨(Heap.keys_keep.1 hk).1, _, hkm, rfl⟩, zi _, fun c fr hc => ⟨c, fr, hc, rfl⟩⟩, zi _⟩⟩
 obtain ⟨_, b', hb', rfl⟩ := Heap.mem_keep.1 hb
 have hbr := hm.mem k b' hb'
 cases b' with
 | vars e cells =>
  obtain ⟨c, g1, g2, g3⟩ := hbr
  exact ⟨c, g1, VRs.map hv g2, g3⟩
 | row e t l =>
  obtain ⟨c, g1, g2, g3, g4, g5⟩ := hbr
  exact ⟨c, g1, g2, g3, RdL.mono (fun x cs => Rd.mono hd t x cs) _ _ g4, g5⟩
 | loop r =>
  obtain ⟨fn, tmps, d, g1, g2, g3⟩ := hbr
  exact ⟨fn, tmps, d, g1, g2, fun t => by show VR C ρ _ w (adA (abL _ _ r.slots) t) _; rw [alT]; exact hv _ _ (g3 t)⟩
 | dic k l => obtain ⟨es, n, g1, g2⟩ := hbr; exact ⟨es, n, g1, g2.map hv⟩
 | any => exact hbr
section
variable {C : Ctx} {P : Program} {G : World → Prop} {Γ : Cons} {ops : Array Oper}
theorem azX {ρ : Nat → Nat} {H : Heap} {next : Nat} {w : World} (hm : MRel C ρ H next w) {arg : Operand → AV} {val : Operand → Value} {o : Oper} {r : AV} (h : (evU P H arg o).Leaf r)
  (hv : ∀ x, VR C ρ H w (arg x) (val x)) : ∃ v, (execOp val o).run P w = .ok (.value v) w ∧ VR C ρ H w r v := by
 unfold evU at h
 split at h
 ·rename_i t a ho
  obtain ⟨v', h1, h2⟩ := aiV (fun _ h => h) hm h (hv a)
  exact ⟨v', by simp [execOp, ho, h1], h2⟩
 ·exact azY (fun _ h => h) hm h hv
theorem aAe {o : Oper} {t : Nat} : ∀ {l : List Oper} {k : Nat}, aOj o t l k = true → ∀ {j : Nat} {p : Oper}, l[j]? = some p → p.dst = some t → adX o (k + j) = true
 | [], _, _, j, p, hp, _ => by simp at hp
 | q :: r, k, h, j, p, hp, hd => by
  simp only [aOj, zj] at h
  cases j with
  | zero =>
   simp at hp; subst hp
   have h1 := h.1
   rw [hd] at h1
   simp only [show Nat.beq t t = true from Nat.beq_refl t] at h1
   simpa using h1
  | succ j =>
   have := aAe h.2 (j := j) (by simpa using hp) hd
   rwa [show k + 1 + j = k + (j + 1) by omega] at this
theorem aAf {pre : List Oper} : ∀ {l : List Oper} {k : Nat}, aMZ pre l k = true → ∀ {i : Nat} {o : Oper}, l[i]? = some o →
  o.guard = none ∧ (∀ t ∈ aiJ o.op.operands.toList, aOj o t pre 0 = true) ∧ (∀ d, o.dst = some d → ar7 (k + i) d pre 0 = true) ∧ ahT o = true
 | [], _, _, i, o, ho => by simp at ho
 | q :: r, k, h, i, o, ho => by
  simp only [aMZ, zj, wG] at h
  cases i with
  | zero =>
   simp at ho; subst ho
   obtain ⟨h1, h2, h3, h4, _⟩ := h
   refine ⟨?_, h2, fun d hd => ?_, h4⟩
   ·cases hg : q.guard with
    | none => rfl
    | some x => rw [hg] at h1; cases h1
   ·rw [hd] at h3; exact h3
  | succ i =>
   obtain ⟨h1, h2, h3, h4⟩ := aAf h.2.2.2.2 (i := i) (o := o) (by simpa using ho)
   refine ⟨h1, h2, fun d hd => ?_, h4⟩
   have := h3 d hd
   rwa [show k + 1 + i = k + (i + 1) by omega] at this
theorem al2 {m i : Nat} : ∀ {l : List Nat} {k : Nat}, agW m i l k = true → ∃ j x, l[j]? = some x ∧ m.testBit (k + j) = true ∧ x.testBit i = true
 | [], _, h => by cases h
 | x :: r, k, h => by
  simp only [agW, yT, zj] at h
  rcases h with h | h
  ·exact ⟨0, x, rfl, h.1, h.2⟩
  ·obtain ⟨j, y, h1, h2, h3⟩ := al2 h
   exact ⟨j + 1, y, by simpa using h1, by rwa [show k + (j + 1) = k + 1 + j by omega], h3⟩
theorem av2 {σ : St} {o : Oper} {K : Prop} (h : obU P σ o K) : (∃ d r, o.dst = some d ∧ (evU P σ.H σ.eval o).Leaf r ∧ (adA σ.slots d = .no ∨ r = adA σ.slots d)) ∧ K := by
 unfold obU at h
 split at h
 ·exact h.elim
 ·rename_i d hd
  obtain ⟨r, h1, h2⟩ := T.leaf h
  split at h2
  ·rename_i hl; exact ⟨⟨d, r, hd, h1, Or.inl hl⟩, h2⟩
  ·exact ⟨⟨d, r, hd, h1, Or.inr (axZ h2).1⟩, (axZ h2).2⟩
theorem af8 {ms : List Nat} {u m : Nat} {σ : St} {K : Prop} : ∀ {l : List Oper} {k : Nat}, ae2 P ms u m σ K l k → K
 | [], _, h => h
 | o :: r, k, h => by
  simp only [ae2] at h
  split at h
  ·exact af8 (av2 h).2
  ·exact af8 h
theorem ajG {ms : List Nat} {u m : Nat} {σ : St} {K : Prop} : ∀ {l : List Oper} {k : Nat}, ae2 P ms u m σ K l k → ∀ {i : Nat} {o : Oper}, l[i]? = some o → u.testBit (k + i) = true → agW m (k + i) ms 0 = false →
  ∃ d r, o.dst = some d ∧ (evU P σ.H σ.eval o).Leaf r ∧ (adA σ.slots d = .no ∨ r = adA σ.slots d)
 | [], _, _, i, o, ho, _, _ => by simp at ho
 | q :: r, k, h, i, o, ho, hu, hb => by
  simp only [ae2] at h
  cases i with
  | zero =>
   simp at ho; subst ho
   rw [wu] at hu hb
   rw [hu, hb] at h
   exact (av2 h).1
  | succ i =>
   have e : k + (i + 1) = k + 1 + i := zc
   rw [e] at hu hb
   split at h
   ·exact ajG (av2 h).2 (by simpa using ho) hu hb
   ·exact ajG h (by simpa using ho) hu hb
theorem az4 {v : Nat} : ∀ {l : List Oper} {k i : Nat} {o : Oper}, l[i]? = some o → v.testBit (k + i) = false → aJ6 o v = true → (k + i, o) ∈ arP v l k
 | [], _, i, o, ho, _, _ => by simp at ho
 | q :: r, k, i, o, ho, hv, he => by
  simp only [arP]
  cases i with
  | zero =>
   simp at ho; subst ho
   rw [wu] at hv ⊢
   rw [hv, he]
   exact zv
  | succ i =>
   have e : k + (i + 1) = k + 1 + i := zc
   rw [e] at hv ⊢
   have := az4 (k := k + 1) (by simpa using ho) hv he
   split
   ·exact zq _ this
   ·exact this
theorem ar1 {v : Nat} : ∀ {l : List Oper} {k : Nat}, (∀ i, i < l.length → v.testBit (k + i) = true) → aoG v l k = 0
 | [], _, _ => rfl
 | q :: r, k, h => by
  simp only [aoG]
  rw [show v.testBit k = true by have := h 0 zh; rwa [wu] at this]
  exact ar1 fun i hi => by have := h (i + 1) zg; rwa [show k + 1 + i = k + (i + 1) by omega]
theorem aoI {m i j : Nat} : (m ||| 2 ^ i).testBit j = (m.testBit j || decide (i = j)) := by
 rw [yX, Nat.testBit_two_pow]
theorem aHC {v n : Nat} : ∀ {l : List Oper} {k : Nat}, (∀ i, i < l.length → k + i ≠ n) → aoG (v ||| 2 ^ n) l k = aoG v l k
 | [], _, _ => rfl
 | q :: r, k, h => by
  have hk : n ≠ k := fun e => h 0 zh zc
  have ih := aHC (v := v) (n := n) (l := r) (k := k + 1) fun i hi => by have := h (i + 1) zg; omega
  simp only [aoG, aoI, zn hk, Bool.or_false, ih]
theorem aCZ {v n : Nat} : ∀ {l : List Oper} {k i : Nat}, i < l.length → n = k + i → v.testBit n = false → aoG v l k = aoG (v ||| 2 ^ n) l k + 1
 | q :: r, k, 0, _, hn, hv => by
  rw [wu] at hn
  subst hn
  have := aHC (v := v) (n := n) (l := r) (k := n + 1) fun i _ => by omega
  simp only [aoG, aoI, hv, decide_true, Bool.or_true, this]
 | q :: r, k, i + 1, hi, hn, hv => by
  have ih := aCZ (l := r) (k := k + 1) (i := i) (by simpa using hi) zc hv
  have hk : n ≠ k := zc
  simp only [aoG, aoI, zn hk, Bool.or_false]
  split
  ·exact ih
  ·omega
theorem aAc {v v' : Nat} (h : ∀ i, v.testBit i = true → v'.testBit i = true) : ∀ {l : List Oper} {k : Nat}, aoG v' l k ≤ aoG v l k
 | [], _ => zi _
 | q :: r, k => by
  have ih := aAc h (l := r) (k := k + 1)
  simp only [aoG]
  cases h1 : v.testBit k with
  | true => rw [h k h1]; exact ih
  | false =>
   cases v'.testBit k with
   | true => exact Nat.le_succ_of_le ih
   | false => exact Nat.succ_le_succ ih
theorem amJ {m : Nat} : ∀ {l : List Oper} {k u : Nat}, (∀ j, u.testBit j = true → (akJ m l k u).testBit j = true) ∧ ∀ j, (akJ m l k u).testBit j = true → u.testBit j = true ∨ m.testBit j = false
 | [], _, _ => ⟨fun _ h => h, fun _ h => Or.inl h⟩
 | o :: r, k, u => by
  simp only [akJ]
  split
  ·rename_i hc
   rw [zj] at hc
   obtain ⟨h1, h2⟩ := amJ (m := m) (l := r) (k := k + 1) (u := u ||| 2 ^ k)
   refine ⟨fun j hj => h1 j (by rw [aoI, hj]; rfl), fun j hj => ?_⟩
   rcases h2 j hj with h | h
   ·rw [aoI, yT, ya] at h
    rcases h with h | rfl
    ·exact Or.inl h
    ·have h3 := hc.1
     rw [yX] at h3
     simp only [zX, wK] at h3
     exact Or.inr h3.2
   ·exact Or.inr h
  ·exact amJ
theorem aCP {P : Program} {Γ : Cons} {call : acI} {b : Nat} {pre : List Oper} {ms : List Nat} {tl : St → Prop} {k u m : Nat} {c : Bool} {σ : St} (hc : aoG (u ||| m) pre 0 = 0) (h : azW P Γ call b pre ms tl k c u m σ) : tl σ := by
 cases k with
 | zero => have h := af8 (show ae2 P ms u m σ _ pre 0 from h); rw [hc] at h; exact h
 | succ k => have h := af8 (show ae2 P ms u m σ _ pre 0 from h); rw [hc] at h; exact h
structure Agree (L : Nat → Prop) (a b : Act) : Prop where
 tmps : ∀ t, ¬ L t → a.tmps.getD t undef = b.tmps.getD t undef
 size : a.tmps.size = b.tmps.size
 defers : a.defers = b.defers
theorem Agree.put {L : Nat → Prop} {a b : Act} (h : Agree L a b) (dst : Option Nat) (v : Value) : Agree L (a.put dst v) (b.put dst v) := by
 refine ⟨fun t ht => ?_, by rw [ahQ, ahQ]; exact h.size, by rw [aeE, aeE]; exact h.defers⟩
 rw [ahY, ahY, h.size, h.tmps t ht]
theorem Agree.eval {L : Nat → Prop} {a b : Act} (h : Agree L a b) {x : Operand} (hx : ∀ t, x = .tmp t → ¬ L t) : a.eval x = b.eval x := by
 cases x with
 | tmp t => exact h.tmps t (hx t rfl)
 | _ => rfl
theorem SRel.agree {ρ : Nat → Nat} {σ : St} {a b : Act} {w : World} (hs : SRel C ρ σ b w) (h : Agree (fun _ => False) a b) : SRel C ρ σ a w :=
 ⟨hs.m, fun t => by rw [h.tmps t (fun h => h)]; exact hs.slots t, by rw [h.size]; exact hs.size, by rw [h.defers]; exact hs.defers⟩
theorem aDf {L : Nat → Prop} {a b : Act} {w : World} {o : Oper} {r : Option Nat} {Ka Kb : Act → World → Prop} {Q : Exit → Act → World → Prop} (hsel : ahT o = true) (ha : Agree L a b) (he : ∀ x ∈ o.op.operands, a.eval x = b.eval x)
  (hK : ∀ a' b' w', Agree L a' b' → Kb b' w' → Ka a' w') (h : o.wpIn (abI r) 0 P b w Kb (fun _ _ _ => False)) : o.wpIn (abI r) 0 P a w Ka Q := by
 have h1 : ∀ cs d, o.op ≠ .select cs d := fun cs d e => by simp [ahT, e] at hsel
 have h2 : ∀ c, o.op ≠ .defer c := fun c e => by simp [ahT, e] at hsel
 unfold Oper.wpIn at h ⊢
 refine ⟨fun _ _ => trivial, ?_⟩
 have h := h.2
 rw [Oper.semAt_eq _ _ _ h2] at h ⊢
 rw [execOp_congr o h1 he]
 generalize (execOp b.eval o).run P w = res at h
 cases res with
 | ok x w' =>
  cases x <;> simp only [Oper.uponIn] at h ⊢
  case value u => exact hK _ _ _ (ha.put _ _) h
  case skip => exact hK _ _ _ (ha.put _ _) h
  case defer d => exact hK _ _ _ (Agree.put (a := { a with defers := d :: a.defers }) (b := { b with defers := d :: b.defers }) ⟨ha.tmps, ha.size, congrArg (d :: ·) ha.defers⟩ _ _) h
  case enter f args =>
   refine ⟨h.1, CallsIn.mono h.2 fun e w'' he => ?_⟩
   cases e with
   | returned u => exact hK _ _ _ (ha.put _ _) he
   | panicked c => exact he.elim
   | outgrown => obtain ⟨_, _, he⟩ := he; exact he.elim
  case row row args => exact ⟨h.1, RowsIn.mono h.2 fun u w'' he => hK _ _ _ (ha.put _ _) he⟩
  case round l f tmps assign body =>
   refine ⟨h.1, RoundIn.mono h.2 fun e w'' he => ?_⟩
   cases e with
   | returned u => exact hK _ _ _ (ha.put _ _) he
   | panicked c => exact he.elim
   | outgrown => obtain ⟨_, _, he⟩ := he; exact he.elim
 | halt x w' =>
  cases x <;> simp only [Oper.uponIn] at h
theorem ai8 {u : Nat} {Kf : St → Prop} {w : World} : ∀ (l : List Oper) (k : Nat) {ρ : Nat → Nat} {σ : St} {b : Act}, SRel C ρ σ b w → aIL P u Kf l k σ →
  ∃ σ' b', Kf σ' ∧ SRel C ρ σ' b' w ∧ Agree (fun t => ∃ j o, l[j]? = some o ∧ u.testBit (k + j) = true ∧ o.dst = some t) b b' ∧ σ'.H = σ.H ∧ σ'.next = σ.next
 | [], k, ρ, σ, b, hs, h => ⟨σ, b, h, hs, ⟨fun _ _ => rfl, rfl, rfl⟩, rfl, rfl⟩
 | o :: r, k, ρ, σ, b, hs, h => by
  simp only [aIL] at h
  have up : ∀ {t : Nat}, ¬ (∃ j o', (o :: r)[j]? = some o' ∧ u.testBit (k + j) = true ∧ o'.dst = some t) → ¬ ∃ j o', r[j]? = some o' ∧ u.testBit (k + 1 + j) = true ∧ o'.dst = some t := by
   rintro t hn ⟨j, o', h1, h2, h3⟩
   exact hn ⟨j + 1, o', by simpa using h1, by rwa [show k + (j + 1) = k + 1 + j by omega], h3⟩
  split at h
  ·rename_i hb
   obtain ⟨x, hx, h⟩ := T.leaf h
   obtain ⟨v, _, hv⟩ := azX hs.m hx (fun y => hs.eval y)
   obtain ⟨σ', b', h1, h2, h3, h4, h5⟩ := ai8 r (k + 1) (hs.put (dst := o.dst) hv) h
   refine ⟨σ', b', h1, h2, ⟨fun t ht => ?_, by rw [← h3.size, ahQ], by rw [← h3.defers, aeE]⟩, by rw [h4, St.put_H], by rw [h5, St.put_next]⟩
   rw [← h3.tmps t (up ht), ahY, if_neg]
   rintro ⟨hd, _⟩
   exact ht ⟨0, o, rfl, hb, hd⟩
  ·obtain ⟨σ', b', h1, h2, h3, h4, h5⟩ := ai8 r (k + 1) hs h
   exact ⟨σ', b', h1, h2, ⟨fun t ht => h3.tmps t (up ht), h3.size, h3.defers⟩, h4, h5⟩
theorem apV {listed : Array Bool} {i j : Nat} (hi : i < listed.size) : (listed.setIfInBounds i true).getD j false = if j = i then true else listed.getD j false := by
 rw [zm, zm]
 by_cases h : j = i
 ·subst h
  rw [if_pos rfl, yQ hi]
  rfl
 ·rw [if_neg h, yy (Ne.symm h)]
def aQK (l : List Oper) (m u : Nat) (listed : Array Bool) (t : Nat) : Prop := ∃ i o, i < m ∧ l[i]? = some o ∧ u.testBit i = true ∧ listed.getD i false = false ∧ o.dst = some t
theorem aGI (hG : adG G) (hC : G C.w0) (hΓ : Γ.ok P G) {call : acI} (hcall : CallSat P G call) {Q : Exit → Act → World → Prop} {K : Fi → Prop} {l : List Oper} {m : Nat} (hops : ops.toList = l)
  (hed : ac7 l 0 = true) (htail : ag2 m (ab2 l []) 0 = true) (hml : m ≤ l.length) (hchk : aMZ (l.take m) (l.take m) 0 = true) {σ0 : St} {ρ0 : Nat → Nat} {w0 : World}
  (hQ : ∀ a' w', Reach C σ0 ρ0 w0 (fun σ' => K (.go σ')) a' w' → Q .normal a' w') (hP : ∀ ch a' w', Reach C σ0 ρ0 w0 (fun σ' => K (.pan ch σ')) a' w' → Q (.panic ch) a' w') (rnd : Option Nat) :
  ∀ (fuel : Nat) (listed : Array Bool) (k : Nat) (cb : Bool) (u dn : Nat) {ρ : Nat → Nat} {σ : St} {a b : Act} {w : World}, listed.size = ops.size → (∀ j, m ≤ j → listed.getD j false = false) → avD l (fun i => listed.getD i false) →
   (∀ i, i < m → u.testBit i = false → listed.getD i false = dn.testBit i) → (∀ j, dn.testBit j = true → j < m ∧ listed.getD j false = true) → aoG (u ||| dn) (l.take m) 0 ≤ k →
   azW P Γ call σ0.next (l.take m) (ab2 l []) (fun σ'' => abM P Γ call ops (l.drop m) σ'' K) k cb u dn σ → SRel C ρ σ b w → Agree (aQK l m u listed) a b → Fr C σ0.next ρ0 σ0.H w0 ρ σ.H w → σ0.next ≤ σ.next →
   ops.size ≤ axP (fun i => listed.getD i false) ops.size + fuel → wpAnyIn (abI rnd) 0 P .any ops Q fuel listed a w := by
 have hlen : l.length = ops.size := by rw [← hops]; simp
 intro fuel
 induction fuel with
 | zero =>
  intro listed k cb u dn ρ σ a b w hsz htl hcl hN hdn hk ex hs hag hF hnx hfu
  have hall : ∀ i, i < m → listed.getD i false = true := by
   intro i hi
   cases hb : listed.getD i false with
   | true => rfl
   | false => have := aw5 (ls := fun i => listed.getD i false) hb (show i < ops.size by omega); omega
  have hk0 : aoG (u ||| dn) (l.take m) 0 = 0 := by
   refine ar1 fun i hi => ?_
   have him : i < m := by simp at hi; omega
   rw [zl, yX]
   cases hu : u.testBit i with
   | true => rfl
   | false => rw [← hN i him hu, hall i him]; rfl
  have hc := ae5 (ls := fun i => listed.getD i false) hall htl (n := ops.size)
  exact aoZ hG hC hΓ hcall hops hed htail (l.drop m) m 0 listed rfl (zi _) (by rw [zZ]; omega) hsz
   (fun i _ => by
    by_cases him : i < m
    ·rw [hall i him, zp him]
    ·rw [htl i zc, zn him])
   (hs.agree ⟨fun t _ => hag.tmps t (by rintro ⟨i, o, h1, _, _, h2, _⟩; rw [hall i h1] at h2; cases h2), hag.size, hag.defers⟩) (aCP hk0 ex) (fun a' w' hr => hQ a' w' (hr.trans hF hnx)) (fun ch a' w' hr => hP ch a' w' (hr.trans hF hnx)) rnd
 | succ fuel ih =>
  intro listed k cb u dn ρ σ a b w hsz htl hcl hN hdn hk ex hs hag hF hnx hfu
  by_cases hall : ∀ i, i < m → listed.getD i false = true
  ·have hk0 : aoG (u ||| dn) (l.take m) 0 = 0 := by
    refine ar1 fun i hi => ?_
    have him : i < m := by simp at hi; omega
    rw [zl, yX]
    cases hu : u.testBit i with
    | true => rfl
    | false => rw [← hN i him hu, hall i him]; rfl
   have hc := ae5 (ls := fun i => listed.getD i false) hall htl (n := ops.size)
   exact aoZ hG hC hΓ hcall hops hed htail (l.drop m) m (fuel + 1) listed rfl (zi _) (by rw [zZ]; omega) hsz
    (fun i _ => by
     by_cases him : i < m
     ·rw [hall i him, zp him]
     ·rw [htl i zc, zn him])
    (hs.agree ⟨fun t _ => hag.tmps t (by rintro ⟨i, o, h1, _, _, h2, _⟩; rw [hall i h1] at h2; cases h2), hag.size, hag.defers⟩) (aCP hk0 ex) (fun a' w' hr => hQ a' w' (hr.trans hF hnx)) (fun ch a' w' hr => hP ch a' w' (hr.trans hF hnx)) rnd
  ·obtain ⟨i0, hi0, hl0, hbef⟩ := alU (ls := fun i => listed.getD i false) (m := m) (by
    apply Classical.byContradiction
    intro hn
    refine hall fun i hi => ?_
    cases hb : listed.getD i false with
    | true => rfl
    | false => exact absurd ⟨i, hi, hb⟩ hn)
   have gd : ∀ {i : Nat}, i < ops.size → listed.getD i true = listed.getD i false := by
    intro i hi
    rw [zm, zm, zS zc]
    rfl
   refine ⟨fun hnil => ?_, fun i hi => ?_⟩
   ·exfalso
    obtain ⟨o0, ho0⟩ : ∃ o, ops[i0]? = some o := ⟨_, zS (show i0 < ops.size by omega)⟩
    have h1 : l[i0]? = some o0 := by rw [← hops, zN]; exact ho0
    have : i0 ∈ Region.ready .any ops listed := mem_ready.2 ⟨by rw [gd zc]; exact hl0, o0, ho0, fun e he hb => by
     have h2 := ab3 hed h1 e he hb
     rw [zl] at h2
     exact hbef _ h2⟩
    rw [hnil] at this
    cases this
   ·obtain ⟨h0, o, ho, hpred⟩ := mem_ready.1 hi
    have hil : l[i]? = some o := by rw [← hops, zN]; exact ho
    have hio : i < ops.size := (yP.1 ho).1
    have hls : listed.getD i false = false := by rw [← gd hio]; exact h0
    have him : i < m := by
     apply Classical.byContradiction
     intro hge
     obtain ⟨x, hx⟩ : ∃ x, (ab2 l [])[i]? = some x := ⟨_, zG (by rw [(aeG l []).2]; simp; omega)⟩
     have hxe := agV htail hx zc
     rw [zl] at hxe
     have := ah7 hcl hed i o hil hpred x i0 hx (by rw [hxe, xQ]; simp; omega)
     have hl0' : listed.getD i0 false = false := hl0
     rw [show listed.getD i0 false = true from this] at hl0'
     cases hl0'
    have hpo : (l.take m)[i]? = some o := by rw [zK, if_pos him]; exact hil
    obtain ⟨hg, hrd, hdst, hsel⟩ := aAf hchk hpo
    rw [zl] at hdst
    have h1sel : ∀ cs d, o.op ≠ .select cs d := fun cs d e => by simp [ahT, e] at hsel
    have h2def : ∀ c, o.op ≠ .defer c := fun c e => by simp [ahT, e] at hsel
    have opr : ∀ x ∈ o.op.operands, a.eval x = b.eval x := by
     intro x hx
     refine hag.eval fun t ht hlate => ?_
     subst ht
     obtain ⟨j, p, hjm, hp, _, hjl, hpd⟩ := hlate
     have := aAe (hrd t (ajF (by simpa using hx))) (j := j) (p := p) (by rw [zK, if_pos hjm]; exact hp) hpd
     rw [zl] at this
     obtain ⟨e, he1, he2, he3⟩ := aeI this
     have h3 := hpred e he1 he2
     rw [he3, hjl] at h3
     cases h3
    have hsz' : (listed.setIfInBounds i true).size = ops.size := by simpa using hsz
    have hil' : i < listed.size := zc
    have htl' : ∀ j, m ≤ j → (listed.setIfInBounds i true).getD j false = false := by
     intro j hj
     rw [apV hil', if_neg zc]
     exact htl j hj
    have hcl' : avD l (fun j => (listed.setIfInBounds i true).getD j false) := by
     intro j p hp hj e he hb
     have hj' : (listed.setIfInBounds i true).getD j false = true := hj
     show (listed.setIfInBounds i true).getD e.on false = true
     rw [apV hil'] at hj' ⊢
     by_cases hji : j = i
     ·subst hji
      rw [hil] at hp; injection hp with hp; subst hp
      rw [show listed.getD e.on false = true from hpred e he hb]
      split <;> rfl
     ·rw [if_neg hji] at hj'
      rw [show listed.getD e.on false = true from hcl j p hp hj' e he hb]
      split <;> rfl
    have hfu' : ops.size ≤ axP (fun j => (listed.setIfInBounds i true).getD j false) ops.size + fuel := by
     have e : (fun j => (listed.setIfInBounds i true).getD j false) = al5 (fun j => listed.getD j false) i := by
      funext j
      rw [apV hil']
      unfold al5
      rfl
     rw [e, apC hls hio]
     omega
    unfold wpOpIn
    rw [ho]
    simp only
    rw [if_pos (by simp [Region.wanted, hg])]
    cases hu : u.testBit i with
    | true =>
     have hnb : agW dn i (ab2 l []) 0 = false := by
      cases hb : agW dn i (ab2 l []) 0 with
      | false => rfl
      | true =>
       obtain ⟨j, x, h1, h2, h3⟩ := al2 hb
       rw [zl] at h2
       obtain ⟨hjm, hjl⟩ := hdn j h2
       obtain ⟨p, hp⟩ : ∃ p, ops[j]? = some p := ⟨_, zS (show j < ops.size by omega)⟩
       have hjo : l[j]? = some p := by rw [← hops, zN]; exact hp
       have := ah7 hcl hed j _ hjo (fun e he hb => hcl j _ hjo hjl e he hb) x i h1 h3
       have h4 : listed.getD i false = true := this
       rw [hls] at h4; cases h4
     obtain ⟨d, r, hd, hleaf, hor⟩ : ∃ d r, o.dst = some d ∧ (evU P σ.H σ.eval o).Leaf r ∧ (adA σ.slots d = .no ∨ r = adA σ.slots d) := by
      cases k with
      | zero => exact ajG ex hpo (by rw [zl]; exact hu) (by rw [zl]; exact hnb)
      | succ k => exact ajG ex hpo (by rw [zl]; exact hu) (by rw [zl]; exact hnb)
     obtain ⟨v, hrun, hv⟩ := azX hs.m hleaf (fun x => hs.eval x)
     refine ⟨fun _ _ => trivial, ?_⟩
     rw [Oper.semAt_eq _ _ _ h2def, execOp_congr o h1sel opr, hrun]
     show wpAnyIn _ _ _ _ _ _ _ _ (a.put o.dst v) w
     have hvl : VR C ρ σ.H w (adA σ.slots d) v := by
      rcases hor with h | h
      ·rw [h]; exact .no
      ·rw [← h]; exact hv
     refine ih (listed.setIfInBounds i true) k cb u dn (ρ := ρ) (σ := σ) (b := b.put o.dst v) hsz' htl' hcl' (fun j hj huj => ?_) (fun j hj => ?_) hk ex ?_ ?_ hF hnx hfu'
     ·rw [apV hil', if_neg (by rintro rfl; rw [hu] at huj; cases huj)]
      exact hN j hj huj
     ·obtain ⟨g1, g2⟩ := hdn j hj
      refine ⟨g1, ?_⟩
      rw [apV hil', g2]
      split <;> rfl
     ·refine ⟨hs.m, fun t => ?_, by rw [ahQ]; exact hs.size, by rw [aeE]; exact hs.defers⟩
      rw [ahY]
      split
      ·rename_i hdt
       have : d = t := by have := hdt.1; rw [hd] at this; injection this
       subst this
       exact hvl
      ·exact hs.slots t
     ·refine ⟨fun t ht => ?_, by rw [ahQ, ahQ]; exact hag.size, by rw [aeE, aeE]; exact hag.defers⟩
      rw [ahY, ahY, hag.size]
      split
      ·rfl
      ·rename_i hnt
       by_cases htd : o.dst = some t
       ·have hge : ¬ t < b.tmps.size := fun h => hnt ⟨htd, h⟩
        rw [zm, zm, yR (by rw [hag.size]; omega), yR zc]
       ·refine hag.tmps t ?_
        rintro ⟨j, p, g1, g2, g3, g4, g5⟩
        refine ht ⟨j, p, g1, g2, g3, ?_, g5⟩
        rw [apV hil', if_neg (by rintro rfl; rw [hil] at g2; injection g2 with g2; subst g2; exact htd g5)]
        exact g4
    | false =>
     have hdi : dn.testBit i = false := by rw [← hN i him hu]; exact hls
     have hv : (u ||| dn).testBit i = false := by rw [yX, hu, hdi]; rfl
     have hcnt := aCZ (v := u ||| dn) (n := i) (l := l.take m) (k := 0) (i := i) zg zc hv
     obtain ⟨k', rfl⟩ : ∃ k', k = k' + 1 := ⟨k - 1, by omega⟩
     have hen : aJ6 o (u ||| dn) = true := by
      unfold aJ6
      rw [wG]
      intro e he
      cases hb : acS e with
      | false => rfl
      | true =>
       have he' : e ∈ o.after := by simpa using he
       have h3 := hpred e he' hb
       have h4 := ab3 hed hil e he' hb
       rw [zl] at h4
       rw [yX]
       cases hue : u.testBit e.on with
       | true => rfl
       | false => rw [← hN _ zc hue, h3]; rfl
     have ex' := af8 (show ae2 P (ab2 l []) u dn σ _ (l.take m) 0 from ex)
     rw [hcnt] at ex'
     have hf := aC6 (show aOr _ _ from ex') _ (az4 (k := 0) hpo (by rw [zl]; exact hv) hen)
     rw [zl] at hf
     simp only [ag9] at hf
     have hw := ayJ hG hC hΓ hcall hs hf (nx := fun b' w' => Reach C σ ρ w (fun σ' => aIL P (akJ (dn ||| 2 ^ i) (l.take m) 0 u ^^^ u) (fun σ1 => azW P Γ call σ0.next (l.take m) (ab2 l []) (fun σ'' => abM P Γ call ops (l.drop m) σ'' K) k' (cb || aGt (arP (u ||| dn) (l.take m) 0)) (akJ (dn ||| 2 ^ i) (l.take m) 0 u) (dn ||| 2 ^ i) σ1) (l.take m) 0 (aP8 (cb || aGt (arP (u ||| dn) (l.take m) 0)) σ0.next (l.take m).length i k' σ σ')) b' w') (Q := fun _ _ _ => False)
      (fun a' w' hr => hr) (fun ch a' w' ⟨_, _, hr, _⟩ => hr.elim) rnd
     refine aDf hsel hag opr ?_ hw
     rintro a' b' w' hab ⟨ρ', σ', g1, g2, g3, g4⟩
     obtain ⟨ρ'', p2, p3, p4⟩ := aEt (cb || aGt (arP (u ||| dn) (l.take m) 0)) σ0.next (l.take m).length i k' σ σ' C ρ' b' w' g2
     obtain ⟨σ1, b1, e1, e2, e3, e4, e5⟩ := ai8 _ 0 p2 g1
     obtain ⟨gu1, gu2⟩ := amJ (m := dn ||| 2 ^ i) (l := l.take m) (k := 0) (u := u)
     have hfr := (hF.trans hnx g3).trans (zi _) p3
     have hnw : ∀ j, j < m → (akJ (dn ||| 2 ^ i) (l.take m) 0 u ^^^ u).testBit j = true → (akJ (dn ||| 2 ^ i) (l.take m) 0 u).testBit j = true ∧ (listed.setIfInBounds i true).getD j false = false := by
      intro j hj hb
      rw [Nat.testBit_xor] at hb
      have hb2 : (akJ (dn ||| 2 ^ i) (l.take m) 0 u).testBit j = true ∧ u.testBit j = false := by
       cases h1 : u.testBit j with
       | true => rw [h1, gu1 j h1] at hb; cases hb
       | false => rw [h1] at hb; simpa using hb
      refine ⟨hb2.1, ?_⟩
      rcases gu2 j hb2.1 with h | h
      ·rw [hb2.2] at h; cases h
      ·rw [aoI, wK] at h
       rw [apV hil', if_neg (by rintro rfl; simp at h), hN j hj hb2.2]
       exact h.1
     refine ih (listed.setIfInBounds i true) k' _ _ (dn ||| 2 ^ i) (ρ := ρ'') (σ := σ1) (b := b1) hsz' htl' hcl' (fun j hj huj => ?_) (fun j hj => ?_) ?_ e1 e2 ⟨fun t ht => (hab.tmps t ?_).trans (e3.tmps t ?_), hab.size.trans e3.size, hab.defers.trans e3.defers⟩ (by rw [e4]; exact hfr) (by rw [e5]; exact zu (zu hnx g4) p4) hfu'
     ·have huj' : u.testBit j = false := by
       cases h1 : u.testBit j with
       | false => rfl
       | true => rw [gu1 j h1] at huj; cases huj
      rw [apV hil', aoI]
      by_cases hji : j = i
      ·subst hji; simp
      ·rw [if_neg hji, hN j hj huj', zn (fun e => hji e.symm), Bool.or_false]
     ·rw [aoI, yT, ya] at hj
      rcases hj with hj | hj
      ·obtain ⟨q1, q2⟩ := hdn j hj
       refine ⟨q1, ?_⟩
       rw [apV hil', q2]
       split <;> rfl
      ·subst hj
       exact ⟨him, by rw [apV hil', if_pos rfl]⟩
     ·have h1 : aoG (akJ (dn ||| 2 ^ i) (l.take m) 0 u ||| (dn ||| 2 ^ i)) (l.take m) 0 ≤ aoG (u ||| dn ||| 2 ^ i) (l.take m) 0 := by
       refine aAc fun j hj => ?_
       rw [Nat.or_assoc, yX, yT] at hj
       rw [yX, yT]
       rcases hj with h | h
       ·exact Or.inl (gu1 j h)
       ·exact Or.inr h
      omega
     ·rintro ⟨j, p, q1, q2, q3, q4, q5⟩
      refine ht ⟨j, p, q1, q2, gu1 j q3, ?_, q5⟩
      rw [apV hil', if_neg (by rintro rfl; rw [hu] at q3; cases q3)]
      exact q4
     ·rintro ⟨j, p, q1, q2, q3⟩
      rw [zl] at q2
      have hjm : j < m := by
       have := (zw.1 q1).1
       rw [zY] at this
       omega
      obtain ⟨n1, n2⟩ := hnw j hjm q2
      rw [zK, if_pos hjm] at q1
      exact ht ⟨j, p, hjm, q1, n1, n2, q3⟩
theorem arJ (hG : adG G) (hC : G C.w0) (hΓ : Γ.ok P G) {call : acI} (hcall : CallSat P G call) {Q : Exit → Act → World → Prop} {K : Fi → Prop} {ρ : Nat → Nat} {σ : St} {a : Act} {w : World}
  (hs : SRel C ρ σ a w) (h : aEj P Γ call ops σ K) (hQ : ∀ a' w', Reach C σ ρ w (fun σ' => K (.go σ')) a' w' → Q .normal a' w') (hP : ∀ ch a' w', Reach C σ ρ w (fun σ' => K (.pan ch σ')) a' w' → Q (.panic ch) a' w') (rnd : Option Nat) :
  wpAnyIn (abI rnd) 0 P .any ops Q ops.size (Array.replicate ops.size false) a { w with drawn := w.drawn + 1 } := by
 unfold aEj at h
 simp only [ag9] at h
 split at h
 ·rename_i hc
  simp only [zj] at hc
  obtain ⟨⟨⟨hchk, hed⟩, htail⟩, hml⟩ := hc
  have hml := Nat.le_of_ble_eq_true hml
  obtain ⟨hmd, hextd⟩ := hs.m.grow (w' := w.drew) ((Below.refl _ _).drew)
  have hs' : SRel C ρ σ a w.drew := ⟨hmd, fun t => hextd.vr (hs.slots t), hs.size, hs.defers.mono hextd.data hextd.size⟩
  obtain ⟨σ', b, h1, h2, h3, h4, h5⟩ := ai8 _ 0 hs' h
  have hrep : ∀ i, (Array.replicate ops.size false).getD i false = false := by
   intro i
   rw [zm]
   by_cases hi : i < ops.size
   ·rw [xD, if_pos hi]; rfl
   ·rw [xD, if_neg hi]; rfl
  refine aGI hG hC hΓ hcall (l := ops.toList) rfl hed htail hml hchk (σ0 := σ) (ρ0 := ρ) (w0 := w) hQ hP rnd ops.size (Array.replicate ops.size false) _ _ _ 0 zh (fun j _ => hrep j) (fun j o _ hj => by have hj' : (Array.replicate ops.size false).getD j false = true := hj; rw [hrep] at hj'; cases hj') (fun i _ _ => by rw [hrep, Nat.zero_testBit]) (fun j hj => by rw [Nat.zero_testBit] at hj; cases hj) (by rw [Nat.or_zero]; exact zi _) h1 h2
   ⟨fun t ht => h3.tmps t ?_, h3.size, h3.defers⟩ (by rw [h4]; exact hextd.fr (n := σ.next) (fun j _ hj => hj)) (by rw [h5]; exact zi _) zc
  rintro ⟨j, o, g1, g2, g3⟩
  rw [zl] at g2
  have hjm : j < ab9 (ab2 ops.toList []) := by
   have := (zw.1 g1).1
   rw [zY] at this
   omega
  rw [zK, if_pos hjm] at g1
  exact ht ⟨j, o, hjm, g1, g2, hrep j, g3⟩
 ·exact h.elim
theorem aFb (hG : adG G) (hmix : P.follows .mixedOrders = true) (hΓ : Γ.ok P G) {call : acI} (hcall : CallSat P G call) {rd : Option Nat} {id : Nat} {σ : St} {Q : Exit → St → Prop}
  (h : aEj P Γ call ops σ (aAC Q)) : Sat P G rd (.region id ops true) σ Q :=
 fun _ hC _ _ _ hs rnd _ => wpIn_region_any hmix (arJ hG hC hΓ hcall hs h (fun _ _ hr => hr) (fun _ _ _ hr => hr) rnd)
end
open Go Go.RowKit
inductive Loc where
 | s (t : Nat)
 | l (k t : Nat)
 | c (k o : Nat)
def St.at (σ : St) : Loc → AV
 | .s t => adA σ.slots t
 | .l k t => match σ.H.find k with
  | some (.loop r) => adA r.slots t
  | _ => .no
 | .c k o => match σ.H.find k with
  | some (.vars _ l) => l.getD o .no
  | _ => .no
def St.set (σ : St) (x : AV) : Loc → St
 | .s t => { σ with slots := (t, x) :: del σ.slots t }
 | .l k t => match σ.H.find k with
  | some (.loop r) => { σ with H := σ.H.up k (.loop { r with slots := (t, x) :: del r.slots t }) }
  | _ => σ
 | .c k o => match σ.H.find k with
  | some (.vars e l) => { σ with H := σ.H.up k (.vars e (l.set o x)) }
  | _ => σ
inductive VarQ : Type → Type 1 where
 | nil : VarQ Unit
 | dat {α : Type} (p : Loc) (ty : Ty) (r : VarQ α) : VarQ (ty.T × α)
 | row {α : Type} (k : Nat) (ty : Ty) (r : VarQ α) : VarQ (List ty.T × α)
 | app {α : Type} (p : Loc) (k : Nat) (e : TypeId) (ty : Ty) (r : VarQ α) : VarQ (List ty.T × α)
 | appN {α : Type} (p : Loc) (k : Nat) (e : TypeId) (ty : Ty) (r : VarQ α) : VarQ (Bool × List ty.T × α)
 | cells {α : Type} (k : Nat) (ty : Ty) (r : VarQ α) : VarQ (ty.T × α)
 | forget {α : Type} (p : Loc) (r : VarQ α) : VarQ α
 | ptrN {α : Type} (p : Loc) (k o : Nat) (r : VarQ α) : VarQ (Bool × α)
 | alt {α : Type} (p : Loc) (l : List Int) (r : VarQ α) : VarQ (Int × α)
 | fix {α : Type} (v : α) (r : VarQ α) : VarQ α
 | newv {α : Type} (p : Loc) (k : Nat) (e : TypeId) (ty : Ty) (r : VarQ α) : VarQ (ty.T × α)
def aDp : {α : Type} → VarQ α → α → St → St
 | _, .nil, _, σ => σ
 | _, .dat p ty r, i, σ => aDp r i.2 (σ.set (.d ty i.1) p)
 | _, .row k ty r, i, σ => aDp r i.2 (match σ.H.find k with
  | some (.row e _ _) => { σ with H := σ.H.up k (.row e ty i.1) }
  | _ => σ)
 | _, .app p k e ty r, i, σ => aDp r i.2 { (σ.set (.own k 0 i.1.length) p) with H := (k, .row e ty i.1) :: (σ.set (.own k 0 i.1.length) p).H }
 | _, .appN p k e ty r, i, σ => match i.1 with
  | true => aDp r i.2.2 (σ.set .nsl p)
  | false => aDp r i.2.2 { (σ.set (.own k 0 i.2.1.length) p) with H := (k, .row e ty i.2.1) :: (σ.set (.own k 0 i.2.1.length) p).H }
 | _, .cells k ty r, i, σ => aDp r i.2 (match σ.H.find k with
  | some (.vars e _) => { σ with H := σ.H.up k (.vars e (unpack ty i.1)) }
  | _ => σ)
 | _, .forget p r, i, σ => aDp r i (σ.set .no p)
 | _, .ptrN p k o r, i, σ => match i.1 with
  | true => aDp r i.2 (σ.set .nilp p)
  | false => aDp r i.2 (σ.set (.ptr k o) p)
 | _, .alt p _ r, i, σ => aDp r i.2 (σ.set (.d (.int .i64) i.1) p)
 | _, .fix _ r, i, σ => aDp r i σ
 | _, .newv p k e ty r, i, σ => aDp r i.2 { (σ.set (.ptr k 0) p) with H := (k, .vars e (unpack ty i.1)) :: (σ.set (.ptr k 0) p).H }
def aB4 : List Int → Int → (Int → Prop) → Prop
 | [], _, _ => False
 | a :: l, x, K => aoV (x == a) (K a) (aB4 l x K)
theorem anS : ∀ {l : List Int} {x : Int} {K : Int → Prop}, aB4 l x K → K x
 | [], _, _, h => h.elim
 | a :: l, x, K, h => by
  simp only [aB4] at h
  cases hb : x == a with
  | true => rw [hb] at h; rw [eq_of_beq hb]; exact h
  | false => rw [hb] at h; exact anS h
def aeX : {α : Type} → VarQ α → α → (α → Prop) → Prop
 | _, .nil, _, K => K ()
 | _, .dat _ _ r, i, K => aeX r i.2 fun j => K (i.1, j)
 | _, .row _ _ r, i, K => aeX r i.2 fun j => K (i.1, j)
 | _, .app _ _ _ _ r, i, K => aeX r i.2 fun j => K (i.1, j)
 | _, .appN _ _ _ _ r, i, K => aoV i.1 (aeX r i.2.2 fun j => K (true, i.2.1, j)) (aeX r i.2.2 fun j => K (false, i.2.1, j))
 | _, .cells _ _ r, i, K => aeX r i.2 fun j => K (i.1, j)
 | _, .forget _ r, i, K => aeX r i K
 | _, .ptrN _ _ _ r, i, K => aoV i.1 (aeX r i.2 fun j => K (true, j)) (aeX r i.2 fun j => K (false, j))
 | _, .alt _ l r, i, K => aB4 l i.1 fun x => aeX r i.2 fun j => K (x, j)
 | _, .fix v r, i, K => i = v ∧ aeX r v K
 | _, .newv _ _ _ _ r, i, K => aeX r i.2 fun j => K (i.1, j)
theorem abK : ∀ {α : Type} (vs : VarQ α) (i : α) (K : α → Prop), aeX vs i K → K i
 | _, .nil, _, _, h => h
 | _, .dat _ _ r, i, _, h => abK r i.2 _ h
 | _, .row _ _ r, i, _, h => abK r i.2 _ h
 | _, .app _ _ _ _ r, i, _, h => abK r i.2 _ h
 | _, .appN _ _ _ _ r, i, K, h => by
  obtain ⟨b, l, j⟩ := i
  cases b with
  | true => exact abK r j _ h
  | false => exact abK r j _ h
 | _, .cells _ _ r, i, _, h => abK r i.2 _ h
 | _, .forget _ r, i, _, h => abK r i _ h
 | _, .ptrN _ _ _ r, i, K, h => by
  obtain ⟨b, j⟩ := i
  cases b with
  | true => exact abK r j _ h
  | false => exact abK r j _ h
 | _, .alt _ l r, i, K, h => abK r i.2 (fun j => K (i.1, j)) (anS (K := fun x => aeX r i.2 fun j => K (x, j)) h)
 | _, .fix v r, i, K, h => by
  simp only [aeX] at h
  obtain ⟨e, h⟩ := h
  rw [e]; exact abK r v K h
 | _, .newv _ _ _ _ r, i, _, h => abK r i.2 _ h
def asU (σ : St) : {α : Type} → VarQ α → (α → Prop) → Prop
 | _, .nil, K => K ()
 | _, .dat p ty r, K => match toD ty (σ.at p) with
  | some x => asU σ r (fun i => K (x, i))
  | none => False
 | _, .row k ty r, K => match σ.H.find k with
  | some (.row _ u l) => match (u.sl).as (.sl ty) l with
   | some l => asU σ r (fun i => K (l, i))
   | none => False
  | _ => False
 | _, .app _ k _ ty r, K => match σ.H.find k with
  | some (.row _ u l) => match (u.sl).as (.sl ty) l with
   | some l => asU σ r (fun i => K (l, i))
   | none => False
  | _ => False
 | _, .appN p k _ ty r, K => match σ.at p with
  | .nsl => asU σ r (fun i => K (true, [], i))
  | _ => match σ.H.find k with
   | some (.row _ u l) => match (u.sl).as (.sl ty) l with
    | some l => asU σ r (fun i => K (false, l, i))
    | none => False
   | _ => False
 | _, .cells k ty r, K => match σ.H.find k with
  | some (.vars _ l) => match pack ty l with
   | some (x, []) => asU σ r (fun i => K (x, i))
   | _ => False
  | _ => False
 | _, .forget _ r, K => asU σ r K
 | _, .ptrN p _ _ r, K => match σ.at p with
  | .nilp => asU σ r (fun i => K (true, i))
  | .ptr _ _ => asU σ r (fun i => K (false, i))
  | _ => False
 | _, .alt p _ r, K => match toD (.int .i64) (σ.at p) with
  | some x => asU σ r (fun i => K (x, i))
  | none => False
 | _, .fix _ r, K => asU σ r K
 | _, .newv _ k _ ty r, K => match σ.H.find k with
  | some (.vars _ l) => match pack ty l with
   | some (x, []) => asU σ r (fun i => K (x, i))
   | _ => False
  | _ => False
theorem ac0 {σ : St} : ∀ {α : Type} (vs : VarQ α) (K : α → Prop), asU σ vs K → ∃ i, K i
 | _, .nil, _, h => ⟨(), h⟩
 | _, .dat p ty r, _, h => by
  simp only [asU] at h
  split at h
  ·obtain ⟨i, h⟩ := ac0 r _ h; exact ⟨_, h⟩
  ·exact h.elim
 | _, .row k ty r, _, h => by
  simp only [asU] at h
  split at h
  ·split at h
   ·obtain ⟨i, h⟩ := ac0 r _ h; exact ⟨_, h⟩
   ·exact h.elim
  ·exact h.elim
 | _, .app _ k _ ty r, _, h => by
  simp only [asU] at h
  split at h
  ·split at h
   ·obtain ⟨i, h⟩ := ac0 r _ h; exact ⟨_, h⟩
   ·exact h.elim
  ·exact h.elim
 | _, .appN p k _ ty r, _, h => by
  simp only [asU] at h
  split at h
  ·obtain ⟨i, h⟩ := ac0 r _ h; exact ⟨_, h⟩
  ·split at h
   ·split at h
    ·obtain ⟨i, h⟩ := ac0 r _ h; exact ⟨_, h⟩
    ·exact h.elim
   ·exact h.elim
 | _, .cells k ty r, _, h => by
  simp only [asU] at h
  split at h
  ·split at h
   ·obtain ⟨i, h⟩ := ac0 r _ h; exact ⟨_, h⟩
   ·exact h.elim
  ·exact h.elim
 | _, .forget _ r, _, h => ac0 r _ h
 | _, .ptrN p _ _ r, _, h => by
  simp only [asU] at h
  split at h
  ·obtain ⟨i, h⟩ := ac0 r _ h; exact ⟨_, h⟩
  ·obtain ⟨i, h⟩ := ac0 r _ h; exact ⟨_, h⟩
  ·exact h.elim
 | _, .alt p _ r, _, h => by
  simp only [asU] at h
  split at h
  ·obtain ⟨i, h⟩ := ac0 r _ h; exact ⟨_, h⟩
  ·exact h.elim
 | _, .fix _ r, _, h => ac0 r _ h
 | _, .newv _ k _ ty r, _, h => by
  simp only [asU] at h
  split at h
  ·split at h
   ·obtain ⟨i, h⟩ := ac0 r _ h; exact ⟨_, h⟩
   ·exact h.elim
  ·exact h.elim
def aj1 : {α : Type} → VarQ α → List (Loc × Nat)
 | _, .nil => []
 | _, .dat _ _ r => aj1 r
 | _, .row _ _ r => aj1 r
 | _, .app p k _ _ r => (p, k) :: aj1 r
 | _, .appN p k _ _ r => (p, k) :: aj1 r
 | _, .cells _ _ r => aj1 r
 | _, .forget _ r => aj1 r
 | _, .ptrN _ _ _ r => aj1 r
 | _, .alt _ _ r => aj1 r
 | _, .fix _ r => aj1 r
 | _, .newv p k _ _ r => (p, k) :: aj1 r
def St.rekeyL (n : Nat) (σ : St) : List (Loc × Nat) → St
 | [] => σ
 | (p, k') :: r => match σ.at p with
  | .own K _ _ => match Nat.beq K k' with
   | true => σ.rekeyL n r
   | false => match abY σ.H k', abY σ.H K, Nat.ble n k' with
    | false, true, true => (σ.rekey K k').rekeyL n r
    | _, _, _ => σ.rekeyL n r
  | .ptr K _ => match Nat.beq K k' with
   | true => σ.rekeyL n r
   | false => match abY σ.H k', abY σ.H K, Nat.ble n k' with
    | false, true, true => (σ.rekey K k').rekeyL n r
    | _, _, _ => σ.rekeyL n r
  | _ => σ.rekeyL n r
theorem SRel.rekeyL {C : Ctx} {w : World} {n : Nat} : ∀ (r : List (Loc × Nat)) {ρ : Nat → Nat} {σ : St} {a : Act}, SRel C ρ σ a w → ∃ ρ', SRel C ρ' (σ.rekeyL n r) a w ∧ Fr C n ρ σ.H w ρ' (σ.rekeyL n r).H w
 | [], ρ, σ, a, hs => ⟨ρ, hs, Fr.refl _ _ _ _ _⟩
 | (s, k') :: r, ρ, σ, a, hs => by
  simp only [St.rekeyL]
  split
  ·rename_i K _ _ _
   split
   ·exact SRel.rekeyL r hs
   ·split
    ·rename_i h1 h2 h3
     have hk' : k' ∉ σ.H.keys := fun h => by rw [hasKey_iff.2 h] at h1; cases h1
     obtain ⟨ρ', g1, g2⟩ := SRel.rekeyL (n := n) r (hs.rekey hk')
     exact ⟨ρ', g1, (Fr.rekey hk' (Nat.le_of_ble_eq_true h3)).trans (zi _) g2⟩
    ·exact SRel.rekeyL r hs
  ·rename_i K _ _
   split
   ·exact SRel.rekeyL r hs
   ·split
    ·rename_i h1 h2 h3
     have hk' : k' ∉ σ.H.keys := fun h => by rw [hasKey_iff.2 h] at h1; cases h1
     obtain ⟨ρ', g1, g2⟩ := SRel.rekeyL (n := n) r (hs.rekey hk')
     exact ⟨ρ', g1, (Fr.rekey hk' (Nat.le_of_ble_eq_true h3)).trans (zi _) g2⟩
    ·exact SRel.rekeyL r hs
  ·exact SRel.rekeyL r hs
def aj2 : {α : Type} → VarQ α → List Loc
 | _, .nil => []
 | _, .dat p _ r => p :: aj2 r
 | _, .row _ _ r => aj2 r
 | _, .app _ _ _ _ r => aj2 r
 | _, .appN _ _ _ _ r => aj2 r
 | _, .cells _ _ r => aj2 r
 | _, .forget _ r => aj2 r
 | _, .ptrN _ _ _ r => aj2 r
 | _, .alt p _ r => p :: aj2 r
 | _, .fix _ r => aj2 r
 | _, .newv _ _ _ _ r => aj2 r
def St.thawQ (σ : St) : List Loc → St
 | [] => σ
 | p :: r => match σ.at p with
  | .own k _ _ => (σ.thaw k).thawQ r
  | _ => σ.thawQ r
theorem St.thawQ_sound {C : Ctx} {ρ : Nat → Nat} {a : Act} {w : World} : ∀ (l : List Loc) {σ : St}, SRel C ρ σ a w → SRel C ρ (σ.thawQ l) a w ∧ ∀ n, Fr C n ρ σ.H w ρ (σ.thawQ l).H w
 | [], σ, h => ⟨h, fun _ => Fr.refl _ _ _ _ _⟩
 | p :: r, σ, h => by
  simp only [St.thawQ]
  split
  ·rename_i k _ _ _
   obtain ⟨h1, h2, h3⟩ := St.thaw_sound h k
   obtain ⟨h4, h5⟩ := St.thawQ_sound r h1
   refine ⟨h4, fun n => ?_⟩
   have h6 : Fr C n ρ σ.H w ρ (σ.thaw k).H w := by
    unfold St.thaw
    split
    ·rename_i e t l hf; exact (h.m.thaw (Heap.find_mem hf)).2.2 n
    ·exact Fr.refl _ _ _ _ _
   exact h6.trans (zi _) (h5 n)
  ·exact St.thawQ_sound r h
def St.seen (σ : St) (n : Nat) (ds : List Loc) (ks : List (Loc × Nat)) : St := (σ.thawQ ds).rekeyL n ks
structure LSpec where
 tag : Nat
 ι : Type
 vs : VarQ ι
 ks : List Nat
 kh : List Nat
 fresh : Nat
def aOX : List AV → Nat
 | [] => 0
 | a :: r => match a with
  | .nsl => aOX r + 1
  | .nilp => aOX r + 1
  | _ => aOX r
def aGm : List (Nat × AV) → Nat
 | [] => 0
 | (_, a) :: r => match a with
  | .nsl => aGm r + 1
  | .nilp => aGm r + 1
  | _ => aGm r
def aJw : Heap → Nat
 | [] => 0
 | (_, b) :: r => match b with
  | .vars _ l => aJw r + aOX l
  | .loop q => aJw r + aGm q.slots
  | _ => aJw r
def St.key (σ : St) : Nat := σ.next * 1024 + (aGm σ.slots + aJw σ.H)
abbrev LTab := List (Nat × Nat × Nat × LSpec)
def LTab.find : LTab → Nat → Nat → Nat → Option LSpec
 | [], _, _, _ => none
 | (g, q, m, s) :: r, f, p, n => match Nat.beq g f && (Nat.beq q p && Nat.beq m n) with | true => some s | false => LTab.find r f p n
def aPI (l : List Nat) (t : Nat) : Bool := match l with | [] => false | x :: r => match Nat.beq x t with | true => true | false => aPI r t
def aL0 (ks : List Nat) : List (Nat × AV) → List (Nat × AV)
 | [] => []
 | (t, a) :: r => match aPI ks t with | true => (t, a) :: aL0 ks r | false => aL0 ks r
def aL1 (ks : List Nat) : Heap → Heap
 | [] => []
 | (t, a) :: r => match aPI ks t with | true => (t, a) :: aL1 ks r | false => aL1 ks r
structure Lq (ι : Type) where
 vs : VarQ ι
 base : St
def aER (s : LSpec) (σ : St) : Lq s.ι := { vs := s.vs, base := { slots := aL0 s.ks σ.slots, H := aL1 s.kh σ.H, next := σ.next + s.fresh, n := σ.n } }
def Lq.inv {ι : Type} (L : Lq ι) (i : ι) : St := { (aDp L.vs i L.base) with next := L.base.next }
def Lq.head {ι : Type} (L : Lq ι) (n : Nat) (N : ι → Prop) (σ : St) : Prop :=
 asU (σ.seen n (aj2 L.vs) (aj1 L.vs)) L.vs fun i =>
  (Nat.beq (L.inv i).n (σ.seen n (aj2 L.vs) (aj1 L.vs)).n && alS (L.inv i).H.keys) = true ∧ amL (abY (L.inv i).H) (σ.seen n (aj2 L.vs) (aj1 L.vs)).slots (L.inv i).slots ∧
  azD (abY (L.inv i).H) (σ.seen n (aj2 L.vs) (aj1 L.vs)).H L.base.next (L.inv i).H ∧ N i
def Lq.round {ι : Type} (L : Lq ι) (n : Nat) (N : ι → Prop) (Q : Exit → St → Prop) : Exit → St → Prop :=
 aNe (fun σ _ => L.head n N σ) Q
theorem Lq.head_sound {C : Ctx} {ι : Type} {L : Lq ι} {n : Nat} {N : ι → Prop} {σ : St} (h : L.head n N σ) {ρ : Nat → Nat} {a : Act} {w : World} (hs : SRel C ρ σ a w) :
  ∃ i ρ', N i ∧ SRel C ρ' (L.inv i) a w ∧ Fr C n ρ σ.H w ρ' (L.inv i).H w := by
 unfold Lq.head at h
 obtain ⟨i, h1, h2, h3, h4⟩ := ac0 L.vs _ h
 obtain ⟨hs1, hf1⟩ := St.thawQ_sound (aj2 L.vs) hs
 obtain ⟨ρ', g1, g2⟩ := SRel.rekeyL (n := n) (aj1 L.vs) hs1
 rw [zj] at h1
 have hle : Le (σ.seen n (aj2 L.vs) (aj1 L.vs)) (L.inv i) := ⟨aaD h1.1, h2, h3, h1.2⟩
 obtain ⟨g3, g4⟩ := g1.weaken hle
 exact ⟨i, ρ', h4, g3, ((hf1 n).trans (zi _) g2).trans (zi _) (g4 _)⟩
def aJM {ι : Type} (r : ι → (ι → Prop) → Prop) : Nat → ι → Prop
 | 0, _ => False
 | n + 1, i => r i (aJM r n)
structure LoopH (tag : Nat) {ι : Type} (h : (ι → Prop) → Prop) (r : ι → (ι → Prop) → Prop) : Prop where
 ex : ∃ n, h (aJM r n)
structure JoinH (tag : Nat) {ι : Type} (h : (ι → Prop) → Prop) (r : ι → Prop) : Prop where
 run : h r
def uS : LSpec := ⟨0, Unit, .nil, [], [], 0⟩
def LTab.wants : LTab → Nat → Nat → Bool
 | [], _, _ => false
 | (g, q, m, _) :: r, f, p => match Nat.beq g f && (Nat.beq q p && Nat.beq m 999999999) with | true => true | false => LTab.wants r f p
def LTab.unr : LTab → Nat → Nat → Bool
 | [], _, _ => false
 | (g, q, m, _) :: r, f, p => match Nat.beq g f && (Nat.beq q p && Nat.beq m 888888888) with | true => true | false => LTab.unr r f p
def LTab.hoi : LTab → Nat → Nat → Bool
 | [], _, _ => false
 | (g, q, m, _) :: r, f, p => match Nat.beq g f && (Nat.beq q p && Nat.beq m 777777777) with | true => true | false => LTab.hoi r f p
def LTab.pru : LTab → Nat → Nat → Option Bool
 | [], _, _ => none
 | (g, q, m, _) :: r, f, p => match Nat.beq g f && (Nat.beq q p && Nat.beq m 666666666) with
  | true => some true
  | false => match Nat.beq g f && (Nat.beq q p && Nat.beq m 555555555) with | true => some false | false => LTab.pru r f p
def aJz (X : St → (Exit → St → Prop) → Prop) (Q : Exit → St → Prop) : Nat → St → Prop
 | 0, _ => False
 | n + 1, σ => auE σ fun σ => X σ (aNe (fun σ' _ => aJz X Q n σ') Q)
structure Stuck (f p : Nat) (c : Code) (σ : St) : Prop where
 no : False
def afI (P : Program) (G : World → Prop) (Γ : Cons) (call : acI) (Λ : LTab) (rd : Option Nat) (f0 : Nat) : Nat → Code → St → (Exit → St → Prop) → Prop
 | _, .skip, σ, Q => Q .normal σ
 | p, .region _ ops draw, σ, Q => match draw with
  | false => abM P Γ call ops ops.toList σ (aAC Q)
  | true => match Λ.hoi f0 p with
   | true => aEj P Γ call ops σ (aAC Q)
   | false => agS P Γ call ops (σ.forDraw (aDs Γ) ops.toList) (aAC Q)
 | p, .seq x y, σ, Q => match Λ.find f0 p σ.key with
  | some s => JoinH s.tag (fun N => afI P G Γ call Λ rd f0 (2 * p) x σ (aNe (fun σ' _ => (aER s σ).head σ.next N σ') Q)) (fun i => aeX s.vs i fun i => afI P G Γ call Λ rd f0 (2 * p + 1) y ((aER s σ).inv i) Q)
  | none => match Λ.wants f0 p with
   | true => Stuck f0 p (.seq x y) σ
   | false => afI P G Γ call Λ rd f0 (2 * p) x σ (aNe (afI P G Γ call Λ rd f0 (2 * p + 1) y) Q)
 | p, .cond c x y, σ, Q => match σ.eval c with
  | .d .bool b => match Λ.pru f0 p with
   | some true => b = true ∧ afI P G Γ call Λ rd f0 (2 * p) x σ Q
   | some false => b = false ∧ afI P G Γ call Λ rd f0 (2 * p + 1) y σ Q
   | none => aoV b (afI P G Γ call Λ rd f0 (2 * p) x σ Q) (afI P G Γ call Λ rd f0 (2 * p + 1) y σ Q)
  | _ => False
 | p, .block id c, σ, Q => afI P G Γ call Λ rd f0 (2 * p) c σ (asD id Q)
 | p, .loop c, σ, Q => match Λ.find f0 p σ.key with
  | some s => LoopH s.tag (fun N => (aER s σ).head σ.next N σ) (fun i N => aeX s.vs i fun i => afI P G Γ call Λ rd f0 (2 * p) c ((aER s σ).inv i) ((aER s σ).round σ.next N Q))
  | none => match Λ.unr f0 p with
   | true => aJz (afI P G Γ call Λ rd f0 (2 * p) c) Q 64 σ
   | false => Stuck f0 p c σ
 | _, .exit id, σ, Q => Q (.exit id) σ
 | _, .ret, σ, Q => Q .ret σ
 | _, .label _, σ, Q => Q .normal σ
 | p, .scope c, σ, Q => afI P G Γ call Λ rd f0 (2 * p) c σ (aKx Q)
 | _, .rangeFunc g ps assign body, σ, Q => match σ.eval g with
  | .fn f first caps => match rd with
   | none => call (.fn f) (first ++ .yld σ.next :: caps) (σ.lay σ.next ps assign body) (σ.next + 1) (aj6 σ σ.next Q)
   | some l0 => match σ.H.find l0 with
    | some (.loop _) => call (.fn f) (first ++ .yld σ.next :: caps) (σ.lay σ.next ps assign body) (σ.next + 1) (aj6 σ σ.next Q)
    | _ => False
  | _ => False
 | _, _, _, _ => False
def aCQ (P : Program) (G : World → Prop) (Γ : Cons) (call : acI) (Λ : LTab) (f0 : Nat) (c : Code) (σ : St) (Q : Exit → St → Prop) : Prop :=
 auE σ fun σ => match ajK c with
 | some d => aMh (afI P G Γ call Λ none f0) (fun l => afI P G Γ call Λ (some l) (1000000 + l) 5) P Γ call d σ Q
 | none => afI P G Γ call Λ none f0 1 c σ Q
def ag6 (n : Nat) : Nat → List AV → Bool
 | 0, _ => true
 | _ + 1, [] => false
 | d + 1, x :: r => match x with
  | .ptr k _ => Nat.ble n k || ag6 n d r
  | .eptr k _ => Nat.ble n k || ag6 n d r
  | .efp k _ _ => Nat.ble n k || ag6 n d r
  | .own k _ _ => Nat.ble n k || ag6 n d r
  | .ox k _ _ => Nat.ble n k || ag6 n d r
  | .sv k _ => Nat.ble n k || ag6 n d r
  | .yld k => Nat.ble n k || ag6 n d r
  | .mp k => Nat.ble n k || ag6 n d r
  | .fn _ a b => ag6 n d a || (ag6 n d b || ag6 n d r)
  | .ag l => ag6 n d l || ag6 n d r
  | .tup l => ag6 n d l || ag6 n d r
  | _ => ag6 n d r
def azC (n : Nat) : Heap → Bool
 | [] => false
 | (k, b) :: r => (match Nat.ble n k with
  | true => false
  | false => match b with
   | .vars _ cells => ag6 n 10000 cells
   | .dic _ l => ag6 n 10000 (l.map (·.2))
   | .loop q => ag6 n 10000 (q.slots.map (·.2))
   | _ => false) || azC n r
def leaveE (n : Nat) (K : AV → Heap → Nat → Prop) (r : AV) (H : Heap) (m : Nat) : Prop :=
 match akQ r with
 | some _ => K r H m
 | none => match ag6 n 10000 [r] || azC n H with
  | true => K r H m
  | false => match akQ (r.map (fun k => Nat.blt k n) ae3) with
   | none => K (r.map (fun k => Nat.blt k n) ae3) (H.keep (fun k => Nat.blt k n) ae3) m
   | some _ => K r H m
def aK8 (t : Tgt) (n : Nat) (K : AV → Heap → Nat → Prop) : AV → Heap → Nat → Prop := match t with
 | .fn _ => leaveE n K
 | .yld _ => K
theorem CallEnd.leaveE {C : Ctx} {ρ : Nat → Nat} {H : Heap} {next : Nat} {w : World} {K : AV → Heap → Nat → Prop} {e : Ending} {w' : World} (h : CallEnd C ρ H next w (leaveE next K) e w') : CallEnd C ρ H next w K e w' := by
 obtain ⟨ρ', r, H', n', hk, h3, h5, h6, hend⟩ := h
 unfold Go.Vg.leaveE at hk
 split at hk
 ·exact ⟨ρ', r, H', n', hk, h3, h5, h6, hend⟩
 ·rename_i hp
  split at hk
  ·exact ⟨ρ', r, H', n', hk, h3, h5, h6, hend⟩
  ·split at hk
   ·rename_i hp2
    obtain ⟨g1, g2, g3⟩ := h3.keepP (fun k => Nat.blt k next)
    rcases hend with ⟨v, k1, k2, k3⟩ | ⟨x, ch, k1, k2, k3⟩
    ·exact ⟨ρ', _, _, n', hk, g1, h5.trans h6 (g3 _), h6, Or.inl ⟨v, k1, hp2, g2 _ _ k3⟩⟩
    ·subst k1; cases hp
   ·exact ⟨ρ', r, H', n', hk, h3, h5, h6, hend⟩
theorem aGx {P : Program} {G : World → Prop} {call : acI} (h : CallSat P G call) : CallSat P G (fun t args H n K => call t args H n (aK8 t n K)) :=
  ⟨fun f args H next K hk C ρ w vs hC hm hv => by
    obtain ⟨h1, h2⟩ := h.fn f args H next _ hk C ρ w vs hC hm hv
    exact ⟨h1, h2.mono fun e w' he => he.leaveE⟩,
   fun l args H next K hk C ρ w vs hC hm hv => h.yld l args H next K hk C ρ w vs hC hm hv⟩
def aLo (P : Program) (G : World → Prop) (Γ : Cons) (Λ : LTab) (call : acI) : acI :=
 fun t args H n K => aAh (aCQ P G Γ call Λ) (fun l => afI P G Γ call Λ (some l) (1000000 + l)) P t args H n (aK8 t n K)
def aHJ (P : Program) (G : World → Prop) (Γ : Cons) (Λ : LTab) : Nat → acI
 | 0 => fun _ _ _ _ _ => False
 | d + 1 => aLo P G Γ Λ (aHJ P G Γ Λ d)
section
variable {P : Program} {G : World → Prop}
theorem abP (hG : adG G) (hmix : P.follows .mixedOrders = true) {Γ : Cons} (hΓ : Γ.ok P G) {call : acI} (hcall : CallSat P G call) {Λ : LTab} {rd : Option Nat} {f0 : Nat} : ∀ (c : Code) (p : Nat) (σ : St) (Q : Exit → St → Prop), afI P G Γ call Λ rd f0 p c σ Q → Sat P G rd c σ Q
  | .skip, p, σ, Q, h => fun C hC ρ a w hs rnd hrd => wpIn_skip ⟨ρ, σ, h, hs, Fr.refl _ _ _ _ _, zi _⟩
  | .region id ops draw, p, σ, Q, h => fun C hC ρ a w hs rnd hrd => by
    cases draw with
    | false => exact wpIn_region_list (adU hG hC hΓ hcall _ hs h (fun a' w' hr => hr) (fun ch a' w' hr => hr) rnd)
    | true =>
     simp only [afI] at h
     split at h
     · exact wpIn_region_any hmix (arJ hG hC hΓ hcall hs h (fun a' w' hr => hr) (fun ch a' w' hr => hr) rnd)
     · obtain ⟨h1, h2, h3⟩ := St.thaws_sound (ah3 (aDs Γ) σ ops.toList ops.toList) hs
       exact wpIn_region_any hmix (akA hG hC hΓ hcall h1 h (fun a' w' hr => hr.trans h2 (xC h3.symm)) (fun ch a' w' hr => hr.trans h2 (xC h3.symm)) rnd)
  | .seq x y, p, σ, Q, h => fun C hC ρ a w hs rnd hrd => by
    simp only [afI] at h
    split at h
    · rename_i s _
      refine wpIn_seq (wpIn_mono (abP hG hmix hΓ hcall x (2 * p) σ _ h.run C hC ρ a w hs rnd hrd) ?_)
      rintro e a' w' ⟨ρ', σ', h1, h2, h3, h4⟩
      have hnx : ∀ i, ((aER s σ).inv i).next = σ.next + s.fresh := fun _ => rfl
      cases e with
      | normal =>
        obtain ⟨i, ρ3, g1, g3, g4⟩ := Lq.head_sound h1 h2
        have h7 := h3.trans (zi _) g4
        exact wpIn_mono (abP hG hmix hΓ hcall y (2 * p + 1) _ Q (abK s.vs i _ g1) C hC ρ3 a' w' g3 rnd (hrd.fr h7 (by rw [hnx]; exact yu _ _)))
          (fun e a'' w'' hr => hr.trans h7 (by rw [hnx]; exact yu _ _))
      | _ => exact ⟨ρ', σ', h1, h2, h3, h4⟩
    · split at h
      · exact h.no.elim
      · refine wpIn_seq (wpIn_mono (abP hG hmix hΓ hcall x (2 * p) σ _ h C hC ρ a w hs rnd hrd) ?_)
        rintro e a' w' ⟨ρ', σ', h1, h2, h3, h4⟩
        cases e with
        | normal => exact wpIn_mono (abP hG hmix hΓ hcall y (2 * p + 1) σ' Q h1 C hC ρ' a' w' h2 rnd (hrd.fr h3 h4)) (fun e a'' w'' hr => hr.trans h3 h4)
        | _ => exact ⟨ρ', σ', h1, h2, h3, h4⟩
  | .cond c x y, p, σ, Q, h => fun C hC ρ a w hs rnd hrd => by
    simp only [afI] at h
    split at h
    · rename_i b hb
      have hv := hs.eval c
      rw [hb] at hv
      have hbv := aeJ hv
      have main : aoV b (afI P G Γ call Λ rd f0 (2 * p) x σ Q) (afI P G Γ call Λ rd f0 (2 * p + 1) y σ Q) := by
        split at h
        · rw [h.1]; exact h.2
        · rw [h.1]; exact h.2
        · exact h
      cases b with
      | true => exact wpIn_cond_true hbv (abP hG hmix hΓ hcall x (2 * p) σ Q main C hC ρ a w hs rnd hrd)
      | false => exact wpIn_cond_false hbv (abP hG hmix hΓ hcall y (2 * p + 1) σ Q main C hC ρ a w hs rnd hrd)
    · exact h.elim
  | .block id c, p, σ, Q, h => fun C hC ρ a w hs rnd hrd => by
    refine wpIn_block (wpIn_mono (abP hG hmix hΓ hcall c (2 * p) σ _ h C hC ρ a w hs rnd hrd) ?_)
    rintro e a' w' ⟨ρ', σ', h1, h2, h3, h4⟩
    cases e with
    | exit j =>
      simp only [Exit.inBlock]
      cases hb : Nat.beq j id with
      | true => simp only [asD, hb] at h1; rw [if_pos (aaD hb)]; exact ⟨ρ', σ', h1, h2, h3, h4⟩
      | false => simp only [asD, hb] at h1; rw [if_neg (acM hb)]; exact ⟨ρ', σ', h1, h2, h3, h4⟩
    | _ => exact ⟨ρ', σ', h1, h2, h3, h4⟩
  | .loop c, p, σ, Q, h => by
    simp only [afI] at h
    split at h
    · rename_i s hs0
      obtain ⟨m, hm⟩ := h.ex
      intro C hC ρ a w hs rnd hrd
      obtain ⟨i0, ρ0, k1, k2, k3⟩ := Lq.head_sound hm hs
      have hnx : ∀ i, ((aER s σ).inv i).next = σ.next + s.fresh := fun _ => rfl
      refine amG (ι := Nat × s.ι) (fun i a' w' => ∃ ρ', aJM (fun i N => aeX s.vs i fun i => afI P G Γ call Λ rd f0 (2 * p) c ((aER s σ).inv i) ((aER s σ).round σ.next N Q)) i.1 i.2 ∧ SRel C ρ' ((aER s σ).inv i.2) a' w' ∧ Fr C σ.next ρ σ.H w ρ' ((aER s σ).inv i.2).H w') (fun i => i.1) ?_ (m, i0) a w ⟨ρ0, k1, k2, k3⟩
      rintro ⟨j, i⟩ a' w' ⟨ρ', hI, h1, h2⟩
      cases j with
      | zero => exact hI.elim
      | succ j =>
        refine wpIn_mono (abP hG hmix hΓ hcall c (2 * p) _ _ (abK s.vs i _ hI) C hC ρ' a' w' h1 rnd (hrd.fr h2 (by rw [hnx]; exact yu _ _))) ?_
        rintro e a'' w'' ⟨ρ'', σ'', h3, h4, h5, h6⟩
        rw [hnx] at h6
        have h7 := h2.trans (n' := ((aER s σ).inv i).next) (by rw [hnx]; exact yu _ _) h5
        cases e with
        | normal =>
          obtain ⟨i', ρ3, g1, g3, g4⟩ := Lq.head_sound h3 h4
          exact ⟨(j, i'), ⟨ρ3, g1, g3, h7.trans (zi _) g4⟩, yv _⟩
        | _ => exact ⟨ρ'', σ'', h3, h4, h7, by omega⟩
    · split at h
      · intro C hC ρ a w hs rnd hrd
        refine amG (ι := Nat) (fun m a' w' => ∃ ρ' σ', aJz (afI P G Γ call Λ rd f0 (2 * p) c) Q m σ' ∧ SRel C ρ' σ' a' w' ∧ Fr C σ.next ρ σ.H w ρ' σ'.H w' ∧ σ.next ≤ σ'.next) (fun m => m) ?_ 64 a w ⟨ρ, σ, h, hs, Fr.refl _ _ _ _ _, zi _⟩
        rintro m a' w' ⟨ρ', σ', hI, h1, h2, h3⟩
        cases m with
        | zero => exact hI.elim
        | succ m =>
          simp only [aJz, ag9] at hI
          refine wpIn_mono (abP hG hmix hΓ hcall c (2 * p) _ _ hI C hC ρ' a' w' h1 rnd (hrd.fr h2 h3)) ?_
          rintro e a'' w'' ⟨ρ'', σ'', h4, h5, h6, h7⟩
          have h8 := h2.trans (n' := σ'.next) h3 h6
          cases e with
          | normal => exact ⟨m, ⟨ρ'', σ'', h4, h5, h8, zu h3 h7⟩, yv _⟩
          | _ => exact ⟨ρ'', σ'', h4, h5, h8, zu h3 h7⟩
      · exact h.no.elim
  | .exit id, p, σ, Q, h => fun C hC ρ a w hs rnd hrd => wpIn_exit ⟨ρ, σ, h, hs, Fr.refl _ _ _ _ _, zi _⟩
  | .ret, p, σ, Q, h => fun C hC ρ a w hs rnd hrd => wpIn_ret ⟨ρ, σ, h, hs, Fr.refl _ _ _ _ _, zi _⟩
  | .label l, p, σ, Q, h => fun C hC ρ a w hs rnd hrd => wpIn_label ⟨ρ, σ, h, hs, Fr.refl _ _ _ _ _, zi _⟩
  | .scope c, p, σ, Q, h => fun C hC ρ a w hs rnd hrd => by
    refine amH (wpIn_mono (abP hG hmix hΓ hcall c (2 * p) σ _ h C hC ρ a w hs rnd hrd) ?_)
    rintro e a' w' ⟨ρ', σ', h1, h2, h3, h4⟩
    cases e with
    | goto l => exact h1.elim
    | _ => exact ⟨ρ', σ', h1, h2, h3, h4⟩
  | .rangeFunc g ps assign body, p, σ, Q, h => fun C hC ρ a w hs rnd hrd => by
    simp only [afI] at h
    split at h
    · rename_i f first caps hg
      have hv := hs.eval g
      rw [hg] at hv
      generalize hvg : a.eval g = vg at hv
      cases hv with
      | @fn _ _ _ vf vc h1 h2 =>
        have hKn : σ.next ∉ σ.H.keys := fun h => absurd (hs.m.lt _ h) (xf _)
        -- the call of the iterator, and what lies behind it
        have main : ∀ (fn : FuncId) (W0 : World) (mark : List Deferred) (dd : Nat), (mark ≠ [] → C.mks = none) → Below w.heap.size w W0 → (∀ x ∈ mark, ∃ d, x = { target := .collected d, args := #[] } ∧ mark = [x] ∧ w.heap.size ≤ d ∧ W0.heap[d]? = some (.deferred (some []))) →
            (Instr.enterLoop fn a.tmps ps assign body rnd).run P w = .ok (W0.heap.size, mark) (W0.alloc (.loop { state := .ready, pending := none, fn := fn, tmps := a.tmps, params := ps, assign := assign, body := body, defers := dd })) →
            call (.fn f) (first ++ .yld σ.next :: caps) (σ.lay σ.next ps assign body) (σ.next + 1) (aj6 σ σ.next Q) →
            ∃ (l : Nat) (mark : List Deferred) (w₁ : World) (d : Deferred) (w₁' : World) (f : FuncId) (args : Array Value) (w₂ : World),
              (Instr.enterLoop fn a.tmps ps assign body (abI rnd).round).run P w = .ok (l, mark) w₁ ∧
              (resolve a.eval (rangeCall g l) 0).run P w₁ = .ok d w₁' ∧
              (∀ f', Target.leads P w₁' d.target d.args = some f' → (abI rnd).fn f') ∧
              (invoke d.target d.args).run P w₁' = .ok (.enter f args) w₂ ∧
              ((abI rnd).depth.isSome = true → 1 ≤ 0) ∧
              CallsIn (abI rnd) (0 - 1) P f args w₂ (rangePost (abI rnd) 0 P l (fun e a' w' => Reach C σ ρ w (Q e) a' w') { a with defers := mark ++ a.defers }) := by
          intro fn W0 mark dd hmkn hb0 hmark hent hc
          obtain ⟨hm0, hext0⟩ := hs.m.grow hb0
          have hlt0 : ∀ k ∈ σ.H.keys, ρ k < w.heap.size := fun k hk => hs.m.key_lt hk
          obtain ⟨hm1, hext1⟩ := MRel.allocO (K := σ.next) (blk := .loop { st := .ready, pend := none, slots := σ.slots, n := σ.n, ps := ps, assign := assign, body := body })
            (ob := .loop { state := .ready, pending := none, fn := fn, tmps := a.tmps, params := ps, assign := assign, body := body, defers := dd }) (hm0.mono (yI σ.next)) hKn (yv _)
            (fun ρ' H' w' he hw' => ⟨fn, a.tmps, dd, hw', hs.size, fun t => (hext0.trans he).vr (hs.slots t)⟩)
          have hext := hext0.trans hext1
          generalize hW1 : W0.alloc (.loop { state := .ready, pending := none, fn := fn, tmps := a.tmps, params := ps, assign := assign, body := body, defers := dd }) = W1 at *
          have hρ : upd ρ σ.next W0.heap.size σ.next = W0.heap.size := abG _ _ _
          have hargs : VRs C (upd ρ σ.next W0.heap.size) (σ.lay σ.next ps assign body) W1 (first ++ .yld σ.next :: caps) (vf ++ .func (.yield W0.heap.size) #[] #[] :: vc) := by
            refine (h1.imp (fun _ _ => hext.vr)).append (.cons ?_ (h2.imp (fun _ _ => hext.vr)))
            have : VR C (upd ρ σ.next W0.heap.size) (σ.lay σ.next ps assign body) W1 (.yld σ.next) (.func (.yield (upd ρ σ.next W0.heap.size σ.next)) #[] #[]) := .yld zv
            rw [hρ] at this
            exact this
          obtain ⟨hen, hcl⟩ := hcall.fn _ _ _ _ _ hc C _ W1 _ hC hm1 hargs
          refine ⟨W0.heap.size, mark, W1, { target := .fn (.func f) ⟨vc⟩, args := ⟨vf⟩ ++ #[.func (.yield W0.heap.size) #[] #[]] }, W1, f, (⟨vf⟩ ++ #[.func (.yield W0.heap.size) #[] #[]]) ++ ⟨vc⟩, W1, hent, ?_, fun _ _ => trivial, ?_, (fun h => by cases h), ?_⟩
          · simp only [resolve, hvg]
            simp [go_sem]
          · have := ajJ (w := W1) hen ((⟨vf⟩ ++ #[.func (.yield W0.heap.size) #[] #[]]) ++ ⟨vc⟩)
            simp only [invoke]
            exact this
          · refine callsIn_wideR.2 ?_
            rw [show (((⟨vf⟩ : Array Value) ++ #[.func (.yield W0.heap.size) #[] #[]]) ++ (⟨vc⟩ : Array Value)) = ⟨vf ++ .func (.yield W0.heap.size) #[] #[] :: vc⟩ by apply Array.ext'; simp]
            refine hcl.mono ?_
            rintro e W2 ⟨ρ2, r, H2, n2, hK, hm2, hfr2, hn2, hend2⟩
            rcases hend2 with ⟨v, rfl, hpn, hv2⟩ | ⟨x2, ch2, rfl, hc2, rfl⟩
            case inr => exact hK.elim
            simp only [aj6, hpn] at hK
            split at hK
            · rename_i rr hfind
              obtain ⟨fn', tmps', d', g1, g2, g3⟩ := hm2.mem _ _ (Heap.find_mem hfind)
              obtain ⟨hk2, hr2⟩ := hfr2.keys σ.next (yv _) (aaI (Heap.find_mem hfind))
              rw [hρ] at hr2
              have hnb : rr.st ≠ .busy := by intro e; rw [e] at hK; exact hK
              obtain ⟨ex, hex, hQ⟩ : ∃ ex, ajH rr.pend = some ex ∧ Q ex { slots := abL (abY (H2.up σ.next (.loop { rr with st := .exhausted }))) ae3 σ.slots, H := H2.up σ.next (.loop { rr with st := .exhausted }), next := n2, n := σ.n } := by
                split at hK
                · exact hK.elim
                · rename_i e _ hje; exact ⟨_, ‹_›, hK⟩
                · exact hK.elim
              obtain ⟨hm3, hext3⟩ := hm2.turn hfind .exhausted rr.pend g1 g2 g3
              have hend := run_endLoop (P := P) g1 (by simpa using hnb)
              rw [hr2] at hend hm3 hext3
              generalize hW3 : W2.putObj W0.heap.size (.loop { state := .exhausted, pending := rr.pend, fn := fn', tmps := tmps', params := rr.ps, assign := rr.assign, body := rr.body, defers := d' }) = W3 at *
              have hfr3 : Fr C σ.next ρ σ.H w ρ2 (H2.up σ.next (.loop { rr with st := .exhausted })) W3 := by
                have f1 : Fr C σ.next ρ σ.H w (upd ρ σ.next W0.heap.size) (σ.lay σ.next ps assign body) W1 := hext.fr (fun k hk hm => by
                  rcases zo.1 hm with rfl | hm
                  · exact absurd hk (xf _)
                  · exact hm)
                refine (f1.trans (yI _) hfr2).trans (n' := n2) zc (hext3.fr (fun k _ hm => by rwa [Heap.keys_up] at hm))
              have hsr : SRel C ρ2 { slots := abL (abY (H2.up σ.next (.loop { rr with st := .exhausted }))) ae3 σ.slots, H := H2.up σ.next (.loop { rr with st := .exhausted }), next := n2, n := σ.n } { a with defers := mark ++ a.defers } W3 := by
                have base := hs.keepTo (p := abY (H2.up σ.next (.loop { rr with st := .exhausted }))) (f := ae3) hm3 (fun x v hx =>
                  VR.map hfr3.data (fun k hk hp => ⟨hasKey_iff.1 hp, (hfr3.keys k (hs.m.lt k hk) (hasKey_iff.1 hp)).2⟩) (fun k e t l hk hp => hfr3.rows k e t l (hs.m.lt k (aaI hk)) hk (hasKey_iff.1 hp)) (fun _ _ _ _ _ _ => .no) hx) hfr3.data hfr3.size
                refine ⟨base.m, base.slots, base.size, ?_⟩
                cases mark with
                | nil => exact base.defers
                | cons x xs =>
                  obtain ⟨d, rfl, hxs, hd1, hd2⟩ := hmark x zv
                  injection hxs with _ hxs
                  subst hxs
                  have hlow : C.w0.heap.size ≤ d := zu hs.m.below.size hd1
                  have hdlt := adL hd2
                  have hok1 : Ok C (upd ρ σ.next W0.heap.size) (σ.lay σ.next ps assign body) W1 d := by
                    refine ⟨Or.inr hlow, by rw [← hW1]; simp; omega, fun k hk => ?_⟩
                    rcases zo.1 hk with rfl | hk
                    · rw [hρ]; omega
                    · have hk' : k ∈ σ.H.keys := hk
                      have hne : k ≠ σ.next := fun e => hKn (by rw [← e]; exact hk')
                      rw [adZ _ hne]
                      have := hlt0 k hk'; omega
                  obtain ⟨hok2, hbl2⟩ := hfr2.data d hok1
                  obtain ⟨hok3, hbl3⟩ := hext3.data d hok2
                  refine Dfs.push (hmkn zh) hs.defers hfr3.data hfr3.size hd1 hok3.2.2 ?_
                  rw [hbl3, hbl2, ← hW1, Below.heap_alloc _ _ _ hdlt]
                  exact hd2
              cases hp : rr.pend with
              | none =>
                rw [hp] at hex
                injection hex with hex
                subst hex
                exact ⟨none, W3, by rw [hend, hp], ⟨ρ2, _, hQ, hsr, hfr3, by show σ.next ≤ n2; omega⟩⟩
              | some j =>
                rw [hp] at hex
                exact ⟨some j, W3, by rw [hend, hp], aqW hex ⟨ρ2, _, hQ, hsr, hfr3, by show σ.next ≤ n2; omega⟩⟩
            · exact hK.elim
        refine wpIn_rangeFunc (fun fn _ => ?_)
        cases rd with
        | none =>
          have hr : rnd = none := hrd.1
          subst hr
          simp only at h
          refine main fn (w.alloc (.deferred (some []))) [{ target := .collected w.heap.size, args := #[] }] w.heap.size (fun _ => hrd.2) ((Below.refl _ _).alloc (zi _) _) ?_ ?_ h
          · intro x hx
            simp at hx
            subst hx
            exact ⟨w.heap.size, rfl, rfl, zi _, World.alloc_heap_new _ _⟩
          · rw [run_enterLoop_outer, World.size_alloc]
        | some l0 =>
          simp only at h
          split at h
          · rename_i r0 hf0
            have hr : rnd = some (ρ l0) := hrd.2 (aaI (Heap.find_mem hf0))
            subst hr
            obtain ⟨fn0, tmps0, d0, g1, _, _⟩ := hs.m.mem _ _ (Heap.find_mem hf0)
            refine main fn w [] d0 (fun h => absurd rfl h) (Below.refl _ _) (fun x hx => by cases hx) ?_ h
            rw [run_enterLoop_inner g1]
          · exact h.elim
    · exact h.elim
  | .goto _, _, _, _, h => h.elim
  | .refuse _, _, _, _, h => h.elim
theorem asC (hG : adG G) (hmix : P.follows .mixedOrders = true) {Γ : Cons} (hΓ : Γ.ok P G) {call : acI} (hcall : CallSat P G call) {Λ : LTab} {f0 : Nat} {fn : Func} {code : Code} {σ : St} {Kr : List AV → St → Prop} {Kp : List PanicEntry → St → Prop}
  (h : aCQ P G Γ call Λ f0 code σ (aIi P fn Kr Kp)) : aPm P G fn code σ Kr Kp := by
 intro C hC ρ a w hs hu hmk hlo hds
 unfold aCQ at h
 rw [ag9] at h
 split at h
 ·rename_i d hd
  exact au5 hG hΓ hcall (fun p c σ Q => abP hG hmix hΓ hcall c p σ Q) (fun _ c σ Q => abP hG hmix hΓ hcall c 5 σ Q) hd h hC hs hlo hds
 ·exact au4 (abP hG hmix hΓ hcall code _ _ _ h) hC hs hu hmk hlo
theorem aEu (hG : adG G) (hmix : P.follows .mixedOrders = true) {Γ : Cons} (hΓ : Γ.ok P G) {call : acI} (hcall : CallSat P G call) (Λ : LTab) : CallSat P G (aLo P G Γ Λ call) :=
 aGx <| aAg (fun _ _ _ _ _ _ h => asC hG hmix hΓ hcall h) (fun _ q c σ Q h => abP hG hmix hΓ hcall c q σ Q h)
theorem au1 (hG : adG G) (hmix : P.follows .mixedOrders = true) {Γ : Cons} (hΓ : Γ.ok P G) (Λ : LTab) : ∀ d, CallSat P G (aHJ P G Γ Λ d)
 | 0 => ⟨fun _ _ _ _ _ h => h.elim, fun _ _ _ _ _ h => h.elim⟩
 | d + 1 => aEu hG hmix hΓ (au1 hG hmix hΓ Λ d) Λ
end
end Go.Vg
