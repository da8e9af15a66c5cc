/-
  An evaluator of Go code over plain data, proved sound against the model. Own work; no condition.
-/
import Derived.Test.YtlmjbmgabddkiaaGreatDoorClE4
set_option linter.unusedVariables false
set_option linter.unusedSimpArgs false
namespace Go.Vg
open Go Go.RowKit
def awJ (o : Oper) : Option Operand :=
 match o.op, o.guard with
 | .defer { callee := .value f, args, .. }, none => match args.toList with
  | [] => some f
  | _ => none
 | _, _ => none
def aD1 : List Oper → Option (Oper × Operand)
 | [] => none
 | [o] => match awJ o with
  | some f => some (o, f)
  | none => none
 | _ :: r => aD1 r
structure DefB where
 p : Nat
 ops0 : Array Oper
 ops1 : Array Oper
 o : Oper
 f : Operand
 rest : Code
def aBW (p : Nat) (ops0 : Array Oper) : Code → Option DefB
 | .seq (.region _ ops1 false) r => match aD1 ops1.toList with
  | some x => some ⟨p, ops0, ops1, x.1, x.2, r⟩
  | none => none
 | _ => none
def ai8 : Code → Option DefB
 | .seq (.region _ ops0 false) (.scope c) => aBW 13 ops0 c
 | .seq (.region _ ops0 false) c => aBW 7 ops0 c
 | _ => none
structure ClosB where
 gn : Func
 ops : Array Oper
 o : Oper
 rest : List Oper
 B : Code
def alW : List Oper → Bool
 | [] => true
 | o :: r => af5 o && alW r
def aCQ (P : Program) (g : FuncId) : Option ClosB :=
 match P.funcs[g]? with
 | some gn => match gn.body with
  | some (.seq (.region _ ops false) B) => match ops.toList with
   | o :: r => match agX o && alW r && Nat.beq gn.results.size 0 && acF P g with
    | true => some ⟨gn, ops, o, r, B⟩
    | false => none
   | [] => none
  | _ => none
 | none => none
def aNE (A : St → Prop) : Fi → Prop
 | .go σ => A σ
 | .pan _ _ => False
def an0 (Y : aAj) (P : Program) (Γ : Cons) (call : acP) (g : FuncId) (caps : List AV) (Q : Exit → St → Prop) (x : AV) (σ : St) : Prop :=
 match aCQ P g with
 | some c => Nat.ble caps.length c.gn.ntmps = true ∧
   aa5 P Γ call c.ops c.rest (({ slots := acD 0 (AV.maps (abO σ.H) agP caps), H := σ.H, next := σ.next + 1, n := c.gn.ntmps } : St).put c.o.dst x)
    (aN6 Y σ.next c.B fun H' n' => Q .ret { slots := aa4 (abO H') agP σ.slots, H := H', next := n', n := σ.n })
 | none => False
def aGN (Y : aAj) (P : Program) (Γ : Cons) (call : acP) (g : FuncId) (caps : List AV) (Q : Exit → St → Prop) : Exit → St → Prop
 | .normal, σ => an0 Y P Γ call g caps Q .nili σ
 | .ret, σ => an0 Y P Γ call g caps Q .nili σ
 | .panic ch, σ => alD ch fun x => an0 Y P Γ call g caps Q x σ
 | _, _ => False
abbrev aIs := Nat → Code → St → (Exit → St → Prop) → Prop
def aDi (X : aIs) (Y : aAj) (P : Program) (Γ : Cons) (call : acP) (d : DefB) (Q : Exit → St → Prop) (σ : St) : Prop :=
 match σ.eval d.f with
 | .fn g [] caps => X d.p d.rest (σ.put d.o.dst .und) (aGN Y P Γ call g caps Q)
 | _ => False
def aMr (X : aIs) (Y : aAj) (P : Program) (Γ : Cons) (call : acP) (d : DefB) (σ : St) (Q : Exit → St → Prop) : Prop :=
 aa5 P Γ call d.ops0 d.ops0.toList σ (aNE fun σ => aa5 P Γ call d.ops1 d.ops1.toList.dropLast σ (aNE (aDi X Y P Γ call d Q)))
def aMs (P : Program) (G : World → Prop) (Γ : Cons) (call : acP) (c : Code) (σ : St) (Q : Exit → St → Prop) : Prop :=
 exec P G Γ call none c σ Q ∨ ∃ d, ai8 c = some d ∧ aMr (fun _ => exec P G Γ call none) (fun l => exec P G Γ call (some l)) P Γ call d σ Q
def az0 (XB : FuncId → Code → St → (Exit → St → Prop) → Prop) (XL : Nat → aIs) (P : Program) : acP := fun t args H next K => match t with
 | .fn f => match P.funcs[f]? with
  | some fn => match fn.body with
   | some code => acF P f = true ∧ Nat.ble args.length fn.ntmps = true ∧
     XB f code { slots := acD 0 args, H := H, next := next, n := fn.ntmps } (aIz P fn (aKq K) (aN9 K))
   | none => False
  | none => False
 | .yld l => match H.find l with
  | some (.loop r) => match Nat.beq args.length r.ps.size with
   | true => XL l 2 r.assign (anF { slots := r.slots, H := H, next := next, n := r.n } r.ps.toList args)
     (aMC l fun σ => XL l 3 r.body σ (aOx l K))
   | false => False
  | _ => False
def aBD (P : Program) (G : World → Prop) (Γ : Cons) (call : acP) : acP :=
 az0 (fun _ => aMs P G Γ call) (fun l _ => exec P G Γ call (some l)) P
section
variable {C : Ctx} {P : Program} {G : World → Prop}
theorem Fr.wh {ρ ρ' : Nat → Nat} {H H' : Heap} {w w' : World} {m n : Nat} {hn : C.w0.heap.size ≤ n} {us : List Deferred} {ms : Option (List Nat)} (h : Fr (C.wh n hn us ms) m ρ H w ρ' H' w') : Fr C m ρ H w ρ' H' w' :=
 ⟨h.data, h.keys, h.rows, h.size⟩
theorem VR.un {ρ : Nat → Nat} {H : Heap} {w : World} {n : Nat} {hn : C.w0.heap.size ≤ n} {us : List Deferred} {ms : Option (List Nat)} {x : AV} {v : Value} (h : VR (C.wh n hn us ms) ρ H w x v) : VR C ρ H w x v :=
 VR.wh (C := C.wh n hn us ms) (n := C.lo) (hn := C.hlo) (us := C.us) (ms := C.mks) h
theorem VRs.un {ρ : Nat → Nat} {H : Heap} {w : World} {n : Nat} {hn : C.w0.heap.size ≤ n} {us : List Deferred} {ms : Option (List Nat)} {xs : List AV} {vs : List Value} (h : VRs (C.wh n hn us ms) ρ H w xs vs) : VRs C ρ H w xs vs :=
 VRs.wh (C := C.wh n hn us ms) (n := C.lo) (hn := C.hlo) (us := C.us) (ms := C.mks) h
theorem MRel.un {ρ : Nat → Nat} {H : Heap} {next : Nat} {w : World} {n : Nat} {hn : C.w0.heap.size ≤ n} {us : List Deferred} {ms : Option (List Nat)} (h : MRel (C.wh n hn us ms) ρ H next w) : MRel C ρ H next w :=
 MRel.wh (C := C.wh n hn us ms) (n := C.lo) (hn := C.hlo) (us := C.us) (ms := C.mks) h
theorem Fr.shut {ρ ρ' : Nat → Nat} {H H' : Heap} {w w' w'' : World} {n : Nat} (h : Fr C n ρ H w ρ' H' w') (h1 : ∀ b, b < w.heap.size → w''.heap[b]? = w'.heap[b]?) (h2 : ∀ k ∈ H'.keys, w''.heap[ρ' k]? = w'.heap[ρ' k]?) (h3 : w''.heap.size = w'.heap.size) : Fr C n ρ H w ρ' H' w'' := by
 refine ⟨fun b hb => ?_, h.keys, fun k e t l hk hk1 hk2 => ?_, by rw [h3]; exact h.size⟩
 ·obtain ⟨g1, g2⟩ := h.data b hb
  exact ⟨⟨g1.1, by rw [h3]; exact g1.2.1, g1.2.2⟩, (h1 b hb.2.1).trans g2⟩
 ·obtain ⟨l', g1, g2, g3⟩ := h.rows k e t l hk hk1 hk2
  refine ⟨l', g1, g2, fun c fr hc => ?_⟩
  obtain ⟨c', fr', g4, g5⟩ := g3 c fr hc
  exact ⟨c', fr', by rw [← (h.keys k hk hk2).2, h2 k hk2, (h.keys k hk hk2).2]; exact g4, g5⟩
theorem Fr.vr {ρ ρ' : Nat → Nat} {H H' : Heap} {next next' : Nat} {w w' : World} (hm : MRel C ρ H next' w) (hn : next' ≤ next) (h : Fr C next ρ H w ρ' H' w') {x : AV} {v : Value} (hx : VR C ρ H w x v) : VR C ρ' H' w' (x.map (abO H') agP) v :=
 VR.map h.data (fun k hk hp => ⟨hasKey_iff.1 hp, (h.keys k (zO (hm.lt k hk) hn) (hasKey_iff.1 hp)).2⟩) (fun k e t l hk hp => h.rows k e t l (zO (hm.lt k (aaE hk)) hn) hk (hasKey_iff.1 hp)) (fun _ _ _ _ _ _ => .no) hx
def aKA (C : Ctx) (σ : St) (ρ : Nat → Nat) (w : World) (Kr : List AV → St → Prop) (Kp : List PanicEntry → St → Prop) (e : Ending) (w' : World) : Prop :=
 (∃ ρ' σ' l vs, Kr l σ' ∧ MRel C ρ' σ'.H σ'.next w' ∧ VRs C ρ' σ'.H w' l vs ∧ Fr C σ.next ρ σ.H w ρ' σ'.H w' ∧ σ.next ≤ σ'.next ∧ e = .returned (aB5 vs)) ∨
 ∃ ρ' σ' ch, Kp ch σ' ∧ MRel C ρ' σ'.H σ'.next w' ∧ Fr C σ.next ρ σ.H w ρ' σ'.H w' ∧ σ.next ≤ σ'.next ∧ e = .panicked ch
def aOC (P : Program) (G : World → Prop) (fn : Func) (code : Code) (σ : St) (Kr : List AV → St → Prop) (Kp : List PanicEntry → St → Prop) : Prop :=
 ∀ (C : Ctx), G C.w0 → ∀ (ρ : Nat → Nat) (a : Act) (w : World), SRel C ρ σ a w → C.us = [] → C.mks = none → C.lo = w.heap.size → a.defers = [] →
  code.wpIn (aa1 none) 0 P (bodyPostM (aa1 none) 0 P fn (aKA C σ ρ w Kr Kp)) a w
theorem auR {fn : Func} {code : Code} {σ : St} {Kr : List AV → St → Prop} {Kp : List PanicEntry → St → Prop}
  (h : Sat P G none code σ (aIz P fn Kr Kp)) (hC : G C.w0) {ρ : Nat → Nat} {a : Act} {w : World} (hs : SRel C ρ σ a w) (hu : C.us = []) (hmk : C.mks = none) (hlo : C.lo = w.heap.size) :
  code.wpIn (aa1 none) 0 P (bodyPostM (aa1 none) 0 P fn (aKA C σ ρ w Kr Kp)) a w := by
 refine wpIn_mono (h C hC ρ a w hs none ⟨rfl, hmk⟩) ?_
 rintro e a' w' ⟨ρ', σ', h1, h2, h3, h4⟩
 have fin : (aIA P σ' fn.results.toList).holds (fun l => Kr l σ') → LeavesInM (aa1 none) 0 P fn a'.tmps (aKA C σ ρ w Kr Kp) a'.defers .returning w' := fun hh =>
  aLM hu hmk h2 hh (fun l us w'' k1 k2 k3 k4 k5 k6 => Or.inl ⟨ρ', σ', l, us, k1, k2, k3, h3.shut (by rw [hlo] at k4; exact k4) k5 k6, h4, rfl⟩)
 have finP : ∀ ch, Kp ch σ' → LeavesInM (aa1 none) 0 P fn a'.tmps (aKA C σ ρ w Kr Kp) a'.defers (.panicking ch) w' := by
  intro ch hk
  obtain ⟨hlo', ds, e1, e2, e3, -⟩ := h2.defers
  rw [e1, hu]
  show LeavesInM _ _ _ _ _ _ (_ ++ []) _ _
  refine ahJ zg ds w' h2.m e2 e3 (fun w'' k2 k3 k4 k5 k6 => ?_)
  exact Or.inr ⟨ρ', σ', ch, hk, k2, h3.shut (by rw [hlo] at k4; exact k4) k5 k6, h4, rfl⟩
 cases e with
 | normal => exact fin h1
 | ret => exact fin h1
 | panic ch => exact finP ch h1
 | _ => exact h1.elim
theorem at4 : ∀ {l : List Oper} {o : Oper} {f : Operand}, aD1 l = some (o, f) → l = l.dropLast ++ [o] ∧ awJ o = some f
 | [], _, _, h => by cases h
 | [x], o, f, h => by
  simp only [aD1] at h
  split at h
  ·rename_i f' hf
   injection h with h; injection h with h1 h2; subst h1; subst h2
   exact ⟨rfl, hf⟩
  ·cases h
 | x :: y :: r, o, f, h => by
  obtain ⟨h1, h2⟩ := at4 (l := y :: r) h
  refine ⟨?_, h2⟩
  rw [List.dropLast_cons_cons, yU, ← h1]
theorem azS {o : Oper} {f : Operand} (h : awJ o = some f) : (∃ ts, o.op = .defer { callee := .value f, args := #[], argTypes := ts }) ∧ o.guard = none := by
 unfold awJ at h
 split at h
 ·rename_i f' args ts ho hg
  split at h
  ·rename_i ha
   injection h with h; subst h
   have : args = #[] := by apply Array.ext'; exact ha
   subst this
   exact ⟨⟨_, ho⟩, hg⟩
  ·cases h
 ·cases h
theorem apD {p : Nat} {ops0 : Array Oper} {c : Code} {d : DefB} (h : aBW p ops0 c = some d) : d.ops0 = ops0 ∧ (∃ i, c = .seq (.region i d.ops1 false) d.rest) ∧ aD1 d.ops1.toList = some (d.o, d.f) := by
 unfold aBW at h
 split at h
 ·split at h
  ·rename_i x hx
   injection h with h; subst h
   exact ⟨rfl, ⟨_, rfl⟩, hx⟩
  ·cases h
 ·cases h
theorem awK {c : Code} {d : DefB} (h : ai8 c = some d) : aD1 d.ops1.toList = some (d.o, d.f) ∧ ∃ i j, c = .seq (.region i d.ops0 false) (.scope (.seq (.region j d.ops1 false) d.rest)) ∨ c = .seq (.region i d.ops0 false) (.seq (.region j d.ops1 false) d.rest) := by
 unfold ai8 at h
 split at h
 ·obtain ⟨rfl, ⟨i, rfl⟩, h3⟩ := apD h
  exact ⟨h3, _, _, Or.inl rfl⟩
 ·obtain ⟨rfl, ⟨i, rfl⟩, h3⟩ := apD h
  exact ⟨h3, _, _, Or.inr rfl⟩
 ·cases h
theorem aBA {g : FuncId} {c : ClosB} (h : aCQ P g = some c) : P.funcs[g]? = some c.gn ∧ (∃ id, c.gn.body = some (.seq (.region id c.ops false) c.B)) ∧ c.ops.toList[0]? = some c.o ∧ c.ops.toList.drop 1 = c.rest ∧ agX c.o = true ∧ (∀ x ∈ c.rest, af5 x = true) ∧ c.gn.results = #[] ∧ acF P g = true := by
 unfold aCQ at h
 split at h
 ·rename_i gn hg
  split at h
  ·rename_i id ops B hb
   split at h
   ·rename_i o r hl
    split at h
    ·rename_i hc
     injection h with h; subst h
     simp only [zk] at hc
     have hall : ∀ (l : List Oper), alW l = true → ∀ x ∈ l, af5 x = true := by
      intro l
      induction l with
      | nil => intro _ x hx; cases hx
      | cons y r ih =>
       intro h x hx
       simp only [alW, zk] at h
       rcases zm.1 hx with rfl | hx
       ·exact h.1
       ·exact ih h.2 x hx
     refine ⟨hg, ⟨id, hb⟩, by simp [hl], by simp [hl], hc.1.1.1, hall _ hc.1.1.2, ?_, hc.2⟩
     exact Array.eq_empty_of_size_eq_zero (aaB hc.1.2)
    ·cases h
   ·cases h
  ·cases h
 ·cases h
theorem aqD (p : Nat → Bool) (f : Nat → Nat → Nat → AV) : ∀ l : List AV, (AV.maps p f l).length = l.length
 | [] => rfl
 | _ :: r => congrArg Nat.succ (aqD p f r)
theorem akA (hG : adF G) {Γ : Cons} (hΓ : Γ.ok P G) {call : acP} (hcall : CallSat P G call) {Y : aAj} (hY : ∀ l c σ Q, Y l c σ Q → Sat P G (some l) c σ Q) {fn : Func} {σ0 σ1 σ : St} {Kr : List AV → St → Prop} {Kp : List PanicEntry → St → Prop} {g : FuncId} {caps : List AV} {vc : List Value} {x : AV} {v : Value} {u u' : FrameMode}
  (hrec : Rec u v u') (hu : u ≠ .run) (hset : settle u' = .returning) (hC : G C.w0) {ρ0 ρ1 ρ : Nat → Nat} {a : Act} {w0 w1 w : World} (hlo : C.lo = w0.heap.size)
  (hm1 : MRel C ρ1 σ1.H σ1.next w1) (hcaps : VRs C ρ1 σ1.H w1 caps vc) (hf0 : Fr C σ0.next ρ0 σ0.H w0 ρ1 σ1.H w1) (hn0 : σ0.next ≤ σ1.next) (hf1 : Fr C σ1.next ρ1 σ1.H w1 ρ σ.H w) (hn1 : σ1.next ≤ σ.next)
  (hs : SRel (C.wh C.lo C.hlo [asS g vc] none) ρ σ a w) (hx : ∀ w', VR C ρ σ.H w' x v) (h : an0 Y P Γ call g caps (aIz P fn Kr Kp) x σ) :
  LeavesInM (aa1 none) 0 P fn a.tmps (aKA C σ0 ρ0 w0 Kr Kp) a.defers u w := by
 unfold an0 at h
 split at h
 case h_2 => exact h.elim
 rename_i c hc
 obtain ⟨g1, ⟨id, g2⟩, g3, g4, g5, g6, g7, g8⟩ := aBA hc
 obtain ⟨hble, hex⟩ := h
 obtain ⟨hlo', ds, e1, e2, e3, -⟩ := hs.defers
 rw [e1]
 show LeavesInM _ _ _ _ _ _ (_ ++ [asS g vc]) _ _
 refine ahJ hu ds w hs.m e2 e3 (fun w2 k2 k3 k4 k5 k6 => ?_)
 have hcap2 : VRs C ρ σ.H w2 (AV.maps (abO σ.H) agP caps) vc := VRs.map (fun y u hy => (k3 _ _ (Fr.vr hm1 (zi _) hf1 hy).wh).un) hcaps
 rw [← g4] at hex
 refine asO hu g8 (aEn (C := C) (u := u) (u' := u') hG hC hΓ hcall hY g1 g2 g3 g5 (by rw [g4]; exact g6) g7 k2.un hcap2 (by rw [aqD]; exact hble) hrec (hx w2) hex) ?_
 rintro w3 ⟨ρ3, H3, n3, hK, hm3, hf3, hn3⟩
 rw [hset]
 have hf01 : Fr C σ0.next ρ0 σ0.H w0 ρ σ.H w := hf0.trans hn0 hf1
 have hf2 : Fr C σ0.next ρ0 σ0.H w0 ρ σ.H w2 := hf01.shut (fun b hb => k4 b (by show b < C.lo; rw [hlo]; exact hb)) k5 k6
 have hf3' : Fr C σ0.next ρ0 σ0.H w0 ρ3 H3 w3 := hf2.trans (zw hn0 hn1) hf3
 have hle : C.lo ≤ w3.heap.size := by rw [hlo]; exact hf3'.size
 have hs3 : SRel (C.wh C.lo C.hlo [] none) ρ3 { slots := aa4 (abO H3) agP σ.slots, H := H3, next := n3, n := σ.n } { a with defers := [] } w3 :=
  ⟨hm3.wh, fun t => by rw [aoS]; exact (Fr.vr k2.un (zi _) hf3 (k3 _ _ (hs.slots t)).un).wh, hs.size, Dfs.nil hle rfl rfl⟩
 obtain ⟨l, hl1, hl2⟩ := T.leaf (show (aIA P _ fn.results.toList).holds _ from hK)
 obtain ⟨us, q1, q2⟩ := aiY (P := P) hs3 _ _ hl1
 exact ⟨_, apI q1, Or.inl ⟨ρ3, _, l, us, hl2, hm3, q2.un, hf3', zw hn0 (zw hn1 hn3), rfl⟩⟩
theorem auS (hG : adF G) {Γ : Cons} (hΓ : Γ.ok P G) {call : acP} (hcall : CallSat P G call) {X : aIs} (hX : ∀ p c σ Q, X p c σ Q → Sat P G none c σ Q) {Y : aAj} (hY : ∀ l c σ Q, Y l c σ Q → Sat P G (some l) c σ Q) {fn : Func} {code : Code} {d : DefB} (hd : ai8 code = some d) {σ : St} {Kr : List AV → St → Prop} {Kp : List PanicEntry → St → Prop}
  (h : aMr X Y P Γ call d σ (aIz P fn Kr Kp)) (hC : G C.w0) {ρ : Nat → Nat} {a : Act} {w : World} (hs : SRel C ρ σ a w) (hlo : C.lo = w.heap.size) (hds : a.defers = []) :
  code.wpIn (aa1 none) 0 P (bodyPostM (aa1 none) 0 P fn (aKA C σ ρ w Kr Kp)) a w := by
 obtain ⟨hlast, i, j, hcode⟩ := awK hd
 obtain ⟨hl, hdo⟩ := at4 hlast
 obtain ⟨⟨ts, ho⟩, hg⟩ := azS hdo
 have hs0 : SRel (C.wh C.lo C.hlo [] (some [])) ρ σ a w := ⟨hs.m.wh, fun t => (hs.slots t).wh, hs.size, by show C.lo ≤ _; rw [hlo]; exact zi _, [], by rw [hds]; rfl, xW, fun _ h => (by cases h), fun x hx => Option.some.inj hx⟩
 have main : ∀ (ρ1 : Nat → Nat) (σ1 : St) (a1 : Act) (w1 : World), aa5 P Γ call d.ops1 d.ops1.toList.dropLast σ1 (aNE (aDi X Y P Γ call d (aIz P fn Kr Kp))) → SRel (C.wh C.lo C.hlo [] (some [])) ρ1 σ1 a1 w1 → Fr C σ.next ρ σ.H w ρ1 σ1.H w1 → σ.next ≤ σ1.next →
   (Code.seq (.region j d.ops1 false) d.rest).wpIn (aa1 none) 0 P (aLh (bodyPostM (aa1 none) 0 P fn (aKA C σ ρ w Kr Kp))) a1 w1 := by
  intro ρ1 σ1 a1 w1 hx hs1 hf1 hn1
  refine wpIn_seq (wpIn_region_list ?_)
  rw [hl]
  refine aj9 _ _ _ (ac9 (C := C.wh C.lo C.hlo [] (some [])) hG hC hΓ hcall _ hs1 hx (fun a2 w2 hr => ?_) (fun ch a2 w2 hr => ?_) none)
  ·obtain ⟨ρ2, σ2, hq, hs2, hf2, hn2⟩ := hr
   simp only [aNE, aDi] at hq
   split at hq
   case h_2 => exact hq.elim
   rename_i g caps hfv
   have hev := hs2.eval d.f
   rw [hfv] at hev
   generalize hvf : a2.eval d.f = vf at hev
   cases hev with
   | @fn _ _ _ vff vc hh1 hh2 =>
    cases hh1
    refine aDY ho hg hvf ?_
    have hd2 : a2.defers = [] := by
     obtain ⟨-, ds, e1, -, -, e2⟩ := hs2.defers
     have : ds = [] := e2 [] rfl
     subst this
     exact e1
    have hlo2 : C.lo ≤ w2.heap.size := hs2.defers.1
    have hs3 : SRel (C.wh C.lo C.hlo [asS g vc] none) ρ2 σ2 { a2 with defers := asS g vc :: a2.defers } w2 :=
     ⟨hs2.m.un.wh, fun t => (hs2.slots t).un.wh, hs2.size, hlo2, [], by rw [hd2]; rfl, xW, fun _ h => (by cases h), fun x hx => (by cases hx)⟩
    have hs4 := hs3.put (dst := d.o.dst) .und
    have hf12 : Fr C σ.next ρ σ.H w ρ2 (σ2.put d.o.dst .und).H w2 := by rw [St.put_H]; exact hf1.trans hn1 hf2.wh
    have hn12 : σ.next ≤ (σ2.put d.o.dst .und).next := by rw [St.put_next]; exact zw hn1 hn2
    refine wpIn_mono (hX _ _ _ _ hq (C.wh C.lo C.hlo [asS g vc] none) hC ρ2 _ w2 hs4 none ⟨rfl, rfl⟩) ?_
    rintro e a3 w3 ⟨ρ3, σ3, h3, h4, h5, h6⟩
    have hm1 : MRel C ρ2 (σ2.put d.o.dst .und).H (σ2.put d.o.dst .und).next w2 := hs4.m.un
    have hcp : VRs C ρ2 (σ2.put d.o.dst .und).H w2 caps vc := by rw [St.put_H]; exact hh2.un
    cases e with
    | normal => exact akA hG hΓ hcall hY .none zg rfl hC hlo hm1 hcp hf12 hn12 h5.wh h6 h4 (fun _ => .nili) h3
    | ret => exact akA hG hΓ hcall hY .none zg rfl hC hlo hm1 hcp hf12 hn12 h5.wh h6 h4 (fun _ => .nili) h3
    | panic ch =>
     ·simp only [aGN] at h3
      obtain ⟨x, hx, h7⟩ := ap4 h3
      clear h3
      obtain ⟨v, rfl, -⟩ := atU (C := C) (ρ := ρ3) (H := σ3.H) (w := w3) hx
      refine akA hG hΓ hcall hY (.some v []) zg rfl hC hlo hm1 hcp hf12 hn12 h5.wh h6 h4 (fun w' => ?_) h7
      obtain ⟨v', e', hv'⟩ := atU (C := C) (ρ := ρ3) (H := σ3.H) (w := w') hx
      injection e' with e' _
      injection e' with e' _
      rw [e']
      exact hv'
    | _ => exact h3.elim
  ·obtain ⟨_, _, hq, _⟩ := hr
   exact hq.elim
 have first : (∀ {B : Code}, (∀ (ρ1 : Nat → Nat) (σ1 : St) (a1 : Act) (w1 : World), aa5 P Γ call d.ops1 d.ops1.toList.dropLast σ1 (aNE (aDi X Y P Γ call d (aIz P fn Kr Kp))) → SRel (C.wh C.lo C.hlo [] (some [])) ρ1 σ1 a1 w1 → Fr C σ.next ρ σ.H w ρ1 σ1.H w1 → σ.next ≤ σ1.next →
   B.wpIn (aa1 none) 0 P (bodyPostM (aa1 none) 0 P fn (aKA C σ ρ w Kr Kp)) a1 w1) → (Code.seq (.region i d.ops0 false) B).wpIn (aa1 none) 0 P (bodyPostM (aa1 none) 0 P fn (aKA C σ ρ w Kr Kp)) a w) := by
  intro B hB
  refine wpIn_seq (wpIn_region_list (ac9 (C := C.wh C.lo C.hlo [] (some [])) hG hC hΓ hcall _ hs0 h (fun a1 w1 hr => ?_) (fun ch a1 w1 hr => ?_) none))
  ·obtain ⟨ρ1, σ1, hq, hs1, hf1, hn1⟩ := hr
   exact hB ρ1 σ1 a1 w1 hq hs1 hf1.wh hn1
  ·obtain ⟨_, _, hq, _⟩ := hr
   exact hq.elim
 rcases hcode with rfl | rfl
 ·exact first fun ρ1 σ1 a1 w1 h1 h2 h3 h4 => al5 (main ρ1 σ1 a1 w1 h1 h2 h3 h4)
 ·refine first fun ρ1 σ1 a1 w1 h1 h2 h3 h4 => wpIn_mono (main ρ1 σ1 a1 w1 h1 h2 h3 h4) ?_
  intro e a2 w2 hq
  cases e <;> first | exact hq | exact hq.elim
theorem auQ (hG : adF G) (hmix : P.follows .mixedOrders = true) {Γ : Cons} (hΓ : Γ.ok P G) {call : acP} (hcall : CallSat P G call) {fn : Func} {code : Code} {σ : St} {Kr : List AV → St → Prop} {Kp : List PanicEntry → St → Prop}
  (h : aMs P G Γ call code σ (aIz P fn Kr Kp)) : aOC P G fn code σ Kr Kp := by
 intro C hC ρ a w hs hu hmk hlo hds
 rcases h with h | ⟨d, hd, h⟩
 ·exact auR (ab3 hG hmix hΓ hcall code _ _ h) hC hs hu hmk hlo
 ·exact auS hG hΓ hcall (fun _ c σ Q => ab3 hG hmix hΓ hcall c σ Q) (fun _ c σ Q => ab3 hG hmix hΓ hcall c σ Q) hd h hC hs hlo hds
theorem azZ {XB : FuncId → Code → St → (Exit → St → Prop) → Prop} {XL : Nat → aIs} (hB : ∀ f fn code σ Kr Kp, XB f code σ (aIz P fn Kr Kp) → aOC P G fn code σ Kr Kp) (hL : ∀ l q c σ Q, XL l q c σ Q → Sat P G (some l) c σ Q) : CallSat P G (az0 XB XL P) := by
  refine ⟨fun f args H next K h C ρ w vs hC hm hv => ?_, fun l args H next K h C ρ w vs hC hm hv => ?_⟩
  ·simp only [az0] at h
   split at h
   ·rename_i fn hf
    split at h
    ·rename_i code hb
     obtain ⟨he, hle, hex⟩ := h
     have hw0 : C.w0.heap.size ≤ w.heap.size := hm.below.size
     refine ⟨he, (callsIn_wideR (r := none) (n := 0)).1 (CallsIn.mono (callsIn_of_wp_marks (F := aa1 none) (n := 0) hf hb trivial (hB _ _ _ _ _ _ hex (C.at w.heap.size hw0) hC _ _ _ (arB rfl rfl hm.at (zi _) hv.at (Nat.le_of_ble_eq_true hle)) rfl rfl rfl rfl)) ?_)⟩
     rintro e w' (⟨ρ', σ', l, us, k1, k2, k3, k4, k5, rfl⟩ | ⟨ρ', σ', ch, k1, k2, k4, k5, rfl⟩)
     ·unfold aKq at k1
      split at k1
      ·rename_i hpn
       exact ⟨ρ', _, _, _, k1, k2.back, k4.back, k5, Or.inl ⟨_, rfl, hpn, (apJ k3).back⟩⟩
      ·exact k1.elim
     ·simp only [aN9] at k1
      obtain ⟨x, hx, k1⟩ := ap4 k1
      exact ⟨ρ', _, _, _, k1, k2.back, k4.back, k5, Or.inr ⟨x, ch, rfl, avV hx, rfl⟩⟩
    ·exact h.elim
   ·exact h.elim
  ·simp only [az0] at h
   split at h
   ·rename_i r hfind
    split at h
    ·rename_i hlen
     have hlen := aaB hlen
     have hkey := aaE (Heap.find_mem hfind)
     have hlt := hm.lt l hkey
     obtain ⟨fn, tmps, dd, g1, g2, g3⟩ := hm.mem _ _ (Heap.find_mem hfind)
     have hvl := hv.length
     have hw0 : C.w0.heap.size ≤ w.heap.size := hm.below.size
     refine ⟨fn, _, r.assign, r.body, run_yield g1 zf, roundIn_of_wpIn trivial ?_⟩
     have hs0 : SRel (C.at w.heap.size hw0) ρ { slots := r.slots, H := H, next := next, n := r.n } { tmps := tmps, defers := [] } w := ⟨hm.at, fun t => (g3 t).at, g2, Dfs.nil (zi _) rfl rfl⟩
     obtain ⟨hs1, hH1, hn1⟩ := az2 r.ps.toList args vs _ _ hs0 hv.at
     have htm : (r.ps.zip (⟨vs⟩ : Array Value)).foldl (fun t (x : Nat × Value) => t.setIfInBounds x.1 x.2) tmps = (r.ps.toList.zip vs).foldl (fun t x => t.setIfInBounds x.1 x.2) tmps := by
      rw [← Array.foldl_toList, Array.toList_zip]
     have hs1' : SRel (C.at w.heap.size hw0) ρ (anF { slots := r.slots, H := H, next := next, n := r.n } r.ps.toList args) { tmps := (r.ps.zip (⟨vs⟩ : Array Value)).foldl (fun t (x : Nat × Value) => t.setIfInBounds x.1 x.2) tmps, defers := [] } w := by
      rw [htm]; exact hs1
     refine wpIn_mono (hL _ _ _ _ _ h (C.at w.heap.size hw0) hC ρ _ w hs1' (some (ρ l)) ⟨by rw [hn1]; exact hlt, fun _ => rfl⟩) ?_
     rintro e a1 w1 ⟨ρ1, σ1, k1, k2, k3, k4⟩
     rw [hH1, hn1] at k3
     rw [hn1] at k4
     cases e with
     | normal =>
      simp only [aMC] at k1
      split at k1
      ·rename_i r1 hf1
       split at k1
       ·rename_i hst
        have hkey1 := aaE (Heap.find_mem hf1)
        have hρ1 := (k3.keys l hlt hkey1).2
        obtain ⟨fn1, tmps1, d1, b1, b2, b3⟩ := k2.m.mem _ _ (Heap.find_mem hf1)
        have hbr := run_beginRound (P := P) b1 hst
        obtain ⟨hm2, hext2⟩ := k2.m.turn hf1 .busy r1.pend b1 b2 b3
        rw [hρ1] at hbr hm2 hext2
        refine ⟨_, hbr, ?_⟩
        have hfr2 := hext2.fr (n := σ1.next) (fun k _ hk => by rwa [Heap.keys_up] at hk)
        have hs2 := k2.frame (next' := σ1.next) hm2 hfr2 (fun k hk => by rw [Heap.keys_up]; exact hk)
        refine wpIn_mono (hL _ _ _ _ _ k1 (C.at w.heap.size hw0) hC ρ1 _ _ hs2 (some (ρ l)) ⟨zO hlt k4, fun _ => by rw [hρ1]⟩) ?_
        rintro e a3 w3 ⟨ρ3, σ3, m1, m2, m3, m4⟩
        unfold aOx at m1
        split at m1
        ·rename_i j hj
         split at m1
         ·rename_i r3 hf3
          have hkey3 := aaE (Heap.find_mem hf3)
          have hρ3 : ρ3 l = ρ l := (m3.keys l (zO hlt k4) hkey3).2.trans hρ1
          obtain ⟨fn3, tmps3, d3, c1, c2, c3⟩ := m2.m.mem _ _ (Heap.find_mem hf3)
          have hend := run_endRound (P := P) j c1
          have hrs : aoO j = (if j.isNone then .ready else .done) := by cases j <;> rfl
          obtain ⟨hm4, hext4⟩ := m2.m.turn hf3 (aoO j) j c1 c2 c3
          rw [hρ3] at hend hm4 hext4
          rw [hrs] at hm4 hext4 m1
          have f2 : Fr (C.at w.heap.size hw0) σ1.next ρ1 σ1.H w1 ρ3 σ3.H w3 := hfr2.trans (zi _) m3
          have f3 := hext4.fr (n := σ3.next) (fun k _ hk => by rwa [Heap.keys_up] at hk)
          have hfr := ((k3.trans k4 f2).trans (n' := σ3.next) (zw k4 m4) f3).back
          generalize w3.putObj (ρ l) (.loop { state := if j.isNone then .ready else .done, pending := j, fn := fn3, tmps := tmps3, params := r3.ps, assign := r3.assign, body := r3.body, defers := d3 }) = W4 at hend hm4 hfr
          have hce : CallEnd C ρ H next w K (.returned (.bool j.isNone)) W4 := ⟨ρ3, _, _, _, m1, hm4.back, hfr, zw k4 m4, Or.inl ⟨_, rfl, rfl, acJ⟩⟩
          cases e with
          | normal => injection hj with hj; subst hj; exact ⟨_, _, hend, hce⟩
          | ret => injection hj with hj; subst hj; exact ⟨_, _, hend, hce⟩
          | exit id => injection hj with hj; subst hj; exact ⟨_, _, hend, hce⟩
          | _ => cases hj
         ·exact m1.elim
        ·exact m1.elim
       ·exact k1.elim
      ·exact k1.elim
     | _ => exact k1.elim
    ·exact h.elim
   ·exact h.elim
theorem aHW (hG : adF G) (hmix : P.follows .mixedOrders = true) {Γ : Cons} (hΓ : Γ.ok P G) {call : acP} (hcall : CallSat P G call) : CallSat P G (aBD P G Γ call) :=
 azZ (fun _ _ _ _ _ _ h => auQ hG hmix hΓ hcall h) (fun _ _ c σ Q h => ab3 hG hmix hΓ hcall c σ Q h)
theorem arL {f : FuncId} {fn : Func} {code : Code} (hf : P.funcs[f]? = some fn) (hb : fn.body = some code) (he : acF P f = true)
  (c : Con) (hce : c.err = false) (hn : ∀ x, c.pre x → Nat.ble (aiM c.args x).length fn.ntmps = true)
  (hex : ∀ x : c.args.T, Wf c.args x → c.pre x → aOC P G fn code { slots := acD 0 (aiM c.args x), H := [], next := 0, n := fn.ntmps } (aNU c.res (c.fn x)) fun _ _ => False) : c.ok P G f := by
 refine Con.ok_plain hce ⟨he, fun w ok vs x hGw hok hvs hp => (callsIn_wideR (r := none) (n := 0)).1 ?_⟩
 generalize hC : ({ w0 := w, okA := ok, lt := hok, lo := w.heap.size, hlo := zi _ } : Ctx) = C
 have hCw : C.w0 = w := by rw [← hC]
 have hCu : C.us = [] := by rw [← hC]
 have hCm : C.mks = none := by rw [← hC]
 have hClo : C.lo = w.heap.size := by rw [← hC]
 have hokA : C.okA = ok := by rw [← hC]
 have hm : MRel C (fun _ => 0) [] 0 w := ⟨by rw [hCw]; exact Below.refl _ _, xW, (by intro k hk; cases hk), (by intro k hk; cases hk), (by intro k hk; cases hk), (by intro k b hk; cases hk)⟩
 have hkk : ∀ b, ok b → Ok C (fun _ => 0) [] w b := fun b hb => ⟨Or.inl (by rw [hokA]; exact hb), hok b hb, (by intro k hk; cases hk)⟩
 refine CallsIn.mono (callsIn_of_wp_marks (F := aa1 none) (n := 0) hf hb trivial (hex x hvs.wf hp C (by rw [hCw]; exact hGw) _ _ _ (arB hCu hCm hm (by rw [hClo]; exact zi _) (RdVs.args hkk _ _ _ hvs) (Nat.le_of_ble_eq_true (hn x hp))) hCu hCm hClo rfl)) ?_
 rintro e w'' (⟨ρ', σ', l, us, k1, k2, k3, k4, k5, rfl⟩ | ⟨_, _, _, k1, _⟩)
 ·refine ⟨us, rfl, ?_, by have := k2.below; rw [hCw] at this; exact this⟩
  unfold aNU at k1
  split at k1
  ·rename_i z hz
   subst k1
   have h5 := apB _ _ _ _ hz (VRs.map (fun x v hx => aJR k2 hx) k3)
   have mono : ∀ (t : Ty) (x : t.T) (vs : List Value), RdVs (Ok C ρ' [] w'') w'' t x vs → RdVs (alC ok w w'') w'' t x vs := by
    intro t
    induction t with
    | unit => intro x vs h; exact h
    | pair t u _ ihu =>
     rintro x vs ⟨v, us, e, h6, h7⟩
     refine ⟨v, us, e, h6.mono (fun b hb => ⟨?_, rfl⟩), ihu _ _ h7⟩
     rcases hb.1 with h | h
     ·exact Or.inl (by rw [hokA] at h; exact h)
     ·exact Or.inr ⟨by rw [hCw] at h; exact h, hb.2.1⟩
    | _ => intro x vs h; exact h.elim
   exact mono _ _ _ h5
  ·exact k1.elim
 ·exact k1.elim
end
open Go Go.RowKit
def rn (k k' j : Nat) : Nat := match Nat.beq j k with | true => k' | false => j
mutual
def AV.ren (k k' : Nat) : AV → AV
 | .ptr j off => .ptr (rn k k' j) off
 | .eptr j i => .eptr (rn k k' j) i
 | .efp j i f => .efp (rn k k' j) i f
 | .own j off len => .own (rn k k' j) off len
 | .ox j off len => .ox (rn k k' j) off len
 | .sv j n => .sv (rn k k' j) n
 | .fn g first caps => .fn g (AV.rens k k' first) (AV.rens k k' caps)
 | .yld l => .yld (rn k k' l)
 | .mp j => .mp (rn k k' j)
 | .ag cells => .ag (AV.rens k k' cells)
 | .tup l => .tup (AV.rens k k' l)
 | .d t x => .d t x
 | .dptr t x => .dptr t x
 | .nsl => .nsl
 | .nilp => .nilp
 | .nili => .nili
 | .nni => .nni
 | .ifc k t x => .ifc k t x
 | .und => .und
 | .no => .no
def AV.rens (k k' : Nat) : List AV → List AV
 | [] => []
 | a :: as => a.ren k k' :: AV.rens k k' as
end
def aiZ (k k' : Nat) : List (Nat × AV) → List (Nat × AV)
 | [] => []
 | (t, a) :: r => (t, a.ren k k') :: aiZ k k' r
def aFo (k k' : Nat) : List (Int × AV) → List (Int × AV)
 | [] => []
 | (n, v) :: r => (n, v.ren k k') :: aFo k k' r
def Bk.ren (k k' : Nat) : Bk → Bk
 | .vars e cells => .vars e (AV.rens k k' cells)
 | .row e t l => .row e t l
 | .loop r => .loop { r with slots := aiZ k k' r.slots }
 | .dic j l => .dic j (aFo k k' l)
 | .any => .any
def Heap.ren (k k' : Nat) : Heap → Heap
 | [] => []
 | (j, b) :: r => (rn k k' j, b.ren k k') :: Heap.ren k k' r
def St.rekey (σ : St) (k k' : Nat) : St := { σ with slots := aiZ k k' σ.slots, H := Heap.ren k k' σ.H, next := Nat.max σ.next (k' + 1) }
section
variable {C : Ctx} {ρ : Nat → Nat} {H : Heap} {w : World} {k k' : Nat}
theorem avM : rn k k' k = k' := by simp [rn]
theorem aFk {j : Nat} (h : j ≠ k) : rn k k' j = j := by simp [rn, aqB h]
theorem afK (hk' : k' ∉ H.keys) {j : Nat} (hj : j ∈ H.keys) : upd ρ k' (ρ k) (rn k k' j) = ρ j := by
 by_cases h : j = k
 ·subst h; rw [avM, aaW]
 ·rw [aFk h, adI]; intro e; subst e; exact hk' hj
theorem af8 : (Heap.ren k k' H).keys = H.keys.map (rn k k') := by
 induction H with
 | nil => rfl
 | cons x r ih =>
  obtain ⟨j, b⟩ := x
  show rn k k' j :: (Heap.ren k k' r).keys = rn k k' j :: ((Heap.keys r).map (rn k k'))
  rw [ih]
theorem mem_ren {j : Nat} {b : Bk} : (j, b) ∈ Heap.ren k k' H ↔ ∃ i c, (i, c) ∈ H ∧ j = rn k k' i ∧ b = c.ren k k' := by
 induction H with
 | nil => exact ⟨fun h => (by cases h), fun ⟨_, _, h, _⟩ => (by cases h)⟩
 | cons x r ih =>
  obtain ⟨i, c⟩ := x
  simp only [Heap.ren, zm, Prod.mk.injEq]
  constructor
  ·rintro (⟨h1, h2⟩ | h)
   ·exact ⟨i, c, Or.inl ⟨rfl, rfl⟩, h1, h2⟩
   ·obtain ⟨i', c', h1, h2⟩ := ih.1 h
    exact ⟨i', c', Or.inr h1, h2⟩
  ·rintro ⟨i', c', ⟨rfl, rfl⟩ | h1, h2, h3⟩
   ·exact Or.inl ⟨h2, h3⟩
   ·exact Or.inr (ih.2 ⟨i', c', h1, h2, h3⟩)
theorem Ok.ren (hk' : k' ∉ H.keys) {b : Nat} (h : Ok C ρ H w b) : Ok C (upd ρ k' (ρ k)) (Heap.ren k k' H) w b := by
 refine ⟨h.1, h.2.1, ?_⟩
 intro j hj
 rw [af8] at hj
 obtain ⟨i, hi, rfl⟩ := zz.1 hj
 rw [afK hk' hi]
 exact h.2.2 i hi
theorem VR.ren (hk' : k' ∉ H.keys) {x : AV} {v : Value} (h : VR C ρ H w x v) : VR C (upd ρ k' (ρ k)) (Heap.ren k k' H) w (x.ren k k') v := by
 have hd : ∀ b, Ok C ρ H w b → Ok C (upd ρ k' (ρ k)) (Heap.ren k k' H) w b ∧ w.heap[b]? = w.heap[b]? := fun b h => ⟨h.ren hk', rfl⟩
 have hkey : ∀ j, j ∈ H.keys → rn k k' j ∈ (Heap.ren k k' H).keys := fun j hj => by rw [af8]; exact zz.2 ⟨j, hj, rfl⟩
 have hrow : ∀ j e t l, (j, Bk.row e t l) ∈ H → (rn k k' j, Bk.row e t l) ∈ Heap.ren k k' H := fun j e t l hj => mem_ren.2 ⟨j, _, hj, rfl, rfl⟩
 refine VR.rec (motive_1 := fun x v _ => VR C (upd ρ k' (ρ k)) (Heap.ren k k' H) w (x.ren k k') v) (motive_2 := fun xs vs _ => VRs C (upd ρ k' (ρ k)) (Heap.ren k k' H) w (AV.rens k k' xs) vs)
  ?_ ?_ ?_ ?_ ?_ ?_ ?_ ?_ ?_ ?_ ?_ ?_ ?_ ?_ ?_ ?_ ?_ ?_ ?_ ?_ ?_ ?_ h
 ·intro t x v h; exact .d (RdV.mono hd h)
 ·intro j off h
  rw [← afK (ρ := ρ) (k := k) hk' h]
  exact .ptr (hkey j h)
 ·intro j i e t l h hi
  rw [← afK (ρ := ρ) (k := k) hk' (aaE h)]
  exact .eptr (hrow j e t l h) hi
 ·intro j i f o u e t l h hi ho
  rw [← afK (ρ := ρ) (k := k) hk' (aaE h)]
  exact .efp (hrow j e t l h) hi ho
 ·intro t x b o c e fr hb hc ho h
  exact .dptr (hd b hb).1 hc ho (Rd.mono hd _ _ _ h)
 ·intro j off len e t l a cap c fr h hl hc hm hb hs ha
  have e1 := afK (ρ := ρ) (k := k) hk' (aaE h)
  exact .own (hrow j e t l h) hl hc hm (by rw [e1]; exact hb) hs (by rw [e1]; exact ha)
 ·intro j off len e t l a c fr h hl hm hb hs ha
  have e1 := afK (ρ := ρ) (k := k) hk' (aaE h)
  exact .ox (hrow j e t l h) hl hm (by rw [e1]; exact hb) hs (by rw [e1]; exact ha)
 ·intro j n cap h hn hc
  rw [← afK (ρ := ρ) (k := k) hk' h]
  exact .sv (hkey j h) hn hc
 ·exact .nsl
 ·exact .nilp
 ·exact .nili
 ·exact .nni
 ·intro k t x v h; exact .ifc (RdV.mono hd h)
 ·intro g first caps vf vc _ _ h1 h2; exact .fn h1 h2
 ·intro l h
  rw [← afK (ρ := ρ) (k := k) hk' h]
  exact .yld (hkey l h)
 ·intro j h
  rw [← afK (ρ := ρ) (k := k) hk' h]
  exact .mp (hkey j h)
 ·intro cells vs _ h1 h; exact .ag h h1
 ·intro l vs _ h; exact .tup h
 ·exact .und
 ·intro v; exact .no
 ·exact .nil
 ·intro a v as vs _ _ h hs; exact .cons h hs
theorem VRs.ren (hk' : k' ∉ H.keys) : ∀ {xs : List AV} {vs : List Value}, VRs C ρ H w xs vs → VRs C (upd ρ k' (ρ k)) (Heap.ren k k' H) w (AV.rens k k' xs) vs
 | _, _, .nil => .nil
 | _, _, .cons h1 h2 => .cons (h1.ren hk') (VRs.ren hk' h2)
theorem MapR.ren {R R' : AV → Value → Prop} {k k' : Nat} {j : IntKind} (h : ∀ x v, R x v → R' (x.ren k k') v) : ∀ {l : List (Int × AV)} {es : List MapEntry}, MapR R j l es → MapR R' j (aFo k k' l) es
 | [], [], _ => trivial
 | _ :: _, _ :: _, ⟨h1, h2, h3⟩ => ⟨h1, h _ _ h2, MapR.ren h h3⟩
 | [], _ :: _, h => h.elim
 | _ :: _, [], h => h.elim
theorem aCr (s : List (Nat × AV)) (t : Nat) : adG (aiZ k k' s) t = (adG s t).ren k k' := by
 induction s with
 | nil => rfl
 | cons x r ih =>
  obtain ⟨j, a⟩ := x
  simp only [aiZ, adG]
  cases Nat.beq j t <;> simp [ih]
theorem SRel.rekey {σ : St} {a : Act} (hs : SRel C ρ σ a w) (hk' : k' ∉ σ.H.keys) : SRel C (upd ρ k' (ρ k)) (σ.rekey k k') a w := by
 have hm := hs.m
 have hd : ∀ b, Ok C ρ σ.H w b → Ok C (upd ρ k' (ρ k)) (Heap.ren k k' σ.H) w b ∧ w.heap[b]? = w.heap[b]? := fun b h => ⟨h.ren hk', rfl⟩
 refine ⟨⟨hm.below, ?_, ?_, ?_, ?_, ?_⟩, fun t => ?_, hs.size, hs.defers.mono hd (zi _)⟩
 ·show (Heap.ren k k' σ.H).keys.Nodup
  rw [af8]
  refine List.nodup_iff_pairwise_ne.2 (List.pairwise_map.2 (List.Pairwise.imp_of_mem ?_ (List.nodup_iff_pairwise_ne.1 hm.nodup)))
  intro i j hi hj hne e
  apply hne
  have h1 := afK (ρ := fun x => x) (k := k) hk' hi
  have h2 := afK (ρ := fun x => x) (k := k) hk' hj
  rw [e] at h1
  exact h1.symm.trans h2
 ·intro j hj
  have hj' : j ∈ (Heap.ren k k' σ.H).keys := hj
  rw [af8] at hj'
  obtain ⟨i, hi, rfl⟩ := zz.1 hj'
  by_cases h : i = k
  ·subst h; rw [avM]; exact zO (yM _) (Nat.le_max_right _ _)
  ·rw [aFk h]; exact zO (hm.lt i hi) (Nat.le_max_left _ _)
 ·intro j hj i hi e
  have hj' : j ∈ (Heap.ren k k' σ.H).keys := hj
  have hi' : i ∈ (Heap.ren k k' σ.H).keys := hi
  rw [af8] at hj' hi'
  obtain ⟨j0, hj0, rfl⟩ := zz.1 hj'
  obtain ⟨i0, hi0, rfl⟩ := zz.1 hi'
  rw [afK hk' hj0, afK hk' hi0] at e
  rw [hm.inj _ hj0 _ hi0 e]
 ·intro j hj
  have hj' : j ∈ (Heap.ren k k' σ.H).keys := hj
  rw [af8] at hj'
  obtain ⟨j0, hj0, rfl⟩ := zz.1 hj'
  rw [afK hk' hj0]
  exact hm.low _ hj0
 ·intro j b hb
  obtain ⟨i, c, h1, rfl, rfl⟩ := mem_ren.1 hb
  rw [afK hk' (aaE h1)]
  have hbr := hm.mem i c h1
  cases c with
  | vars e cells =>
   obtain ⟨c, g1, g2, g3⟩ := hbr
   exact ⟨c, g1, g2.ren hk', g3⟩
  | row e t l =>
   obtain ⟨c, g1, g2, g3, g4, g5⟩ := hbr
   exact ⟨c, g1, g2, g3, RdL.mono (fun x cs => Rd.mono hd t x cs) _ _ g4, g5⟩
  | loop r =>
   obtain ⟨fn, tmps, d, g1, g2, g3⟩ := hbr
   exact ⟨fn, tmps, d, g1, g2, fun t => by rw [aCr]; exact (g3 t).ren hk'⟩
  | dic j l =>
   obtain ⟨es, n, g1, g2⟩ := hbr
   exact ⟨es, n, g1, g2.ren (fun x v h => VR.ren hk' h)⟩
  | any => exact hbr
 ·show VR C _ (Heap.ren k k' σ.H) w (adG (aiZ k k' σ.slots) t) _
  rw [aCr]
  exact (hs.slots t).ren hk'
theorem Fr.rekey {n : Nat} (hk' : k' ∉ H.keys) (h1 : n ≤ k') : Fr C n ρ H w (upd ρ k' (ρ k)) (Heap.ren k k' H) w := by
 refine ⟨fun b h => ⟨h.ren hk', rfl⟩, fun j hj hjm => ?_, fun j e t l hj hjm hj' => ⟨l, mem_ren.2 ⟨j, _, hjm, (aFk ?_).symm, rfl⟩, zi _, fun c fr hc => ⟨c, fr, hc, rfl⟩⟩, zi _⟩
 rotate_left
 ·rintro rfl
  rw [af8] at hj'
  obtain ⟨i, hi, e⟩ := zz.1 hj'
  by_cases h : i = j
  ·subst h; rw [avM] at e; subst e; exact hk' hi
  ·rw [aFk h] at e; exact h e
 rw [af8] at hjm
 obtain ⟨i, hi, rfl⟩ := zz.1 hjm
 by_cases h : i = k
 ·subst h; rw [avM] at hj; omega
 ·rw [aFk h] at hj ⊢
  exact ⟨hi, adI ρ zb⟩
end
section
variable {P : Program} {G : World → Prop}
end
def asT (α : Type) (x : α) : α := x
def len {α : Type} (l : List α) : Int := (l.length : Int)
def gi {α : Type} (l : List α) (i : Int) (d : α) : α := l.getD i.toNat d
def w64 (x : Int) : Int := IntKind.wrap .i64 x
def abI (x : Int) : Int := IntKind.wrap .u64 x
def adH (x : Int) : Int := IntKind.wrap .u32 x
def wu8 (x : Int) : Int := IntKind.wrap .u8 x
def inb (a b : Int) : Prop := 0 ≤ a ∧ a < b
def inc (a b : Int) : Prop := 0 ≤ a ∧ a ≤ b
open Go Go.RowKit
inductive Loc where
 | s (t : Nat)
 | l (k t : Nat)
 | c (k o : Nat)
def St.at (σ : St) : Loc → AV
 | .s t => adG σ.slots t
 | .l k t => match σ.H.find k with
  | some (.loop r) => adG r.slots t
  | _ => .no
 | .c k o => match σ.H.find k with
  | some (.vars _ l) => l.getD o .no
  | _ => .no
def St.set (σ : St) (x : AV) : Loc → St
 | .s t => { σ with slots := (t, x) :: del σ.slots t }
 | .l k t => match σ.H.find k with
  | some (.loop r) => { σ with H := σ.H.up k (.loop { r with slots := (t, x) :: del r.slots t }) }
  | _ => σ
 | .c k o => match σ.H.find k with
  | some (.vars e l) => { σ with H := σ.H.up k (.vars e (l.set o x)) }
  | _ => σ
inductive VarQ : Type → Type 1 where
 | nil : VarQ Unit
 | dat {α : Type} (p : Loc) (ty : Ty) (r : VarQ α) : VarQ (ty.T × α)
 | row {α : Type} (k : Nat) (ty : Ty) (r : VarQ α) : VarQ (List ty.T × α)
 | app {α : Type} (p : Loc) (k : Nat) (e : TypeId) (ty : Ty) (r : VarQ α) : VarQ (List ty.T × α)
 | appN {α : Type} (p : Loc) (k : Nat) (e : TypeId) (ty : Ty) (r : VarQ α) : VarQ (Bool × List ty.T × α)
 | cells {α : Type} (k : Nat) (ty : Ty) (r : VarQ α) : VarQ (ty.T × α)
 | forget {α : Type} (p : Loc) (r : VarQ α) : VarQ α
 | ptrN {α : Type} (p : Loc) (k o : Nat) (r : VarQ α) : VarQ (Bool × α)
def aIw : {α : Type} → VarQ α → α → St → St
 | _, .nil, _, σ => σ
 | _, .dat p ty r, i, σ => aIw r i.2 (σ.set (.d ty i.1) p)
 | _, .row k ty r, i, σ => aIw r i.2 (match σ.H.find k with
  | some (.row e _ _) => { σ with H := σ.H.up k (.row e ty i.1) }
  | _ => σ)
 | _, .app p k e ty r, i, σ => aIw r i.2 { (σ.set (.own k 0 i.1.length) p) with H := (k, .row e ty i.1) :: (σ.set (.own k 0 i.1.length) p).H }
 | _, .appN p k e ty r, i, σ => match i.1 with
  | true => aIw r i.2.2 (σ.set .nsl p)
  | false => aIw r i.2.2 { (σ.set (.own k 0 i.2.1.length) p) with H := (k, .row e ty i.2.1) :: (σ.set (.own k 0 i.2.1.length) p).H }
 | _, .cells k ty r, i, σ => aIw r i.2 (match σ.H.find k with
  | some (.vars e _) => { σ with H := σ.H.up k (.vars e (unpack ty i.1)) }
  | _ => σ)
 | _, .forget p r, i, σ => aIw r i (σ.set .no p)
 | _, .ptrN p k o r, i, σ => match i.1 with
  | true => aIw r i.2 (σ.set .nilp p)
  | false => aIw r i.2 (σ.set (.ptr k o) p)
def agS : {α : Type} → VarQ α → α → (α → Prop) → Prop
 | _, .nil, _, K => K ()
 | _, .dat _ _ r, i, K => agS r i.2 fun j => K (i.1, j)
 | _, .row _ _ r, i, K => agS r i.2 fun j => K (i.1, j)
 | _, .app _ _ _ _ r, i, K => agS r i.2 fun j => K (i.1, j)
 | _, .appN _ _ _ _ r, i, K => asW i.1 (agS r i.2.2 fun j => K (true, i.2.1, j)) (agS r i.2.2 fun j => K (false, i.2.1, j))
 | _, .cells _ _ r, i, K => agS r i.2 fun j => K (i.1, j)
 | _, .forget _ r, i, K => agS r i K
 | _, .ptrN _ _ _ r, i, K => asW i.1 (agS r i.2 fun j => K (true, j)) (agS r i.2 fun j => K (false, j))
theorem abF : ∀ {α : Type} (vs : VarQ α) (i : α) (K : α → Prop), agS vs i K → K i
 | _, .nil, _, _, h => h
 | _, .dat _ _ r, i, _, h => abF r i.2 _ h
 | _, .row _ _ r, i, _, h => abF r i.2 _ h
 | _, .app _ _ _ _ r, i, _, h => abF r i.2 _ h
 | _, .appN _ _ _ _ r, i, K, h => by
  obtain ⟨b, l, j⟩ := i
  cases b with
  | true => exact abF r j _ h
  | false => exact abF r j _ h
 | _, .cells _ _ r, i, _, h => abF r i.2 _ h
 | _, .forget _ r, i, _, h => abF r i _ h
 | _, .ptrN _ _ _ r, i, K, h => by
  obtain ⟨b, j⟩ := i
  cases b with
  | true => exact abF r j _ h
  | false => exact abF r j _ h
def azN (σ : St) : {α : Type} → VarQ α → (α → Prop) → Prop
 | _, .nil, K => K ()
 | _, .dat p ty r, K => match toD ty (σ.at p) with
  | some x => azN σ r (fun i => K (x, i))
  | none => False
 | _, .row k ty r, K => match σ.H.find k with
  | some (.row _ u l) => match (u.sl).as (.sl ty) l with
   | some l => azN σ r (fun i => K (l, i))
   | none => False
  | _ => False
 | _, .app _ k _ ty r, K => match σ.H.find k with
  | some (.row _ u l) => match (u.sl).as (.sl ty) l with
   | some l => azN σ r (fun i => K (l, i))
   | none => False
  | _ => False
 | _, .appN p k _ ty r, K => match σ.at p with
  | .nsl => azN σ r (fun i => K (true, [], i))
  | _ => match σ.H.find k with
   | some (.row _ u l) => match (u.sl).as (.sl ty) l with
    | some l => azN σ r (fun i => K (false, l, i))
    | none => False
   | _ => False
 | _, .cells k ty r, K => match σ.H.find k with
  | some (.vars _ l) => match pack ty l with
   | some (x, []) => azN σ r (fun i => K (x, i))
   | _ => False
  | _ => False
 | _, .forget _ r, K => azN σ r K
 | _, .ptrN p _ _ r, K => match σ.at p with
  | .nilp => azN σ r (fun i => K (true, i))
  | .ptr _ _ => azN σ r (fun i => K (false, i))
  | _ => False
theorem adN {σ : St} : ∀ {α : Type} (vs : VarQ α) (K : α → Prop), azN σ vs K → ∃ i, K i
 | _, .nil, _, h => ⟨(), h⟩
 | _, .dat p ty r, _, h => by
  simp only [azN] at h
  split at h
  ·obtain ⟨i, h⟩ := adN r _ h; exact ⟨_, h⟩
  ·exact h.elim
 | _, .row k ty r, _, h => by
  simp only [azN] at h
  split at h
  ·split at h
   ·obtain ⟨i, h⟩ := adN r _ h; exact ⟨_, h⟩
   ·exact h.elim
  ·exact h.elim
 | _, .app _ k _ ty r, _, h => by
  simp only [azN] at h
  split at h
  ·split at h
   ·obtain ⟨i, h⟩ := adN r _ h; exact ⟨_, h⟩
   ·exact h.elim
  ·exact h.elim
 | _, .appN p k _ ty r, _, h => by
  simp only [azN] at h
  split at h
  ·obtain ⟨i, h⟩ := adN r _ h; exact ⟨_, h⟩
  ·split at h
   ·split at h
    ·obtain ⟨i, h⟩ := adN r _ h; exact ⟨_, h⟩
    ·exact h.elim
   ·exact h.elim
 | _, .cells k ty r, _, h => by
  simp only [azN] at h
  split at h
  ·split at h
   ·obtain ⟨i, h⟩ := adN r _ h; exact ⟨_, h⟩
   ·exact h.elim
  ·exact h.elim
 | _, .forget _ r, _, h => adN r _ h
 | _, .ptrN p _ _ r, _, h => by
  simp only [azN] at h
  split at h
  ·obtain ⟨i, h⟩ := adN r _ h; exact ⟨_, h⟩
  ·obtain ⟨i, h⟩ := adN r _ h; exact ⟨_, h⟩
  ·exact h.elim
def amU : {α : Type} → VarQ α → List (Loc × Nat)
 | _, .nil => []
 | _, .dat _ _ r => amU r
 | _, .row _ _ r => amU r
 | _, .app p k _ _ r => (p, k) :: amU r
 | _, .appN p k _ _ r => (p, k) :: amU r
 | _, .cells _ _ r => amU r
 | _, .forget _ r => amU r
 | _, .ptrN _ _ _ r => amU r
def St.rekeyL (n : Nat) (σ : St) : List (Loc × Nat) → St
 | [] => σ
 | (p, k') :: r => match σ.at p with
  | .own K _ _ => match Nat.beq K k' with
   | true => σ.rekeyL n r
   | false => match abO σ.H k', abO σ.H K, Nat.ble n k' with
    | false, true, true => (σ.rekey K k').rekeyL n r
    | _, _, _ => σ.rekeyL n r
  | _ => σ.rekeyL n r
theorem SRel.rekeyL {C : Ctx} {w : World} {n : Nat} : ∀ (r : List (Loc × Nat)) {ρ : Nat → Nat} {σ : St} {a : Act}, SRel C ρ σ a w → ∃ ρ', SRel C ρ' (σ.rekeyL n r) a w ∧ Fr C n ρ σ.H w ρ' (σ.rekeyL n r).H w
 | [], ρ, σ, a, hs => ⟨ρ, hs, Fr.refl _ _ _ _ _⟩
 | (s, k') :: r, ρ, σ, a, hs => by
  simp only [St.rekeyL]
  split
  ·rename_i K _ _ _
   split
   ·exact SRel.rekeyL r hs
   ·split
    ·rename_i h1 h2 h3
     have hk' : k' ∉ σ.H.keys := fun h => by rw [hasKey_iff.2 h] at h1; cases h1
     obtain ⟨ρ', g1, g2⟩ := SRel.rekeyL (n := n) r (hs.rekey hk')
     exact ⟨ρ', g1, (Fr.rekey hk' (Nat.le_of_ble_eq_true h3)).trans (zi _) g2⟩
    ·exact SRel.rekeyL r hs
  ·exact SRel.rekeyL r hs
def anB : {α : Type} → VarQ α → List Loc
 | _, .nil => []
 | _, .dat p _ r => p :: anB r
 | _, .row _ _ r => anB r
 | _, .app _ _ _ _ r => anB r
 | _, .appN _ _ _ _ r => anB r
 | _, .cells _ _ r => anB r
 | _, .forget _ r => anB r
 | _, .ptrN _ _ _ r => anB r
def St.thawQ (σ : St) : List Loc → St
 | [] => σ
 | p :: r => match σ.at p with
  | .own k _ _ => (σ.thaw k).thawQ r
  | _ => σ.thawQ r
theorem St.thawQ_sound {C : Ctx} {ρ : Nat → Nat} {a : Act} {w : World} : ∀ (l : List Loc) {σ : St}, SRel C ρ σ a w → SRel C ρ (σ.thawQ l) a w ∧ ∀ n, Fr C n ρ σ.H w ρ (σ.thawQ l).H w
 | [], σ, h => ⟨h, fun _ => Fr.refl _ _ _ _ _⟩
 | p :: r, σ, h => by
  simp only [St.thawQ]
  split
  ·rename_i k _ _ _
   obtain ⟨h1, h2, h3⟩ := St.thaw_sound h k
   obtain ⟨h4, h5⟩ := St.thawQ_sound r h1
   refine ⟨h4, fun n => ?_⟩
   have h6 : Fr C n ρ σ.H w ρ (σ.thaw k).H w := by
    unfold St.thaw
    split
    ·rename_i e t l hf; exact (h.m.thaw (Heap.find_mem hf)).2.2 n
    ·exact Fr.refl _ _ _ _ _
   exact h6.trans (zi _) (h5 n)
  ·exact St.thawQ_sound r h
def St.seen (σ : St) (n : Nat) (ds : List Loc) (ks : List (Loc × Nat)) : St := (σ.thawQ ds).rekeyL n ks
structure LSpec where
 tag : Nat
 ι : Type
 vs : VarQ ι
 ks : List Nat
 kh : List Nat
 fresh : Nat
def aOr : List AV → Nat
 | [] => 0
 | a :: r => match a with
  | .nsl => aOr r + 1
  | .nilp => aOr r + 1
  | _ => aOr r
def aGA : List (Nat × AV) → Nat
 | [] => 0
 | (_, a) :: r => match a with
  | .nsl => aGA r + 1
  | .nilp => aGA r + 1
  | _ => aGA r
def aJM : Heap → Nat
 | [] => 0
 | (_, b) :: r => match b with
  | .vars _ l => aJM r + aOr l
  | .loop q => aJM r + aGA q.slots
  | _ => aJM r
def St.key (σ : St) : Nat := σ.next * 1024 + (aGA σ.slots + aJM σ.H)
abbrev LTab := List (Nat × Nat × Nat × LSpec)
def LTab.find : LTab → Nat → Nat → Nat → Option LSpec
 | [], _, _, _ => none
 | (g, q, m, s) :: r, f, p, n => match Nat.beq g f && (Nat.beq q p && Nat.beq m n) with | true => some s | false => LTab.find r f p n
def aOX (l : List Nat) (t : Nat) : Bool := match l with | [] => false | x :: r => match Nat.beq x t with | true => true | false => aOX r t
def aMa (ks : List Nat) : List (Nat × AV) → List (Nat × AV)
 | [] => []
 | (t, a) :: r => match aOX ks t with | true => (t, a) :: aMa ks r | false => aMa ks r
def aMb (ks : List Nat) : Heap → Heap
 | [] => []
 | (t, a) :: r => match aOX ks t with | true => (t, a) :: aMb ks r | false => aMb ks r
structure Lq (ι : Type) where
 vs : VarQ ι
 base : St
def aET (s : LSpec) (σ : St) : Lq s.ι := { vs := s.vs, base := { slots := aMa s.ks σ.slots, H := aMb s.kh σ.H, next := σ.next + s.fresh, n := σ.n } }
def Lq.inv {ι : Type} (L : Lq ι) (i : ι) : St := { (aIw L.vs i L.base) with next := L.base.next }
def Lq.head {ι : Type} (L : Lq ι) (n : Nat) (N : ι → Prop) (σ : St) : Prop :=
 azN (σ.seen n (anB L.vs) (amU L.vs)) L.vs fun i =>
  (Nat.beq (L.inv i).n (σ.seen n (anB L.vs) (amU L.vs)).n && alK (L.inv i).H.keys) = true ∧ amA (abO (L.inv i).H) (σ.seen n (anB L.vs) (amU L.vs)).slots (L.inv i).slots ∧
  ay2 (abO (L.inv i).H) (σ.seen n (anB L.vs) (amU L.vs)).H L.base.next (L.inv i).H ∧ N i
def Lq.round {ι : Type} (L : Lq ι) (n : Nat) (N : ι → Prop) (Q : Exit → St → Prop) : Exit → St → Prop :=
 aOo (fun σ _ => L.head n N σ) Q
theorem Lq.head_sound {C : Ctx} {ι : Type} {L : Lq ι} {n : Nat} {N : ι → Prop} {σ : St} (h : L.head n N σ) {ρ : Nat → Nat} {a : Act} {w : World} (hs : SRel C ρ σ a w) :
  ∃ i ρ', N i ∧ SRel C ρ' (L.inv i) a w ∧ Fr C n ρ σ.H w ρ' (L.inv i).H w := by
 unfold Lq.head at h
 obtain ⟨i, h1, h2, h3, h4⟩ := adN L.vs _ h
 obtain ⟨hs1, hf1⟩ := St.thawQ_sound (anB L.vs) hs
 obtain ⟨ρ', g1, g2⟩ := SRel.rekeyL (n := n) (amU L.vs) hs1
 rw [zk] at h1
 have hle : Le (σ.seen n (anB L.vs) (amU L.vs)) (L.inv i) := ⟨aaB h1.1, h2, h3, h1.2⟩
 obtain ⟨g3, g4⟩ := g1.weaken hle
 exact ⟨i, ρ', h4, g3, ((hf1 n).trans (zi _) g2).trans (zi _) (g4 _)⟩
def aJW {ι : Type} (r : ι → (ι → Prop) → Prop) : Nat → ι → Prop
 | 0, _ => False
 | n + 1, i => r i (aJW r n)
structure LoopH (tag : Nat) {ι : Type} (h : (ι → Prop) → Prop) (r : ι → (ι → Prop) → Prop) : Prop where
 ex : ∃ n, h (aJW r n)
structure JoinH (tag : Nat) {ι : Type} (h : (ι → Prop) → Prop) (r : ι → Prop) : Prop where
 run : h r
def LTab.wants : LTab → Nat → Nat → Bool
 | [], _, _ => false
 | (g, q, m, _) :: r, f, p => match Nat.beq g f && (Nat.beq q p && Nat.beq m 999999999) with | true => true | false => LTab.wants r f p
structure Stuck (f p : Nat) (c : Code) (σ : St) : Prop where
 no : False
def ahO (P : Program) (G : World → Prop) (Γ : Cons) (call : acP) (Λ : LTab) (rd : Option Nat) (f0 : Nat) : Nat → Code → St → (Exit → St → Prop) → Prop
 | _, .skip, σ, Q => Q .normal σ
 | _, .region _ ops draw, σ, Q => match draw with
  | false => aa5 P Γ call ops ops.toList σ (aES Q)
  | true => agC P Γ call ops (σ.forDraw (aDh Γ) ops.toList) (aES Q)
 | p, .seq x y, σ, Q => match Λ.find f0 p σ.key with
  | some s => JoinH s.tag (fun N => ahO P G Γ call Λ rd f0 (2 * p) x σ (aOo (fun σ' _ => (aET s σ).head σ.next N σ') Q)) (fun i => agS s.vs i fun i => ahO P G Γ call Λ rd f0 (2 * p + 1) y ((aET s σ).inv i) Q)
  | none => match Λ.wants f0 p with
   | true => Stuck f0 p (.seq x y) σ
   | false => ahO P G Γ call Λ rd f0 (2 * p) x σ (aOo (ahO P G Γ call Λ rd f0 (2 * p + 1) y) Q)
 | p, .cond c x y, σ, Q => match σ.eval c with
  | .d .bool b => asW b (ahO P G Γ call Λ rd f0 (2 * p) x σ Q) (ahO P G Γ call Λ rd f0 (2 * p + 1) y σ Q)
  | _ => False
 | p, .block id c, σ, Q => ahO P G Γ call Λ rd f0 (2 * p) c σ (arV id Q)
 | p, .loop c, σ, Q => match Λ.find f0 p σ.key with
  | some s => LoopH s.tag (fun N => (aET s σ).head σ.next N σ) (fun i N => agS s.vs i fun i => ahO P G Γ call Λ rd f0 (2 * p) c ((aET s σ).inv i) ((aET s σ).round σ.next N Q))
  | none => Stuck f0 p c σ
 | _, .exit id, σ, Q => Q (.exit id) σ
 | _, .ret, σ, Q => Q .ret σ
 | _, .label _, σ, Q => Q .normal σ
 | p, .scope c, σ, Q => ahO P G Γ call Λ rd f0 (2 * p) c σ (aKI Q)
 | _, .rangeFunc g ps assign body, σ, Q => match σ.eval g with
  | .fn f first caps => match rd with
   | none => call (.fn f) (first ++ .yld σ.next :: caps) (σ.lay σ.next ps assign body) (σ.next + 1) (ajR σ σ.next Q)
   | some l0 => match σ.H.find l0 with
    | some (.loop _) => call (.fn f) (first ++ .yld σ.next :: caps) (σ.lay σ.next ps assign body) (σ.next + 1) (ajR σ σ.next Q)
    | _ => False
  | _ => False
 | _, _, _, _ => False
def aCJ (P : Program) (G : World → Prop) (Γ : Cons) (call : acP) (Λ : LTab) (f0 : Nat) (c : Code) (σ : St) (Q : Exit → St → Prop) : Prop :=
 match ai8 c with
 | some d => aMr (ahO P G Γ call Λ none f0) (fun l => ahO P G Γ call Λ (some l) (1000000 + l) 5) P Γ call d σ Q
 | none => ahO P G Γ call Λ none f0 1 c σ Q
def aLt (P : Program) (G : World → Prop) (Γ : Cons) (Λ : LTab) (call : acP) : acP :=
 az0 (aCJ P G Γ call Λ) (fun l => ahO P G Γ call Λ (some l) (1000000 + l)) P
def aHX (P : Program) (G : World → Prop) (Γ : Cons) (Λ : LTab) : Nat → acP
 | 0 => fun _ _ _ _ _ => False
 | d + 1 => aLt P G Γ Λ (aHX P G Γ Λ d)
section
variable {P : Program} {G : World → Prop}
theorem abE (hG : adF G) (hmix : P.follows .mixedOrders = true) {Γ : Cons} (hΓ : Γ.ok P G) {call : acP} (hcall : CallSat P G call) {Λ : LTab} {rd : Option Nat} {f0 : Nat} : ∀ (c : Code) (p : Nat) (σ : St) (Q : Exit → St → Prop), ahO P G Γ call Λ rd f0 p c σ Q → Sat P G rd c σ Q
 | .skip, p, σ, Q, h => fun C hC ρ a w hs rnd hrd => wpIn_skip ⟨ρ, σ, h, hs, Fr.refl _ _ _ _ _, zi _⟩
 | .region id ops draw, p, σ, Q, h => fun C hC ρ a w hs rnd hrd => by
  cases draw with
  | false => exact wpIn_region_list (ac9 hG hC hΓ hcall _ hs h (fun a' w' hr => hr) (fun ch a' w' hr => hr) rnd)
  | true =>
   obtain ⟨h1, h2, h3⟩ := St.thaws_sound (ahQ (aDh Γ) σ ops.toList ops.toList) hs
   exact wpIn_region_any hmix (ajT hG hC hΓ hcall h1 h (fun a' w' hr => hr.trans h2 (xL h3.symm)) (fun ch a' w' hr => hr.trans h2 (xL h3.symm)) rnd)
 | .seq x y, p, σ, Q, h => fun C hC ρ a w hs rnd hrd => by
  simp only [ahO] at h
  split at h
  ·rename_i s _
   refine wpIn_seq (wpIn_mono (abE hG hmix hΓ hcall x (2 * p) σ _ h.run C hC ρ a w hs rnd hrd) ?_)
   rintro e a' w' ⟨ρ', σ', h1, h2, h3, h4⟩
   have hnx : ∀ i, ((aET s σ).inv i).next = σ.next + s.fresh := fun _ => rfl
   cases e with
   | normal =>
    obtain ⟨i, ρ3, g1, g3, g4⟩ := Lq.head_sound h1 h2
    have h7 := h3.trans (zi _) g4
    exact wpIn_mono (abE hG hmix hΓ hcall y (2 * p + 1) _ Q (abF s.vs i _ g1) C hC ρ3 a' w' g3 rnd (hrd.fr h7 (by rw [hnx]; exact yF _ _)))
     (fun e a'' w'' hr => hr.trans h7 (by rw [hnx]; exact yF _ _))
   | _ => exact ⟨ρ', σ', h1, h2, h3, h4⟩
  ·split at h
   ·exact h.no.elim
   ·refine wpIn_seq (wpIn_mono (abE hG hmix hΓ hcall x (2 * p) σ _ h C hC ρ a w hs rnd hrd) ?_)
    rintro e a' w' ⟨ρ', σ', h1, h2, h3, h4⟩
    cases e with
    | normal => exact wpIn_mono (abE hG hmix hΓ hcall y (2 * p + 1) σ' Q h1 C hC ρ' a' w' h2 rnd (hrd.fr h3 h4)) (fun e a'' w'' hr => hr.trans h3 h4)
    | _ => exact ⟨ρ', σ', h1, h2, h3, h4⟩
 | .cond c x y, p, σ, Q, h => fun C hC ρ a w hs rnd hrd => by
  simp only [ahO] at h
  split at h
  ·rename_i b hb
   have hv := hs.eval c
   rw [hb] at hv
   have hbv := adZ hv
   cases b with
   | true => exact wpIn_cond_true hbv (abE hG hmix hΓ hcall x (2 * p) σ Q h C hC ρ a w hs rnd hrd)
   | false => exact wpIn_cond_false hbv (abE hG hmix hΓ hcall y (2 * p + 1) σ Q h C hC ρ a w hs rnd hrd)
  ·exact h.elim
 | .block id c, p, σ, Q, h => fun C hC ρ a w hs rnd hrd => by
  refine wpIn_block (wpIn_mono (abE hG hmix hΓ hcall c (2 * p) σ _ h C hC ρ a w hs rnd hrd) ?_)
  rintro e a' w' ⟨ρ', σ', h1, h2, h3, h4⟩
  cases e with
  | exit j =>
   simp only [Exit.inBlock]
   cases hb : Nat.beq j id with
   | true => simp only [arV, hb] at h1; rw [if_pos (aaB hb)]; exact ⟨ρ', σ', h1, h2, h3, h4⟩
   | false => simp only [arV, hb] at h1; rw [if_neg (ab7 hb)]; exact ⟨ρ', σ', h1, h2, h3, h4⟩
  | _ => exact ⟨ρ', σ', h1, h2, h3, h4⟩
 | .loop c, p, σ, Q, h => by
  simp only [ahO] at h
  split at h
  ·rename_i s hs0
   obtain ⟨m, hm⟩ := h.ex
   intro C hC ρ a w hs rnd hrd
   obtain ⟨i0, ρ0, k1, k2, k3⟩ := Lq.head_sound hm hs
   have hnx : ∀ i, ((aET s σ).inv i).next = σ.next + s.fresh := fun _ => rfl
   refine as3 (ι := Nat × s.ι) (fun i a' w' => ∃ ρ', aJW (fun i N => agS s.vs i fun i => ahO P G Γ call Λ rd f0 (2 * p) c ((aET s σ).inv i) ((aET s σ).round σ.next N Q)) i.1 i.2 ∧ SRel C ρ' ((aET s σ).inv i.2) a' w' ∧ Fr C σ.next ρ σ.H w ρ' ((aET s σ).inv i.2).H w') (fun i => i.1) ?_ (m, i0) a w ⟨ρ0, k1, k2, k3⟩
   rintro ⟨j, i⟩ a' w' ⟨ρ', hI, h1, h2⟩
   cases j with
   | zero => exact hI.elim
   | succ j =>
    refine wpIn_mono (abE hG hmix hΓ hcall c (2 * p) _ _ (abF s.vs i _ hI) C hC ρ' a' w' h1 rnd (hrd.fr h2 (by rw [hnx]; exact yF _ _))) ?_
    rintro e a'' w'' ⟨ρ'', σ'', h3, h4, h5, h6⟩
    rw [hnx] at h6
    have h7 := h2.trans (n' := ((aET s σ).inv i).next) (by rw [hnx]; exact yF _ _) h5
    cases e with
    | normal =>
     obtain ⟨i', ρ3, g1, g3, g4⟩ := Lq.head_sound h3 h4
     exact ⟨(j, i'), ⟨ρ3, g1, g3, h7.trans (zi _) g4⟩, yM _⟩
    | _ => exact ⟨ρ'', σ'', h3, h4, h7, by omega⟩
  ·exact h.no.elim
 | .exit id, p, σ, Q, h => fun C hC ρ a w hs rnd hrd => wpIn_exit ⟨ρ, σ, h, hs, Fr.refl _ _ _ _ _, zi _⟩
 | .ret, p, σ, Q, h => fun C hC ρ a w hs rnd hrd => wpIn_ret ⟨ρ, σ, h, hs, Fr.refl _ _ _ _ _, zi _⟩
 | .label l, p, σ, Q, h => fun C hC ρ a w hs rnd hrd => wpIn_label ⟨ρ, σ, h, hs, Fr.refl _ _ _ _ _, zi _⟩
 | .scope c, p, σ, Q, h => fun C hC ρ a w hs rnd hrd => by
  refine al5 (wpIn_mono (abE hG hmix hΓ hcall c (2 * p) σ _ h C hC ρ a w hs rnd hrd) ?_)
  rintro e a' w' ⟨ρ', σ', h1, h2, h3, h4⟩
  cases e with
  | goto l => exact h1.elim
  | _ => exact ⟨ρ', σ', h1, h2, h3, h4⟩
 | .rangeFunc g ps assign body, p, σ, Q, h => fun C hC ρ a w hs rnd hrd => by
  simp only [ahO] at h
  split at h
  ·rename_i f first caps hg
   have hv := hs.eval g
   rw [hg] at hv
   generalize hvg : a.eval g = vg at hv
   cases hv with
   | @fn _ _ _ vf vc h1 h2 =>
    have hKn : σ.next ∉ σ.H.keys := fun h => absurd (hs.m.lt _ h) (xl _)
    -- the call of the iterator, and what lies behind it
    have main : ∀ (fn : FuncId) (W0 : World) (mark : List Deferred) (dd : Nat), (mark ≠ [] → C.mks = none) → Below w.heap.size w W0 → (∀ x ∈ mark, ∃ d, x = { target := .collected d, args := #[] } ∧ mark = [x] ∧ w.heap.size ≤ d ∧ W0.heap[d]? = some (.deferred (some []))) →
      (Instr.enterLoop fn a.tmps ps assign body rnd).run P w = .ok (W0.heap.size, mark) (W0.alloc (.loop { state := .ready, pending := none, fn := fn, tmps := a.tmps, params := ps, assign := assign, body := body, defers := dd })) →
      call (.fn f) (first ++ .yld σ.next :: caps) (σ.lay σ.next ps assign body) (σ.next + 1) (ajR σ σ.next Q) →
      ∃ (l : Nat) (mark : List Deferred) (w₁ : World) (d : Deferred) (w₁' : World) (f : FuncId) (args : Array Value) (w₂ : World),
       (Instr.enterLoop fn a.tmps ps assign body (aa1 rnd).round).run P w = .ok (l, mark) w₁ ∧
       (resolve a.eval (rangeCall g l) 0).run P w₁ = .ok d w₁' ∧
       (∀ f', Target.leads P w₁' d.target d.args = some f' → (aa1 rnd).fn f') ∧
       (invoke d.target d.args).run P w₁' = .ok (.enter f args) w₂ ∧
       ((aa1 rnd).depth.isSome = true → 1 ≤ 0) ∧
       CallsIn (aa1 rnd) (0 - 1) P f args w₂ (rangePost (aa1 rnd) 0 P l (fun e a' w' => Reach C σ ρ w (Q e) a' w') { a with defers := mark ++ a.defers }) := by
     intro fn W0 mark dd hmkn hb0 hmark hent hc
     obtain ⟨hm0, hext0⟩ := hs.m.grow hb0
     have hlt0 : ∀ k ∈ σ.H.keys, ρ k < w.heap.size := fun k hk => hs.m.key_lt hk
     obtain ⟨hm1, hext1⟩ := MRel.allocO (K := σ.next) (blk := .loop { st := .ready, pend := none, slots := σ.slots, n := σ.n, ps := ps, assign := assign, body := body })
      (ob := .loop { state := .ready, pending := none, fn := fn, tmps := a.tmps, params := ps, assign := assign, body := body, defers := dd }) (hm0.mono (yJ σ.next)) hKn (yM _)
      (fun ρ' H' w' he hw' => ⟨fn, a.tmps, dd, hw', hs.size, fun t => (hext0.trans he).vr (hs.slots t)⟩)
     have hext := hext0.trans hext1
     generalize hW1 : W0.alloc (.loop { state := .ready, pending := none, fn := fn, tmps := a.tmps, params := ps, assign := assign, body := body, defers := dd }) = W1 at *
     have hρ : upd ρ σ.next W0.heap.size σ.next = W0.heap.size := aaW _ _ _
     have hargs : VRs C (upd ρ σ.next W0.heap.size) (σ.lay σ.next ps assign body) W1 (first ++ .yld σ.next :: caps) (vf ++ .func (.yield W0.heap.size) #[] #[] :: vc) := by
      refine (h1.imp (fun _ _ => hext.vr)).append (.cons ?_ (h2.imp (fun _ _ => hext.vr)))
      have : VR C (upd ρ σ.next W0.heap.size) (σ.lay σ.next ps assign body) W1 (.yld σ.next) (.func (.yield (upd ρ σ.next W0.heap.size σ.next)) #[] #[]) := .yld zx
      rw [hρ] at this
      exact this
     obtain ⟨hen, hcl⟩ := hcall.fn _ _ _ _ _ hc C _ W1 _ hC hm1 hargs
     refine ⟨W0.heap.size, mark, W1, { target := .fn (.func f) ⟨vc⟩, args := ⟨vf⟩ ++ #[.func (.yield W0.heap.size) #[] #[]] }, W1, f, (⟨vf⟩ ++ #[.func (.yield W0.heap.size) #[] #[]]) ++ ⟨vc⟩, W1, hent, ?_, fun _ _ => trivial, ?_, (fun h => by cases h), ?_⟩
     ·simp only [resolve, hvg]
      simp [go_sem]
     ·have := ai7 (w := W1) hen ((⟨vf⟩ ++ #[.func (.yield W0.heap.size) #[] #[]]) ++ ⟨vc⟩)
      simp only [invoke]
      exact this
     ·refine callsIn_wideR.2 ?_
      rw [show (((⟨vf⟩ : Array Value) ++ #[.func (.yield W0.heap.size) #[] #[]]) ++ (⟨vc⟩ : Array Value)) = ⟨vf ++ .func (.yield W0.heap.size) #[] #[] :: vc⟩ by apply Array.ext'; simp]
      refine hcl.mono ?_
      rintro e W2 ⟨ρ2, r, H2, n2, hK, hm2, hfr2, hn2, hend2⟩
      rcases hend2 with ⟨v, rfl, hpn, hv2⟩ | ⟨x2, ch2, rfl, hc2, rfl⟩
      case inr => exact hK.elim
      simp only [ajR, hpn] at hK
      split at hK
      ·rename_i rr hfind
       obtain ⟨fn', tmps', d', g1, g2, g3⟩ := hm2.mem _ _ (Heap.find_mem hfind)
       obtain ⟨hk2, hr2⟩ := hfr2.keys σ.next (yM _) (aaE (Heap.find_mem hfind))
       rw [hρ] at hr2
       have hnb : rr.st ≠ .busy := by intro e; rw [e] at hK; exact hK
       obtain ⟨ex, hex, hQ⟩ : ∃ ex, ai5 rr.pend = some ex ∧ Q ex { slots := aa4 (abO (H2.up σ.next (.loop { rr with st := .exhausted }))) agP σ.slots, H := H2.up σ.next (.loop { rr with st := .exhausted }), next := n2, n := σ.n } := by
        split at hK
        ·exact hK.elim
        ·rename_i e _ hje; exact ⟨_, ‹_›, hK⟩
        ·exact hK.elim
       obtain ⟨hm3, hext3⟩ := hm2.turn hfind .exhausted rr.pend g1 g2 g3
       have hend := run_endLoop (P := P) g1 (by simpa using hnb)
       rw [hr2] at hend hm3 hext3
       generalize hW3 : W2.putObj W0.heap.size (.loop { state := .exhausted, pending := rr.pend, fn := fn', tmps := tmps', params := rr.ps, assign := rr.assign, body := rr.body, defers := d' }) = W3 at *
       have hfr3 : Fr C σ.next ρ σ.H w ρ2 (H2.up σ.next (.loop { rr with st := .exhausted })) W3 := by
        have f1 : Fr C σ.next ρ σ.H w (upd ρ σ.next W0.heap.size) (σ.lay σ.next ps assign body) W1 := hext.fr (fun k hk hm => by
         rcases zm.1 hm with rfl | hm
         ·exact absurd hk (xl _)
         ·exact hm)
        refine (f1.trans (yJ _) hfr2).trans (n' := n2) zb (hext3.fr (fun k _ hm => by rwa [Heap.keys_up] at hm))
       have hsr : SRel C ρ2 { slots := aa4 (abO (H2.up σ.next (.loop { rr with st := .exhausted }))) agP σ.slots, H := H2.up σ.next (.loop { rr with st := .exhausted }), next := n2, n := σ.n } { a with defers := mark ++ a.defers } W3 := by
        have base := hs.keepTo (p := abO (H2.up σ.next (.loop { rr with st := .exhausted }))) (f := agP) hm3 (fun x v hx =>
         VR.map hfr3.data (fun k hk hp => ⟨hasKey_iff.1 hp, (hfr3.keys k (hs.m.lt k hk) (hasKey_iff.1 hp)).2⟩) (fun k e t l hk hp => hfr3.rows k e t l (hs.m.lt k (aaE hk)) hk (hasKey_iff.1 hp)) (fun _ _ _ _ _ _ => .no) hx) hfr3.data hfr3.size
        refine ⟨base.m, base.slots, base.size, ?_⟩
        cases mark with
        | nil => exact base.defers
        | cons x xs =>
         obtain ⟨d, rfl, hxs, hd1, hd2⟩ := hmark x zx
         injection hxs with _ hxs
         subst hxs
         have hlow : C.w0.heap.size ≤ d := zw hs.m.below.size hd1
         have hdlt := acZ hd2
         have hok1 : Ok C (upd ρ σ.next W0.heap.size) (σ.lay σ.next ps assign body) W1 d := by
          refine ⟨Or.inr hlow, by rw [← hW1]; simp; omega, fun k hk => ?_⟩
          rcases zm.1 hk with rfl | hk
          ·rw [hρ]; omega
          ·have hk' : k ∈ σ.H.keys := hk
           have hne : k ≠ σ.next := fun e => hKn (by rw [← e]; exact hk')
           rw [adI _ hne]
           have := hlt0 k hk'; omega
         obtain ⟨hok2, hbl2⟩ := hfr2.data d hok1
         obtain ⟨hok3, hbl3⟩ := hext3.data d hok2
         refine Dfs.push (hmkn zg) hs.defers hfr3.data hfr3.size hd1 hok3.2.2 ?_
         rw [hbl3, hbl2, ← hW1, Below.heap_alloc _ _ _ hdlt]
         exact hd2
       cases hp : rr.pend with
       | none =>
        rw [hp] at hex
        injection hex with hex
        subst hex
        exact ⟨none, W3, by rw [hend, hp], ⟨ρ2, _, hQ, hsr, hfr3, by show σ.next ≤ n2; omega⟩⟩
       | some j =>
        rw [hp] at hex
        exact ⟨some j, W3, by rw [hend, hp], aqL hex ⟨ρ2, _, hQ, hsr, hfr3, by show σ.next ≤ n2; omega⟩⟩
      ·exact hK.elim
    refine wpIn_rangeFunc (fun fn _ => ?_)
    cases rd with
    | none =>
     have hr : rnd = none := hrd.1
     subst hr
     simp only at h
     refine main fn (w.alloc (.deferred (some []))) [{ target := .collected w.heap.size, args := #[] }] w.heap.size (fun _ => hrd.2) ((Below.refl _ _).alloc (zi _) _) ?_ ?_ h
     ·intro x hx
      simp at hx
      subst hx
      exact ⟨w.heap.size, rfl, rfl, zi _, World.alloc_heap_new _ _⟩
     ·rw [run_enterLoop_outer, World.size_alloc]
    | some l0 =>
     simp only at h
     split at h
     ·rename_i r0 hf0
      have hr : rnd = some (ρ l0) := hrd.2 (aaE (Heap.find_mem hf0))
      subst hr
      obtain ⟨fn0, tmps0, d0, g1, _, _⟩ := hs.m.mem _ _ (Heap.find_mem hf0)
      refine main fn w [] d0 (fun h => absurd rfl h) (Below.refl _ _) (fun x hx => by cases hx) ?_ h
      rw [run_enterLoop_inner g1]
     ·exact h.elim
  ·exact h.elim
 | .goto _, _, _, _, h => h.elim
 | .refuse _, _, _, _, h => h.elim
theorem arU (hG : adF G) (hmix : P.follows .mixedOrders = true) {Γ : Cons} (hΓ : Γ.ok P G) {call : acP} (hcall : CallSat P G call) {Λ : LTab} {f0 : Nat} {fn : Func} {code : Code} {σ : St} {Kr : List AV → St → Prop} {Kp : List PanicEntry → St → Prop}
  (h : aCJ P G Γ call Λ f0 code σ (aIz P fn Kr Kp)) : aOC P G fn code σ Kr Kp := by
 intro C hC ρ a w hs hu hmk hlo hds
 unfold aCJ at h
 split at h
 ·rename_i d hd
  exact auS hG hΓ hcall (fun p c σ Q => abE hG hmix hΓ hcall c p σ Q) (fun _ c σ Q => abE hG hmix hΓ hcall c 5 σ Q) hd h hC hs hlo hds
 ·exact auR (abE hG hmix hΓ hcall code _ _ _ h) hC hs hu hmk hlo
theorem aEs (hG : adF G) (hmix : P.follows .mixedOrders = true) {Γ : Cons} (hΓ : Γ.ok P G) {call : acP} (hcall : CallSat P G call) (Λ : LTab) : CallSat P G (aLt P G Γ Λ call) :=
 azZ (fun _ _ _ _ _ _ h => arU hG hmix hΓ hcall h) (fun _ q c σ Q h => abE hG hmix hΓ hcall c q σ Q h)
theorem auO (hG : adF G) (hmix : P.follows .mixedOrders = true) {Γ : Cons} (hΓ : Γ.ok P G) (Λ : LTab) : ∀ d, CallSat P G (aHX P G Γ Λ d)
 | 0 => ⟨fun _ _ _ _ _ h => h.elim, fun _ _ _ _ _ h => h.elim⟩
 | d + 1 => aEs hG hmix hΓ (auO hG hmix hΓ Λ d) Λ
end
open Go Go.RowKit
inductive TT : Type → Type 1 where
 | ok {α : Type} (a : α) : TT α
 | ite {α : Type} (b : Bool) (x y : TT α) : TT α
 | need {α : Type} (p : Prop) (x : TT α) : TT α
 | triv {α : Type} (p : Prop) (h : p) (x : TT α) : TT α
 | call {α β : Type} (o : Option β) (d : β) (x : β → TT α) : TT α
 | loop {α ι : Type} (tag : Nat) (H : TT ι) (R : ι → TT (ι ⊕ α)) : TT α
 | join {α ι : Type} (tag : Nat) (H : TT (ι ⊕ α)) (R : ι → TT α) : TT α
 | lt {α β : Type} (b : β) (x : β → TT α) : TT α
 | bad {α : Type} : TT α
def aPa {ι α : Type} (N : ι → Prop) (K : α → Prop) (s : ι ⊕ α) : Prop := Sum.rec N K s
def TT.holds : {α : Type} → TT α → (α → Prop) → Prop
 | _, .ok a, K => K a
 | _, .ite b x y, K => asW b (x.holds K) (y.holds K)
 | _, .need p x, K => p ∧ x.holds K
 | _, .triv p _ x, K => p ∧ x.holds K
 | _, .call o d x, K => o.isSome = true ∧ (x (o.getD d)).holds K
 | _, .loop t H R, K => LoopH t (fun N => H.holds N) (fun i N => (R i).holds (aPa N K))
 | _, .join t H R, K => JoinH t (fun N => H.holds (aPa N K)) (fun i => (R i).holds K)
 | _, .lt b x, K => (x b).holds K
 | _, .bad, _ => False
def aoJ {ι α : Type} (R : ι → Option (ι ⊕ α)) : Nat → ι → Option α
 | 0, _ => none
 | n + 1, i => match R i with
  | some (.inl i') => aoJ R n i'
  | some (.inr a) => some a
  | none => none
open Classical in
noncomputable def ac0 {ι α : Type} (R : ι → Option (ι ⊕ α)) (i : ι) : Option α :=
 if h : ∃ n a, aoJ R n i = some a then some h.choose_spec.choose else none
theorem amT {ι α : Type} {R : ι → Option (ι ⊕ α)} {a : α} : ∀ {n : Nat} {i : ι}, aoJ R n i = some a → ∀ m, n ≤ m → aoJ R m i = some a
 | 0, _, h => by cases h
 | n + 1, i, h => by
  intro m hm
  obtain ⟨m, rfl⟩ : ∃ k, m = k + 1 := ⟨m - 1, by omega⟩
  simp only [aoJ] at h ⊢
  split at h
  ·exact amT h m zb
  ·exact h
  ·cases h
theorem avZ {ι α : Type} {R : ι → Option (ι ⊕ α)} {a : α} {n : Nat} {i : ι} (h : aoJ R n i = some a) : ac0 R i = some a := by
 have hex : ∃ n a, aoJ R n i = some a := ⟨n, a, h⟩
 unfold ac0
 rw [dif_pos hex]
 have h2 := hex.choose_spec.choose_spec
 have h3 := amT h (n + hex.choose) zb
 have h4 := amT h2 (n + hex.choose) zb
 rw [h3] at h4
 exact h4.symm
theorem amS {ι α : Type} {R : ι → Option (ι ⊕ α)} {a : α} {i : ι} (h : ac0 R i = some a) : ∃ n, aoJ R n i = some a := by
 unfold ac0 at h
 split at h
 ·rename_i hex; injection h with h; rw [← h]; exact ⟨_, hex.choose_spec.choose_spec⟩
 ·cases h
theorem aeE {ι α : Type} {R : ι → Option (ι ⊕ α)} {i j : ι} (h : R i = some (.inl j)) : ac0 R i = ac0 R j := by
 cases hj : ac0 R j with
 | some a =>
  obtain ⟨n, hn⟩ := amS hj
  exact avZ (n := n + 1) (by simp only [aoJ, h]; exact hn)
 | none =>
  cases hi : ac0 R i with
  | none => rfl
  | some a =>
   obtain ⟨n, hn⟩ := amS hi
   cases n with
   | zero => cases hn
   | succ n =>
    simp only [aoJ, h] at hn
    rw [avZ hn] at hj; cases hj
theorem adY {ι α : Type} {R : ι → Option (ι ⊕ α)} {i : ι} {a : α} (h : R i = some (.inr a)) : ac0 R i = some a :=
 avZ (n := 1) (by simp only [aoJ, h])
theorem agW {ι α : Type} {R : ι → Option (ι ⊕ α)} (I : ι → Prop) (μ : ι → Nat) (Q : α → Prop)
  (h : ∀ i, I i → (∃ j, R i = some (.inl j) ∧ I j ∧ μ j < μ i) ∨ ∃ a, R i = some (.inr a) ∧ Q a) (i : ι) (hi : I i) : ∃ a, ac0 R i = some a ∧ Q a := by
 suffices H : ∀ n i, μ i = n → I i → ∃ a, ac0 R i = some a ∧ Q a from H _ i rfl hi
 intro n
 induction n using Nat.strongRecOn with
 | _ n ih =>
  intro i hn hI
  rcases h i hI with ⟨j, h1, h2, h3⟩ | ⟨a, h1, h2⟩
  ·rw [aeE h1]; exact ih (μ j) zb j rfl h2
  ·exact ⟨a, adY h1, h2⟩
theorem aaM {ι α : Type} {R : ι → Option (ι ⊕ α)} (I : ι → Prop) (μ : ι → Nat) (f : ι → α)
  (h : ∀ i, I i → (∃ j, R i = some (.inl j) ∧ I j ∧ μ j < μ i ∧ f j = f i) ∨ R i = some (.inr (f i))) (i : ι) (hi : I i) : ac0 R i = some (f i) := by
 obtain ⟨a, h1, h2⟩ := agW (fun j => I j ∧ f j = f i) μ (fun a => a = f i) (fun j hj => by
  rcases h j hj.1 with ⟨k, h1, h2, h3, h4⟩ | h1
  ·exact Or.inl ⟨k, h1, ⟨h2, h4.trans hj.2⟩, h3⟩
  ·exact Or.inr ⟨_, h1, hj.2⟩) i ⟨hi, rfl⟩
 rw [h1, h2]
open Classical in
noncomputable def TT.toO : {α : Type} → TT α → Option α
 | _, .ok a => some a
 | _, .ite b x y => match b with | true => x.toO | false => y.toO
 | _, .need p x => if p then x.toO else none
 | _, .triv _ _ x => x.toO
 | _, .call o _ x => match o with | some y => (x y).toO | none => none
 | _, .loop _ H R => match H.toO with | some i => ac0 (fun i => (R i).toO) i | none => none
 | _, .join _ H R => match H.toO with | some (.inl i) => (R i).toO | some (.inr a) => some a | none => none
 | _, .lt b x => (x b).toO
 | _, .bad => none
theorem TT.holds_of : ∀ {α : Type} (t : TT α) {K : α → Prop} {a : α}, t.toO = some a → K a → t.holds K := by
 intro α t
 induction t with
 | ok b => intro K a h hk; injection h with h; subst h; exact hk
 | ite b x y hx hy =>
  intro K a h hk
  cases b
  ·exact hy h hk
  ·exact hx h hk
 | need p x hx =>
  intro K a h hk
  simp only [TT.toO] at h
  split at h
  ·rename_i hp; exact ⟨hp, hx h hk⟩
  ·cases h
 | triv p hp x hx => intro K a h hk; exact ⟨hp, hx h hk⟩
 | call o d x hx =>
  intro K a h hk
  cases o with
  | none => cases h
  | some y => exact ⟨rfl, hx y h hk⟩
 | loop t H R hH hR =>
  intro K a h hk
  simp only [TT.toO] at h
  split at h
  ·rename_i i0 hi0
   obtain ⟨n, hn⟩ := amS h
   refine ⟨n, hH hi0 ?_⟩
   clear hi0 h
   induction n generalizing i0 with
   | zero => cases hn
   | succ n ih =>
    simp only [aoJ] at hn
    simp only [aJW]
    split at hn
    ·rename_i j hj; exact hR i0 hj (ih j hn)
    ·rename_i b hb; injection hn with hn; subst hn; exact hR i0 hb hk
    ·cases hn
  ·cases h
 | join t H R hH hR =>
  intro K a h hk
  simp only [TT.toO] at h
  refine ⟨?_⟩
  split at h
  ·rename_i i hi; exact hH hi (hR i h hk)
  ·rename_i b hb; injection h with h; subst h; exact hH hb hk
  ·cases h
 | lt b x hx => intro K a h hk; exact hx b h hk
 | bad => intro K a h; cases h
def aPr (t : Ty) (K : t.T → Prop) (l : List AV) (σ : St) : Prop :=
 match ak3 t (AV.maps (fun _ => false) (aD0 σ.H) l) with
 | some z => K z
 | none => False
def aEV (A R : Ty) (F : A.T → Option R.T) : Con := { args := A, res := R, pre := fun x => (F x).isSome = true, fn := fun x => (F x).getD R.dflt, dec := fun _ => inferInstance }
def aMe (P : Program) (G : World → Prop) (Γ : Cons) (Λ : LTab) (d f : Nat) (fn : Func) (A R : Ty) (x : A.T) (K : R.T → Prop) : Prop :=
 aCJ P G Γ (aHX P G Γ Λ d) Λ f (fn.body.getD .skip) { slots := acD 0 (aiM A x), H := [], next := 0, n := fn.ntmps } (aPb P fn (aPr R K))
section
variable {P : Program} {G : World → Prop}
theorem aBy (hG : adF G) (hmix : P.follows .mixedOrders = true) {Γ : Cons} (hΓ : Γ.ok P G) {f : FuncId} {fn : Func} (hf : P.funcs[f]? = some fn) (hb : fn.body.isSome = true) (he : acF P f = true)
  (A R : Ty) (Λ : LTab) (d : Nat) (hn : ∀ x, Nat.ble (aiM A x).length fn.ntmps = true) (t : A.T → TT R.T) (hex : ∀ (x : A.T) (K : R.T → Prop), aMe P G Γ Λ d f fn A R x K = (t x).holds K)
  (F : A.T → Option R.T) (hF : ∀ x y, Wf A x → F x = some y → (t x).toO = some y) : (aEV A R F).ok P G f := by
 obtain ⟨code, hc⟩ := xa.1 hb
 refine arL hf hc he _ rfl (fun x _ => hn x) (fun x h1 h2 => arU (Λ := Λ) (f0 := f) hG hmix hΓ (auO hG hmix hΓ Λ d) ?_)
 obtain ⟨y, hy⟩ := xa.1 (show (F x).isSome = true from h2)
 have h := hex x (fun z => z = y)
 have e : (aEV A R F).fn x = y := by show (F x).getD R.dflt = y; rw [hy]; rfl
 have h3 : (t x).holds (fun z => z = y) := TT.holds_of _ (hF x y h1 hy) rfl
 rw [← h] at h3
 unfold aMe at h3
 rw [hc] at h3
 rw [e]
 exact h3
end
instance (a b : Int) : Decidable (inb a b) := inferInstanceAs (Decidable (0 ≤ a ∧ a < b))
instance (a b : Int) : Decidable (inc a b) := inferInstanceAs (Decidable (0 ≤ a ∧ a ≤ b))
theorem aaJ {α : Type} (a : α) : (TT.ok a).toO = some a := rfl
theorem aIN {α : Type} (p : Prop) (x : TT α) (h : p) : (TT.need p x).toO = x.toO := by simp only [TT.toO, if_pos h]
theorem aE8 {α ι : Type} {t : Nat} {H : TT (ι ⊕ α)} {i : ι} (h : H.toO = some (.inl i)) (R : ι → TT α) : (TT.join t H R).toO = (R i).toO := by simp only [TT.toO, h]
theorem aE7 {α ι : Type} {t : Nat} {H : TT (ι ⊕ α)} {a : α} (h : H.toO = some (.inr a)) (R : ι → TT α) : (TT.join t H R).toO = some a := by simp only [TT.toO, h]
theorem aIO {α ι : Type} {H : TT ι} {i : ι} (h : H.toO = some i) (t : Nat) (R : ι → TT (ι ⊕ α)) : (TT.loop t H R).toO = ac0 (fun i => (R i).toO) i := by simp only [TT.toO, h]
open Go Go.RowKit
def akJ (m : Nat) : List Edge → Bool
 | [] => true
 | e :: r => match ac3 e with
  | true => match Nat.testBit m e.on with
   | true => akJ m r
   | false => false
  | false => akJ m r
def aMH (n : Nat) (σ σ' : St) : Prop := ∀ (C : Ctx) (ρ : Nat → Nat) (a : Act) (w : World), SRel C ρ σ a w → ∃ ρ', SRel C ρ' σ' a w ∧ Fr C n ρ σ.H w ρ' σ'.H w ∧ σ.next ≤ σ'.next
def am4 (P : Program) (Γ : Cons) (call : acP) (ops : Array Oper) (b : Nat) : Nat → Nat → St → (Fi → Prop) → Prop
 | 0, _, σ, K => K (.go σ)
 | n + 1, m, σ, K => ∀ i o, ops[i]? = some o → Nat.testBit m i = false → akJ m o.after.toList = true → aa5 P Γ call ops [o] σ (aML (fun σ1 => ∃ σ', aMH b σ1 σ' ∧ am4 P Γ call ops b n (m ||| 2 ^ i) σ' K) K)
theorem am8 {m : Nat} : ∀ {l : List Edge}, (∀ e ∈ l, ac3 e = true → Nat.testBit m e.on = true) → akJ m l = true
 | [], _ => rfl
 | e :: r, h => by
  simp only [akJ]
  cases hb : ac3 e with
  | false => exact am8 fun e he => h e (zt _ he)
  | true => simp only [h e (zx ..) hb]; exact am8 fun e he => h e (zt _ he)
section
variable {C : Ctx} {P : Program} {G : World → Prop} {Γ : Cons} {ops : Array Oper}
def aLx (C : Ctx) (b : Nat) (ρ : Nat → Nat) (H : Heap) (w : World) (K : St → Prop) (a' : Act) (w' : World) : Prop :=
 ∃ ρ' σ', K σ' ∧ SRel C ρ' σ' a' w' ∧ Fr C b ρ H w ρ' σ'.H w' ∧ b ≤ σ'.next
theorem aH7 (hG : adF G) (hC : G C.w0) (hΓ : Γ.ok P G) {call : acP} (hcall : CallSat P G call) {Q : Exit → Act → World → Prop} {K : Fi → Prop} (hed : adT ops.toList 0 = true) (rnd : Option Nat) {b : Nat} :
  ∀ (n m : Nat) (listed : Array Bool) {ρ : Nat → Nat} {σ : St} {a : Act} {w : World}, SRel C ρ σ a w → b ≤ σ.next → am4 P Γ call ops b n m σ K → listed.size = ops.size → (∀ j, j < ops.size → listed.getD j false = Nat.testBit m j) →
   aAl (fun i => listed.getD i false) ops.size + n = ops.size → (∀ a' w', aLx C b ρ σ.H w (fun σ' => K (.go σ')) a' w' → Q .normal a' w') → (∀ ch a' w', aLx C b ρ σ.H w (fun σ' => K (.pan ch σ')) a' w' → Q (.panic ch) a' w') → wpAnyIn (aa1 rnd) 0 P .any ops Q n listed a w := by
 intro n
 induction n with
 | zero =>
  intro m listed ρ σ a w hs hb h hsz hl hcnt hQ hP
  refine ⟨xS.2 fun i hi => ?_, hQ a w ⟨ρ, σ, h, hs, Fr.refl _ _ _ _ _, hb⟩⟩
  unfold Region.ready at hi
  rw [xB] at hi
  obtain ⟨h1, h2⟩ := hi
  have hio : i < ops.size := by simpa using h1
  simp only [zk, yc] at h2
  have h3 : listed.getD i false = false := by
   have := h2.1
   rw [zr, yq zb] at this ⊢
   exact this
  have := aBz (ls := fun i => listed.getD i false) h3 (n := ops.size) hio
  omega
 | succ n ih =>
  intro m listed ρ σ a w hs hb h hsz hl hcnt hQ hP
  have hlt : ∀ i, i < ops.size → listed.getD i true = listed.getD i false := by
   intro i hi
   rw [zr, zr, yq zb]
   rfl
  refine ⟨fun hnil => ?_, fun i hi => ?_⟩
  ·exfalso
   have hex : ∃ i, i < ops.size ∧ listed.getD i false = false := by
    refine Classical.byContradiction fun hno => ?_
    have hall : ∀ i, i < ops.size → listed.getD i false = true := fun i hi => by
     cases hb : listed.getD i false with
     | true => rfl
     | false => exact absurd ⟨i, hi, hb⟩ hno
    have := ag0 (ls := fun i => listed.getD i false) (m := ops.size) hall (fun i hi => by
     show listed.getD i false = false
     rw [zr, xp zb]; rfl) (n := ops.size)
    omega
   obtain ⟨i, hi1, hi2, hi3⟩ := aqK (ls := fun i => listed.getD i false) hex
   have hil : ops.toList[i]? = some ops[i] := by simp [hi1]
   have : i ∈ Region.ready .any ops listed := by
    unfold Region.ready
    rw [xB]
    refine ⟨by simpa using hi1, ?_⟩
    rw [hlt i hi1, show listed.getD i false = false from hi2, yq hi1]
    simp only [xz, xK, Bool.not_false, wu]
    rw [yG]
    intro e he
    cases hb : Region.binds .any e with
    | false => rfl
    | true =>
     have := acL hed hil e he hb
     rw [zo] at this
     have h3 : listed.getD e.on false = true := hi3 e.on this
     simp [h3]
   rw [hnil] at this
   cases this
  ·unfold Region.ready at hi
   rw [xB] at hi
   obtain ⟨h1, h2⟩ := hi
   have hio : i < ops.size := by simpa using h1
   have hoi : ops[i]? = some ops[i] := yq hio
   rw [hlt i hio, hoi] at h2
   simp only [zk, yc, xz, xK, yG] at h2
   obtain ⟨h3, h4⟩ := h2
   have hmem : Nat.testBit m i = false := by rw [← hl i hio]; exact h3
   have hedge : akJ m ops[i].after.toList = true := am8 fun e he hb => by
    have he' : e ∈ ops[i].after := by simpa using he
    have := h4 e he'
    unfold ac3 at hb
    rw [hb] at this
    have hlt' := acL hed (show ops.toList[i]? = some ops[i] by simp [hio]) e he' hb
    rw [zo] at hlt'
    rw [← hl e.on zb]
    simpa using this
   have hstep := h i ops[i] hoi hmem hedge
   unfold wpOpIn
   rw [hoi]
   simp only
   refine aiI hG hC hΓ hcall hs hstep ?_ (fun ch a' w' hr => by
    obtain ⟨ρ1, σ1, q1, q2, q3, q4⟩ := hr
    exact hP ch a' w' ⟨ρ1, σ1, q1, q2, (Fr.refl C b ρ σ.H w).trans hb q3, zw hb q4⟩) rnd
   rintro a' w' ⟨ρ1, σ1, ⟨σ', g1, g2⟩, g3, g4, g5⟩
   obtain ⟨ρ', k1, k2, k3⟩ := g1 C ρ1 a' w' g3
   have hset : ∀ j, (listed.setIfInBounds i true).getD j false = if j = i then true else listed.getD j false := by
    intro j
    by_cases hj : j = i
    ·subst hj
     rw [if_pos rfl, zr, xm zb]
     rfl
    ·rw [if_neg hj, zr, yW (Ne.symm hj), ← zr]
   have hfun : (fun j => (listed.setIfInBounds i true).getD j false) = anH (fun j => listed.getD j false) i := by
    funext j; rw [hset]; rfl
   refine ih (m ||| 2 ^ i) _ k1 (zw hb (zw g5 k3)) g2 (by simp [hsz]) (fun j hj => ?_) ?_ (fun a'' w'' hr => ?_) (fun ch a'' w'' hr => ?_)
   ·rw [hset, Nat.testBit_or, Nat.testBit_two_pow]
    by_cases hji : j = i
    ·subst hji; simp
    ·rw [if_neg hji, hl j hj]; simp [Ne.symm hji]
   ·rw [hfun, awO h3 hio]
    omega
   ·obtain ⟨ρ2, σ2, q1, q2, q3, q4⟩ := hr
    refine hQ a'' w'' ⟨ρ2, σ2, q1, q2, ?_, q4⟩
    have f1 : Fr C b ρ σ.H w ρ1 σ1.H w' := (Fr.refl C b ρ σ.H w).trans hb g4
    exact (f1.trans (zi _) k2).trans (zi _) q3
   ·obtain ⟨ρ2, σ2, q1, q2, q3, q4⟩ := hr
    refine hP ch a'' w'' ⟨ρ2, σ2, q1, q2, ?_, q4⟩
    have f1 : Fr C b ρ σ.H w ρ1 σ1.H w' := (Fr.refl C b ρ σ.H w).trans hb g4
    exact (f1.trans (zi _) k2).trans (zi _) q3
theorem aLI (hG : adF G) (hmix : P.follows .mixedOrders = true) (hΓ : Γ.ok P G) {call : acP} (hcall : CallSat P G call) {rd : Option Nat} {id : Nat} {σ : St} {Q : Exit → St → Prop} (hed : adT ops.toList 0 = true)
  (h : am4 P Γ call ops σ.next ops.size 0 σ (aES Q)) : Sat P G rd (.region id ops true) σ Q := by
 intro C hC ρ a w hs rnd hrd
 obtain ⟨hmd, hextd⟩ := hs.m.grow (w' := w.drew) ((Below.refl _ _).drew)
 have hfr := hextd.fr (n := σ.next) (fun k _ hk => hk)
 have hs' : SRel C ρ σ a w.drew := hs.frame hmd hfr (fun k hk => hk)
 refine wpIn_region_any hmix (aH7 hG hC hΓ hcall hed rnd ops.size 0 (Array.replicate ops.size false) hs' (zi _) h zg (fun j hj => ?_) ?_ (fun a' w' hr => ?_) (fun ch a' w' hr => ?_))
 ·rw [zr, Array.getElem?_replicate, if_pos hj, Nat.zero_testBit]; rfl
 ·have := ag0 (ls := fun i => (Array.replicate ops.size false).getD i false) (m := 0) (fun i hi => absurd hi (Nat.not_lt_zero _)) (fun i _ => by
   show (Array.replicate ops.size false).getD i false = false
   rw [zr, Array.getElem?_replicate]; split <;> rfl) (n := ops.size)
  omega
 ·obtain ⟨ρ1, σ1, h1, h2, h3, h4⟩ := hr
  exact ⟨ρ1, σ1, h1, h2, hfr.trans (zi _) h3, h4⟩
 ·obtain ⟨ρ1, σ1, h1, h2, h3, h4⟩ := hr
  exact ⟨ρ1, σ1, h1, h2, hfr.trans (zi _) h3, h4⟩
def St.rekeysK (n : Nat) (σ : St) : List (Nat × Nat) → St
 | [] => σ
 | (K, k') :: r => match abO σ.H k', abO σ.H K, Nat.ble n k' with
  | false, true, true => (σ.rekey K k').rekeysK n r
  | _, _, _ => σ.rekeysK n r
theorem SRel.rekeysK {n : Nat} {w : World} : ∀ (r : List (Nat × Nat)) {ρ : Nat → Nat} {σ : St} {a : Act}, SRel C ρ σ a w → ∃ ρ', SRel C ρ' (σ.rekeysK n r) a w ∧ Fr C n ρ σ.H w ρ' (σ.rekeysK n r).H w
 | [], ρ, σ, a, hs => ⟨ρ, hs, Fr.refl _ _ _ _ _⟩
 | (K, k') :: r, ρ, σ, a, hs => by
  simp only [St.rekeysK]
  split
  ·rename_i h1 h2 h3
   have hk' : k' ∉ σ.H.keys := fun h => by rw [hasKey_iff.2 h] at h1; cases h1
   obtain ⟨ρ', g1, g2⟩ := SRel.rekeysK (n := n) r (hs.rekey hk')
   exact ⟨ρ', g1, (Fr.rekey hk' (Nat.le_of_ble_eq_true h3)).trans (zi _) g2⟩
  ·exact SRel.rekeysK r hs
def St.raise (σ : St) (n : Nat) : St := { σ with next := Nat.max σ.next n }
theorem SRel.raise {ρ : Nat → Nat} {σ : St} {a : Act} {w : World} (hs : SRel C ρ σ a w) (n : Nat) : SRel C ρ (σ.raise n) a w := ⟨hs.m.mono (Nat.le_max_left _ _), hs.slots, hs.size, hs.defers⟩
def eqT : (t : Ty) → t.T → t.T → Bool
 | .int _, x, y => eqD.eqI x y
 | .bool, x, y => eqD.eqB x y
 | .str, x, y => eqD.eqS x y
 | .unit, _, _ => true
 | .pair t u, x, y => match eqT t x.1 y.1 with
  | true => eqT u x.2 y.2
  | false => false
 | .arr _ t, x, y => eqD.eqL (eqT t) x y
 | .sl t, x, y => eqD.eqL (eqT t) x y
theorem aHv {α : Type} {f : α → α → Bool} (hf : ∀ x y, f x y = true → x = y) : ∀ (l m : List α), eqD.eqL f l m = true → l = m
 | [], [], _ => rfl
 | [], _ :: _, h => by cases h
 | _ :: _, [], h => by cases h
 | x :: l, y :: m, h => by
  simp only [eqD.eqL] at h
  cases hb : f x y with
  | false => rw [hb] at h; cases h
  | true => rw [hb] at h; rw [hf _ _ hb, aHv hf l m h]
theorem aLp {x y : Int} (h : eqD.eqI x y = true) : x = y := eq_of_beq h
theorem aN4 {x y : Bool} (h : eqD.eqB x y = true) : x = y := eq_of_beq h
theorem aN3 {x y : List UInt8} (h : eqD.eqS x y = true) : x = y := eq_of_beq h
theorem azR : ∀ (t : Ty) (x y : t.T), eqT t x y = true → x = y
 | .int _, _, _, h => aLp h
 | .bool, _, _, h => aN4 h
 | .str, _, _, h => aN3 h
 | .unit, x, y, _ => rfl
 | .pair t u, x, y, h => by
  simp only [eqT] at h
  cases hb : eqT t x.1 y.1 with
  | false => rw [hb] at h; cases h
  | true => rw [hb] at h; exact Prod.ext (azR t _ _ hb) (azR u _ _ h)
 | .arr _ t, x, y, h => aHv (azR t) x y h
 | .sl t, x, y, h => aHv (azR t) x y h
mutual
def avB (p : Nat → Bool) : AV → AV → Bool
 | .no, _ => true
 | .d u y, .d t x => match t.as u x with
  | some x' => eqT u x' y
  | none => false
 | .dptr u y, .dptr t x => match t.as u x with
  | some x' => eqT u x' y
  | none => false
 | .nsl, .nsl => true
 | .nilp, .nilp => true
 | .nili, .nili => true
 | .nni, .nni => true
 | .ifc k u y, .ifc k' t x => Nat.beq k' k && match t.as u x with
  | some x' => eqT u x' y
  | none => false
 | .und, .und => true
 | .ptr k i, .ptr k' i' => Nat.beq k' k && Nat.beq i' i && p k
 | .eptr k i, .eptr k' i' => Nat.beq k' k && Nat.beq i' i && p k
 | .own k o n, .own k' o' n' => Nat.beq k' k && Nat.beq o' o && Nat.beq n' n && p k
 | .ox k o n, .ox k' o' n' => Nat.beq k' k && Nat.beq o' o && Nat.beq n' n && p k
 | .sv k n, .sv k' n' => Nat.beq k' k && Nat.beq n' n && p k
 | .mp k, .mp k' => Nat.beq k' k && p k
 | .fn f x y, .fn f' x' y' => Nat.beq f' f && aMT p x x' && aMT p y y'
 | .ag l, .ag l' => aMT p l l'
 | .tup l, .tup l' => aMT p l l'
 | _, _ => false
def aMT (p : Nat → Bool) : List AV → List AV → Bool
 | [], [] => true
 | b :: bs, a :: as => avB p b a && aMT p bs as
 | _, _ => false
end
def aM6 (p : Nat → Bool) (s : List (Nat × AV)) : List (Nat × AV) → Bool
 | [] => true
 | (t, b) :: r => avB p b (adG s t) && aM6 p s r
def bkB (p : Nat → Bool) : Bk → Bk → Bool
 | .any, .any => true
 | .vars e cells, .vars e' cells' => Nat.beq e' e && aMT p cells cells'
 | .row e t l, .row e' t' l' => Nat.beq e' e && match (t'.sl).as (.sl t) l' with
  | some z => eqT (.sl t) z l
  | none => false
 | _, _ => false
def aO0 (p : Nat → Bool) (H : Heap) (n : Nat) : Heap → Bool
 | [] => true
 | (k, b) :: r => (match H.find k with
  | some b' => bkB p b b'
  | none => false) && Nat.blt k n && aO0 p H n r
mutual
def avE : AV → AV → Bool
 | .no, .no => true
 | .d u y, .d t x => match t.as u x with
  | some x' => eqT u y x'
  | none => false
 | .dptr u y, .dptr t x => match t.as u x with
  | some x' => eqT u y x'
  | none => false
 | .nsl, .nsl => true
 | .nilp, .nilp => true
 | .nili, .nili => true
 | .nni, .nni => true
 | .und, .und => true
 | .ptr k i, .ptr k' i' => Nat.beq k k' && Nat.beq i i'
 | .eptr k i, .eptr k' i' => Nat.beq k k' && Nat.beq i i'
 | .own k o n, .own k' o' n' => Nat.beq k k' && Nat.beq o o' && Nat.beq n n'
 | .ox k o n, .ox k' o' n' => Nat.beq k k' && Nat.beq o o' && Nat.beq n n'
 | .sv k n, .sv k' n' => Nat.beq k k' && Nat.beq n n'
 | .mp k, .mp k' => Nat.beq k k'
 | .fn f x y, .fn f' x' y' => Nat.beq f f' && aLu x x' && aLu y y'
 | .ag l, .ag l' => aLu l l'
 | .tup l, .tup l' => aLu l l'
 | _, _ => false
def aLu : List AV → List AV → Bool
 | [], [] => true
 | b :: bs, a :: as => avE b a && aLu bs as
 | _, _ => false
end
theorem aH4 {t u : Ty} {x : t.T} {y x' : u.T} (h : t.as u x = some x') (e : eqT u y x' = true) : (⟨u, y⟩ : (t : Ty) × t.T) = ⟨t, x⟩ := by
 obtain ⟨e1, e2⟩ := Ty.as_some h
 subst e1
 have := azR _ _ _ e
 subst this
 have e2 : x = y := e2
 rw [e2]
mutual
theorem aH3 : ∀ (b a : AV), avE b a = true → b = a
 | .no, .no, _ => rfl
 | .d u y, .d t x, h => by
  simp only [avE] at h
  split at h
  ·rename_i x' hx
   have := aH4 hx h
   injection this with h1 h2
   subst h1
   rw [eq_of_heq h2]
  ·cases h
 | .dptr u y, .dptr t x, h => by
  simp only [avE] at h
  split at h
  ·rename_i x' hx
   have := aH4 hx h
   injection this with h1 h2
   subst h1
   rw [eq_of_heq h2]
  ·cases h
 | .nsl, .nsl, _ => rfl
 | .nilp, .nilp, _ => rfl
 | .nili, .nili, _ => rfl
 | .nni, .nni, _ => rfl
 | .und, .und, _ => rfl
 | .ptr k i, .ptr k' i', h => by
  simp only [avE, zk] at h
  rw [Nat.eq_of_beq_eq_true h.1, Nat.eq_of_beq_eq_true h.2]
 | .eptr k i, .eptr k' i', h => by
  simp only [avE, zk] at h
  rw [Nat.eq_of_beq_eq_true h.1, Nat.eq_of_beq_eq_true h.2]
 | .own k o n, .own k' o' n', h => by
  simp only [avE, zk] at h
  rw [Nat.eq_of_beq_eq_true h.1.1, Nat.eq_of_beq_eq_true h.1.2, Nat.eq_of_beq_eq_true h.2]
 | .ox k o n, .ox k' o' n', h => by
  simp only [avE, zk] at h
  rw [Nat.eq_of_beq_eq_true h.1.1, Nat.eq_of_beq_eq_true h.1.2, Nat.eq_of_beq_eq_true h.2]
 | .sv k n, .sv k' n', h => by
  simp only [avE, zk] at h
  rw [Nat.eq_of_beq_eq_true h.1, Nat.eq_of_beq_eq_true h.2]
 | .mp k, .mp k', h => by
  simp only [avE] at h
  rw [Nat.eq_of_beq_eq_true h]
 | .fn f x y, .fn f' x' y', h => by
  simp only [avE, zk] at h
  rw [Nat.eq_of_beq_eq_true h.1.1, anG _ _ h.1.2, anG _ _ h.2]
 | .ag l, .ag l', h => by rw [anG l l' h]
 | .tup l, .tup l', h => by rw [anG l l' h]
theorem anG : ∀ (bs as : List AV), aLu bs as = true → bs = as
 | [], [], _ => rfl
 | b :: bs, a :: as, h => by
  simp only [aLu, zk] at h
  rw [aH3 b a h.1, anG bs as h.2]
 | [], _ :: _, h => by cases h
 | _ :: _, [], h => by cases h
end
def aBY : List (Nat × AV) → List (Nat × AV) → Bool
 | [], [] => true
 | (t, b) :: r, (t', b') :: r' => match Nat.beq t t' with
  | true => match avE b b' with
   | true => aBY r r'
   | false => false
  | false => false
 | _, _ => false
theorem axN : ∀ {l l' : List (Nat × AV)}, aBY l l' = true → l = l'
 | [], [], _ => rfl
 | [], _ :: _, h => by cases h
 | _ :: _, [], h => by cases h
 | (t, b) :: r, (t', b') :: r', h => by
  simp only [aBY] at h
  split at h
  ·rename_i h1
   split at h
   ·rename_i h2
    rw [Nat.eq_of_beq_eq_true h1, aH3 _ _ h2, axN h]
   ·cases h
  ·cases h
def aOy : List (Int × AV) → List (Int × AV) → Bool
 | [], [] => true
 | (t, b) :: r, (t', b') :: r' => match eqD.eqI t t' with
  | true => match avE b b' with
   | true => aOy r r'
   | false => false
  | false => false
 | _, _ => false
theorem aHD : ∀ {l l' : List (Int × AV)}, aOy l l' = true → l = l'
 | [], [], _ => rfl
 | [], _ :: _, h => by cases h
 | _ :: _, [], h => by cases h
 | (t, b) :: r, (t', b') :: r', h => by
  simp only [aOy] at h
  split at h
  ·rename_i h1
   split at h
   ·rename_i h2
    rw [aLp h1, aH3 _ _ h2, aHD h]
   ·cases h
  ·cases h
def bkE : Bk → Bk → Bool
 | .any, .any => true
 | .dic k l, .dic k' l' => match decide (k = k') with
  | true => aOy l l'
  | false => false
 | .vars e cells, .vars e' cells' => Nat.beq e e' && aLu cells cells'
 | .row e t l, .row e' t' l' => Nat.beq e e' && match (t'.sl).as (.sl t) l' with
  | some z => eqT (.sl t) l z
  | none => false
 | _, _ => false
theorem aOa : ∀ (b a : Bk), bkE b a = true → b = a
 | .any, .any, _ => rfl
 | .dic k l, .dic k' l', h => by
  simp only [bkE] at h
  split at h
  ·rename_i h1
   rw [of_decide_eq_true h1, aHD h]
  ·cases h
 | .vars e cells, .vars e' cells', h => by
  simp only [bkE, zk] at h
  rw [Nat.eq_of_beq_eq_true h.1, anG _ _ h.2]
 | .row e t l, .row e' t' l', h => by
  simp only [bkE, zk] at h
  have h2 := h.2
  split at h2
  ·rename_i z hz
   have := aH4 hz h2
   injection this with g1 g2
   injection g1 with g1
   subst g1
   rw [Nat.eq_of_beq_eq_true h.1, eq_of_heq g2]
  ·cases h2
def aJZ : Heap → Heap → Bool
 | [], [] => true
 | (t, b) :: r, (t', b') :: r' => match Nat.beq t t' with
  | true => match bkE b b' with
   | true => aJZ r r'
   | false => false
  | false => false
 | _, _ => false
theorem aCC : ∀ {l l' : Heap}, aJZ l l' = true → l = l'
 | [], [], _ => rfl
 | [], _ :: _, h => by cases h
 | _ :: _, [], h => by cases h
 | (t, b) :: r, (t', b') :: r', h => by
  simp only [aJZ] at h
  split at h
  ·rename_i h1
   split at h
   ·rename_i h2
    rw [Nat.eq_of_beq_eq_true h1, aOa _ _ h2, aCC h]
   ·cases h
  ·cases h
def stE (σ σ' : St) : Bool := Nat.beq σ.n σ'.n && Nat.beq σ.next σ'.next && aBY σ.slots σ'.slots && aJZ σ.H σ'.H
theorem aM5 {σ σ' : St} (h : stE σ σ' = true) : σ = σ' := by
 simp only [stE, zk] at h
 obtain ⟨⟨⟨h1, h2⟩, h3⟩, h4⟩ := h
 cases σ; cases σ'
 simp only at h1 h2 h3 h4
 rw [Nat.eq_of_beq_eq_true h1, Nat.eq_of_beq_eq_true h2, axN h3, aCC h4]
def aOt : Nat → Nat → AV → List (Nat × AV) → List (Nat × AV)
 | 0, t, v, l => (t, v) :: l
 | _ + 1, t, v, [] => [(t, v)]
 | n + 1, t, v, (k, a) :: r => match Nat.blt k t with
  | true => (k, a) :: aOt n t v r
  | false => (t, v) :: (k, a) :: r
theorem ayU (u : Nat) : ∀ (n t : Nat) (v : AV) (l : List (Nat × AV)), adG (aOt n t v l) u = adG ((t, v) :: l) u
 | 0, _, _, _ => rfl
 | _ + 1, _, _, [] => rfl
 | n + 1, t, v, (k, a) :: r => by
  simp only [aOt]
  cases hb : Nat.blt k t with
  | false => rfl
  | true =>
   have hlt : k < t := Nat.le_of_ble_eq_true hb
   have ih := ayU u n t v r
   simp only [adG] at ih ⊢
   cases h1 : Nat.beq k u with
   | true =>
    have := Nat.eq_of_beq_eq_true h1
    subst this
    have h2 : Nat.beq t k = false := aqB zb
    simp only [h2]
   | false => simp only; exact ih
def aOu (lo : Nat) (k : Nat) (b : Bk) : Heap → Heap
 | [] => [(k, b)]
 | (j, c) :: r => match Nat.blt lo j && Nat.blt j k with
  | true => (j, c) :: aOu lo k b r
  | false => (k, b) :: (j, c) :: r
theorem ayY (lo k : Nat) (b : Bk) : ∀ l : Heap, (aOu lo k b l).Perm ((k, b) :: l)
 | [] => .refl _
 | (j, c) :: r => by
  simp only [aOu]
  split
  ·exact ((ayY lo k b r).cons _).trans (.swap _ _ _)
  ·exact .refl _
def aLD (n : Nat) : List (Nat × AV) → List (Nat × AV)
 | [] => []
 | (t, v) :: r => aOt n t v r
def aIU (lo : Nat) : Heap → Heap
 | [] => []
 | (k, b) :: r => aOu lo k b r
def St.sort (n lo : Nat) (σ : St) : St := { σ with slots := aLD n σ.slots, H := aIU lo σ.H }
theorem aDb (lo : Nat) : ∀ l : Heap, (aIU lo l).Perm l
 | [] => .refl _
 | (_, _) :: _ => ayY ..
theorem aDX (n u : Nat) : ∀ l : List (Nat × AV), adG (aLD n l) u = adG l u
 | [] => rfl
 | (_, _) :: _ => ayU ..
theorem SRel.sort {ρ : Nat → Nat} {σ : St} {a : Act} {w : World} (hs : SRel C ρ σ a w) (n lo : Nat) : SRel C ρ (σ.sort n lo) a w ∧ ∀ m, Fr C m ρ σ.H w ρ (σ.sort n lo).H w := by
 have hp := aDb lo σ.H
 obtain ⟨h1, h2⟩ := hs.m.perm (H' := aIU lo σ.H) (fun x => hp.mem_iff.symm) ((hp.map _).nodup_iff.2 hs.m.nodup)
 refine ⟨⟨h1, fun t => ?_, hs.size, hs.defers.mono h2.data h2.size⟩, fun m => h2.fr (fun k _ hk => ((hp.map _).mem_iff).1 hk)⟩
 show VR C ρ (aIU lo σ.H) w (adG (aLD n σ.slots) t) _
 rw [aDX]
 exact h2.vr (hs.slots t)
theorem aA3 (n k p lo : Nat) (σ : St) (r : List (Nat × Nat)) (hn : σ.next ≤ (((σ.rekeysK n r).sort p lo).raise k).next) : aMH n σ (((σ.rekeysK n r).sort p lo).raise k) := by
 intro C ρ a w hs
 obtain ⟨ρ', h1, h2⟩ := SRel.rekeysK (n := n) r hs
 obtain ⟨h3, h4⟩ := h1.sort p lo
 exact ⟨ρ', h3.raise k, h2.trans (zi _) (h4 n), hn⟩
end
end Go.Vg
