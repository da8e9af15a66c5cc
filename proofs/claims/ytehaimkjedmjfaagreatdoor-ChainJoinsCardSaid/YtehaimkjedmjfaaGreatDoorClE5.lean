/-
  An evaluator of Go code over plain data, proved sound against the model. Own work; no condition.
-/
import Derived.Test.YtehaimkjedmjfaaGreatDoorClE4
set_option linter.unusedVariables false
set_option linter.unusedSimpArgs false
namespace Go.Vg
open Go Go.RowKit
def awY (o : Oper) : Option Operand :=
 match o.op, o.guard with
 | .defer { callee := .value f, args, .. }, none => match args.toList with
  | [] => some f
  | _ => none
 | _, _ => none
def aD8 : List Oper → Option (Oper × Operand)
 | [] => none
 | [o] => match awY o with
  | some f => some (o, f)
  | none => none
 | _ :: r => aD8 r
structure DefB where
 p : Nat
 ops0 : Array Oper
 ops1 : Array Oper
 o : Oper
 f : Operand
 rest : Code
def aCf (p : Nat) (ops0 : Array Oper) : Code → Option DefB
 | .seq (.region _ ops1 false) r => match aD8 ops1.toList with
  | some x => some ⟨p, ops0, ops1, x.1, x.2, r⟩
  | none => none
 | _ => none
def akO : Code → Option DefB
 | .seq (.region _ ops0 false) (.scope c) => aCf 13 ops0 c
 | .seq (.region _ ops0 false) c => aCf 7 ops0 c
 | _ => none
structure ClosB where
 gn : Func
 ops : Array Oper
 o : Oper
 rest : List Oper
 B : Code
def amY : List Oper → Bool
 | [] => true
 | o :: r => agP o && amY r
def aCW (P : Program) (g : FuncId) : Option ClosB :=
 match P.funcs[g]? with
 | some gn => match gn.body with
  | some (.seq (.region _ ops false) B) => match ops.toList with
   | o :: r => match ahW o && amY r && Nat.beq gn.results.size 0 && acJ P g with
    | true => some ⟨gn, ops, o, r, B⟩
    | false => none
   | [] => none
  | _ => none
 | none => none
def aMk (A : St → Prop) : Fi → Prop
 | .go σ => A σ
 | .pan _ _ => False
def ao3 (Y : aAw) (P : Program) (Γ : Cons) (call : abP) (g : FuncId) (caps : List AV) (Q : Exit → St → Prop) (x : AV) (σ : St) : Prop :=
 match aCW P g with
 | some c => Nat.ble caps.length c.gn.ntmps = true ∧
   aa7 P Γ call c.ops c.rest (({ slots := ab8 0 (AV.maps (abJ σ.H) aeL caps), H := σ.H, next := σ.next + 1, n := c.gn.ntmps } : St).put c.o.dst x)
    (aMG Y σ.next c.B fun H' n' => Q .ret { slots := aa6 (abJ H') aeL σ.slots, H := H', next := n', n := σ.n })
 | none => False
def aGF (Y : aAw) (P : Program) (Γ : Cons) (call : abP) (g : FuncId) (caps : List AV) (Q : Exit → St → Prop) : Exit → St → Prop
 | .normal, σ => ao3 Y P Γ call g caps Q .nili σ
 | .ret, σ => ao3 Y P Γ call g caps Q .nili σ
 | .panic ch, σ => amJ ch fun x => ao3 Y P Γ call g caps Q x σ
 | _, _ => False
abbrev aHM := Nat → Code → St → (Exit → St → Prop) → Prop
def aDl (X : aHM) (Y : aAw) (P : Program) (Γ : Cons) (call : abP) (d : DefB) (Q : Exit → St → Prop) (σ : St) : Prop :=
 match σ.eval d.f with
 | .fn g [] caps => X d.p d.rest (σ.put d.o.dst .und) (aGF Y P Γ call g caps Q)
 | _ => False
def aLe (X : aHM) (Y : aAw) (P : Program) (Γ : Cons) (call : abP) (d : DefB) (σ : St) (Q : Exit → St → Prop) : Prop :=
 aa7 P Γ call d.ops0 d.ops0.toList σ (aMk fun σ => aa7 P Γ call d.ops1 d.ops1.toList.dropLast σ (aMk (aDl X Y P Γ call d Q)))
def aLf (P : Program) (G : World → Prop) (Γ : Cons) (call : abP) (c : Code) (σ : St) (Q : Exit → St → Prop) : Prop :=
 exec P G Γ call none c σ Q ∨ ∃ d, akO c = some d ∧ aLe (fun _ => exec P G Γ call none) (fun l => exec P G Γ call (some l)) P Γ call d σ Q
def aAg (XB : FuncId → Code → St → (Exit → St → Prop) → Prop) (XL : Nat → aHM) (P : Program) : abP := fun t args H next K => match t with
 | .fn f => match P.funcs[f]? with
  | some fn => match fn.body with
   | some code => acJ P f = true ∧ Nat.ble args.length fn.ntmps = true ∧
     XB f code { slots := ab8 0 args, H := H, next := next, n := fn.ntmps } (aHR P fn (aJp K) (aMJ K))
   | none => False
  | none => False
 | .yld l => match H.find l with
  | some (.loop r) => match Nat.beq args.length r.ps.size with
   | true => XL l 2 r.assign (aoJ { slots := r.slots, H := H, next := next, n := r.n } r.ps.toList args)
     (aLt l fun σ => XL l 3 r.body σ (aM4 l K))
   | false => False
  | _ => False
def aBV (P : Program) (G : World → Prop) (Γ : Cons) (call : abP) : abP :=
 aAg (fun _ => aLf P G Γ call) (fun l _ => exec P G Γ call (some l)) P
section
variable {C : Ctx} {P : Program} {G : World → Prop}
theorem Fr.wh {ρ ρ' : Nat → Nat} {H H' : Heap} {w w' : World} {m n : Nat} {hn : C.w0.heap.size ≤ n} {us : List Deferred} {ms : Option (List Nat)} (h : Fr (C.wh n hn us ms) m ρ H w ρ' H' w') : Fr C m ρ H w ρ' H' w' :=
 ⟨h.data, h.keys, h.rows, h.size⟩
theorem VR.un {ρ : Nat → Nat} {H : Heap} {w : World} {n : Nat} {hn : C.w0.heap.size ≤ n} {us : List Deferred} {ms : Option (List Nat)} {x : AV} {v : Value} (h : VR (C.wh n hn us ms) ρ H w x v) : VR C ρ H w x v :=
 VR.wh (C := C.wh n hn us ms) (n := C.lo) (hn := C.hlo) (us := C.us) (ms := C.mks) h
theorem VRs.un {ρ : Nat → Nat} {H : Heap} {w : World} {n : Nat} {hn : C.w0.heap.size ≤ n} {us : List Deferred} {ms : Option (List Nat)} {xs : List AV} {vs : List Value} (h : VRs (C.wh n hn us ms) ρ H w xs vs) : VRs C ρ H w xs vs :=
 VRs.wh (C := C.wh n hn us ms) (n := C.lo) (hn := C.hlo) (us := C.us) (ms := C.mks) h
theorem MRel.un {ρ : Nat → Nat} {H : Heap} {next : Nat} {w : World} {n : Nat} {hn : C.w0.heap.size ≤ n} {us : List Deferred} {ms : Option (List Nat)} (h : MRel (C.wh n hn us ms) ρ H next w) : MRel C ρ H next w :=
 MRel.wh (C := C.wh n hn us ms) (n := C.lo) (hn := C.hlo) (us := C.us) (ms := C.mks) h
theorem Fr.shut {ρ ρ' : Nat → Nat} {H H' : Heap} {w w' w'' : World} {n : Nat} (h : Fr C n ρ H w ρ' H' w') (h1 : ∀ b, b < w.heap.size → w''.heap[b]? = w'.heap[b]?) (h2 : ∀ k ∈ H'.keys, w''.heap[ρ' k]? = w'.heap[ρ' k]?) (h3 : w''.heap.size = w'.heap.size) : Fr C n ρ H w ρ' H' w'' := by
 refine ⟨fun b hb => ?_, h.keys, fun k e t l hk hk1 hk2 => ?_, by rw [h3]; exact h.size⟩
 ·obtain ⟨g1, g2⟩ := h.data b hb
  exact ⟨⟨g1.1, by rw [h3]; exact g1.2.1, g1.2.2⟩, (h1 b hb.2.1).trans g2⟩
 ·obtain ⟨l', g1, g2, g3⟩ := h.rows k e t l hk hk1 hk2
  refine ⟨l', g1, g2, fun c fr hc => ?_⟩
  obtain ⟨c', fr', g4, g5⟩ := g3 c fr hc
  exact ⟨c', fr', by rw [← (h.keys k hk hk2).2, h2 k hk2, (h.keys k hk hk2).2]; exact g4, g5⟩
theorem Fr.vr {ρ ρ' : Nat → Nat} {H H' : Heap} {next next' : Nat} {w w' : World} (hm : MRel C ρ H next' w) (hn : next' ≤ next) (h : Fr C next ρ H w ρ' H' w') {x : AV} {v : Value} (hx : VR C ρ H w x v) : VR C ρ' H' w' (x.map (abJ H') aeL) v :=
 VR.map h.data (fun k hk hp => ⟨hasKey_iff.1 hp, (h.keys k (yh (hm.lt k hk) hn) (hasKey_iff.1 hp)).2⟩) (fun k e t l hk hp => h.rows k e t l (yh (hm.lt k (aaH hk)) hn) hk (hasKey_iff.1 hp)) (fun _ _ _ _ _ _ => .no) hx
def aJy (C : Ctx) (σ : St) (ρ : Nat → Nat) (w : World) (Kr : List AV → St → Prop) (Kp : List PanicEntry → St → Prop) (e : Ending) (w' : World) : Prop :=
 (∃ ρ' σ' l vs, Kr l σ' ∧ MRel C ρ' σ'.H σ'.next w' ∧ VRs C ρ' σ'.H w' l vs ∧ Fr C σ.next ρ σ.H w ρ' σ'.H w' ∧ σ.next ≤ σ'.next ∧ e = .returned (aIm vs)) ∨
 ∃ ρ' σ' ch, Kp ch σ' ∧ MRel C ρ' σ'.H σ'.next w' ∧ Fr C σ.next ρ σ.H w ρ' σ'.H w' ∧ σ.next ≤ σ'.next ∧ e = .panicked ch
def aM9 (P : Program) (G : World → Prop) (fn : Func) (code : Code) (σ : St) (Kr : List AV → St → Prop) (Kp : List PanicEntry → St → Prop) : Prop :=
 ∀ (C : Ctx), G C.w0 → ∀ (ρ : Nat → Nat) (a : Act) (w : World), SRel C ρ σ a w → C.us = [] → C.mks = none → C.lo = w.heap.size → a.defers = [] →
  code.wpIn (aa1 none) 0 P (bodyPostM (aa1 none) 0 P fn (aJy C σ ρ w Kr Kp)) a w
theorem au9 {fn : Func} {code : Code} {σ : St} {Kr : List AV → St → Prop} {Kp : List PanicEntry → St → Prop}
  (h : Sat P G none code σ (aHR P fn Kr Kp)) (hC : G C.w0) {ρ : Nat → Nat} {a : Act} {w : World} (hs : SRel C ρ σ a w) (hu : C.us = []) (hmk : C.mks = none) (hlo : C.lo = w.heap.size) :
  code.wpIn (aa1 none) 0 P (bodyPostM (aa1 none) 0 P fn (aJy C σ ρ w Kr Kp)) a w := by
 refine wpIn_mono (h C hC ρ a w hs none ⟨rfl, hmk⟩) ?_
 rintro e a' w' ⟨ρ', σ', h1, h2, h3, h4⟩
 have fin : (aHS P σ' fn.results.toList).holds (fun l => Kr l σ') → LeavesInM (aa1 none) 0 P fn a'.tmps (aJy C σ ρ w Kr Kp) a'.defers .returning w' := fun hh =>
  aKU hu hmk h2 hh (fun l us w'' k1 k2 k3 k4 k5 k6 => Or.inl ⟨ρ', σ', l, us, k1, k2, k3, h3.shut (by rw [hlo] at k4; exact k4) k5 k6, h4, rfl⟩)
 have finP : ∀ ch, Kp ch σ' → LeavesInM (aa1 none) 0 P fn a'.tmps (aJy C σ ρ w Kr Kp) a'.defers (.panicking ch) w' := by
  intro ch hk
  obtain ⟨hlo', ds, e1, e2, e3, -⟩ := h2.defers
  rw [e1, hu]
  show LeavesInM _ _ _ _ _ _ (_ ++ []) _ _
  refine aiK ze ds w' h2.m e2 e3 (fun w'' k2 k3 k4 k5 k6 => ?_)
  exact Or.inr ⟨ρ', σ', ch, hk, k2, h3.shut (by rw [hlo] at k4; exact k4) k5 k6, h4, rfl⟩
 cases e with
 | normal => exact fin h1
 | ret => exact fin h1
 | panic ch => exact finP ch h1
 | _ => exact h1.elim
theorem auY : ∀ {l : List Oper} {o : Oper} {f : Operand}, aD8 l = some (o, f) → l = l.dropLast ++ [o] ∧ awY o = some f
 | [], _, _, h => by cases h
 | [x], o, f, h => by
  simp only [aD8] at h
  split at h
  ·rename_i f' hf
   injection h with h; injection h with h1 h2; subst h1; subst h2
   exact ⟨rfl, hf⟩
  ·cases h
 | x :: y :: r, o, f, h => by
  obtain ⟨h1, h2⟩ := auY (l := y :: r) h
  refine ⟨?_, h2⟩
  rw [List.dropLast_cons_cons, xv, ← h1]
theorem az2 {o : Oper} {f : Operand} (h : awY o = some f) : (∃ ts, o.op = .defer { callee := .value f, args := #[], argTypes := ts }) ∧ o.guard = none := by
 unfold awY at h
 split at h
 ·rename_i f' args ts ho hg
  split at h
  ·rename_i ha
   injection h with h; subst h
   have : args = #[] := by apply Array.ext'; exact ha
   subst this
   exact ⟨⟨_, ho⟩, hg⟩
  ·cases h
 ·cases h
theorem aqB {p : Nat} {ops0 : Array Oper} {c : Code} {d : DefB} (h : aCf p ops0 c = some d) : d.ops0 = ops0 ∧ (∃ i, c = .seq (.region i d.ops1 false) d.rest) ∧ aD8 d.ops1.toList = some (d.o, d.f) := by
 unfold aCf at h
 split at h
 ·split at h
  ·rename_i x hx
   injection h with h; subst h
   exact ⟨rfl, ⟨_, rfl⟩, hx⟩
  ·cases h
 ·cases h
theorem awZ {c : Code} {d : DefB} (h : akO c = some d) : aD8 d.ops1.toList = some (d.o, d.f) ∧ ∃ i j, c = .seq (.region i d.ops0 false) (.scope (.seq (.region j d.ops1 false) d.rest)) ∨ c = .seq (.region i d.ops0 false) (.seq (.region j d.ops1 false) d.rest) := by
 unfold akO at h
 split at h
 ·obtain ⟨rfl, ⟨i, rfl⟩, h3⟩ := aqB h
  exact ⟨h3, _, _, Or.inl rfl⟩
 ·obtain ⟨rfl, ⟨i, rfl⟩, h3⟩ := aqB h
  exact ⟨h3, _, _, Or.inr rfl⟩
 ·cases h
theorem aBN {g : FuncId} {c : ClosB} (h : aCW P g = some c) : P.funcs[g]? = some c.gn ∧ (∃ id, c.gn.body = some (.seq (.region id c.ops false) c.B)) ∧ c.ops.toList[0]? = some c.o ∧ c.ops.toList.drop 1 = c.rest ∧ ahW c.o = true ∧ (∀ x ∈ c.rest, agP x = true) ∧ c.gn.results = #[] ∧ acJ P g = true := by
 unfold aCW at h
 split at h
 ·rename_i gn hg
  split at h
  ·rename_i id ops B hb
   split at h
   ·rename_i o r hl
    split at h
    ·rename_i hc
     injection h with h; subst h
     simp only [zn] at hc
     have hall : ∀ (l : List Oper), amY l = true → ∀ x ∈ l, agP x = true := by
      intro l
      induction l with
      | nil => intro _ x hx; cases hx
      | cons y r ih =>
       intro h x hx
       simp only [amY, zn] at h
       rcases zp.1 hx with rfl | hx
       ·exact h.1
       ·exact ih h.2 x hx
     refine ⟨hg, ⟨id, hb⟩, by simp [hl], by simp [hl], hc.1.1.1, hall _ hc.1.1.2, ?_, hc.2⟩
     exact Array.eq_empty_of_size_eq_zero (aaE hc.1.2)
    ·cases h
   ·cases h
  ·cases h
 ·cases h
theorem arG (p : Nat → Bool) (f : Nat → Nat → Nat → AV) : ∀ l : List AV, (AV.maps p f l).length = l.length
 | [] => rfl
 | _ :: r => congrArg Nat.succ (arG p f r)
theorem alW (hG : acQ G) {Γ : Cons} (hΓ : Γ.ok P G) {call : abP} (hcall : CallSat P G call) {Y : aAw} (hY : ∀ l c σ Q, Y l c σ Q → Sat P G (some l) c σ Q) {fn : Func} {σ0 σ1 σ : St} {Kr : List AV → St → Prop} {Kp : List PanicEntry → St → Prop} {g : FuncId} {caps : List AV} {vc : List Value} {x : AV} {v : Value} {u u' : FrameMode}
  (hrec : Rec u v u') (hu : u ≠ .run) (hset : settle u' = .returning) (hC : G C.w0) {ρ0 ρ1 ρ : Nat → Nat} {a : Act} {w0 w1 w : World} (hlo : C.lo = w0.heap.size)
  (hm1 : MRel C ρ1 σ1.H σ1.next w1) (hcaps : VRs C ρ1 σ1.H w1 caps vc) (hf0 : Fr C σ0.next ρ0 σ0.H w0 ρ1 σ1.H w1) (hn0 : σ0.next ≤ σ1.next) (hf1 : Fr C σ1.next ρ1 σ1.H w1 ρ σ.H w) (hn1 : σ1.next ≤ σ.next)
  (hs : SRel (C.wh C.lo C.hlo [atP g vc] none) ρ σ a w) (hx : ∀ w', VR C ρ σ.H w' x v) (h : ao3 Y P Γ call g caps (aHR P fn Kr Kp) x σ) :
  LeavesInM (aa1 none) 0 P fn a.tmps (aJy C σ0 ρ0 w0 Kr Kp) a.defers u w := by
 unfold ao3 at h
 split at h
 case h_2 => exact h.elim
 rename_i c hc
 obtain ⟨g1, ⟨id, g2⟩, g3, g4, g5, g6, g7, g8⟩ := aBN hc
 obtain ⟨hble, hex⟩ := h
 obtain ⟨hlo', ds, e1, e2, e3, -⟩ := hs.defers
 rw [e1]
 show LeavesInM _ _ _ _ _ _ (_ ++ [atP g vc]) _ _
 refine aiK hu ds w hs.m e2 e3 (fun w2 k2 k3 k4 k5 k6 => ?_)
 have hcap2 : VRs C ρ σ.H w2 (AV.maps (abJ σ.H) aeL caps) vc := VRs.map (fun y u hy => (k3 _ _ (Fr.vr hm1 (zm _) hf1 hy).wh).un) hcaps
 rw [← g4] at hex
 refine atN hu g8 (aEn (C := C) (u := u) (u' := u') hG hC hΓ hcall hY g1 g2 g3 g5 (by rw [g4]; exact g6) g7 k2.un hcap2 (by rw [arG]; exact hble) hrec (hx w2) hex) ?_
 rintro w3 ⟨ρ3, H3, n3, hK, hm3, hf3, hn3⟩
 rw [hset]
 have hf01 : Fr C σ0.next ρ0 σ0.H w0 ρ σ.H w := hf0.trans hn0 hf1
 have hf2 : Fr C σ0.next ρ0 σ0.H w0 ρ σ.H w2 := hf01.shut (fun b hb => k4 b (by show b < C.lo; rw [hlo]; exact hb)) k5 k6
 have hf3' : Fr C σ0.next ρ0 σ0.H w0 ρ3 H3 w3 := hf2.trans (zF hn0 hn1) hf3
 have hle : C.lo ≤ w3.heap.size := by rw [hlo]; exact hf3'.size
 have hs3 : SRel (C.wh C.lo C.hlo [] none) ρ3 { slots := aa6 (abJ H3) aeL σ.slots, H := H3, next := n3, n := σ.n } { a with defers := [] } w3 :=
  ⟨hm3.wh, fun t => by rw [amN]; exact (Fr.vr k2.un (zm _) hf3 (k3 _ _ (hs.slots t)).un).wh, hs.size, Dfs.nil hle rfl rfl⟩
 obtain ⟨l, hl1, hl2⟩ := T.leaf (show (aHS P _ fn.results.toList).holds _ from hK)
 obtain ⟨us, q1, q2⟩ := akA (P := P) hs3 _ _ hl1
 exact ⟨_, aqH q1, Or.inl ⟨ρ3, _, l, us, hl2, hm3, q2.un, hf3', zF hn0 (zF hn1 hn3), rfl⟩⟩
theorem avA (hG : acQ G) {Γ : Cons} (hΓ : Γ.ok P G) {call : abP} (hcall : CallSat P G call) {X : aHM} (hX : ∀ p c σ Q, X p c σ Q → Sat P G none c σ Q) {Y : aAw} (hY : ∀ l c σ Q, Y l c σ Q → Sat P G (some l) c σ Q) {fn : Func} {code : Code} {d : DefB} (hd : akO code = some d) {σ : St} {Kr : List AV → St → Prop} {Kp : List PanicEntry → St → Prop}
  (h : aLe X Y P Γ call d σ (aHR P fn Kr Kp)) (hC : G C.w0) {ρ : Nat → Nat} {a : Act} {w : World} (hs : SRel C ρ σ a w) (hlo : C.lo = w.heap.size) (hds : a.defers = []) :
  code.wpIn (aa1 none) 0 P (bodyPostM (aa1 none) 0 P fn (aJy C σ ρ w Kr Kp)) a w := by
 obtain ⟨hlast, i, j, hcode⟩ := awZ hd
 obtain ⟨hl, hdo⟩ := auY hlast
 obtain ⟨⟨ts, ho⟩, hg⟩ := az2 hdo
 have hs0 : SRel (C.wh C.lo C.hlo [] (some [])) ρ σ a w := ⟨hs.m.wh, fun t => (hs.slots t).wh, hs.size, by show C.lo ≤ _; rw [hlo]; exact zm _, [], by rw [hds]; rfl, xe, fun _ h => (by cases h), fun x hx => Option.some.inj hx⟩
 have main : ∀ (ρ1 : Nat → Nat) (σ1 : St) (a1 : Act) (w1 : World), aa7 P Γ call d.ops1 d.ops1.toList.dropLast σ1 (aMk (aDl X Y P Γ call d (aHR P fn Kr Kp))) → SRel (C.wh C.lo C.hlo [] (some [])) ρ1 σ1 a1 w1 → Fr C σ.next ρ σ.H w ρ1 σ1.H w1 → σ.next ≤ σ1.next →
   (Code.seq (.region j d.ops1 false) d.rest).wpIn (aa1 none) 0 P (aKm (bodyPostM (aa1 none) 0 P fn (aJy C σ ρ w Kr Kp))) a1 w1 := by
  intro ρ1 σ1 a1 w1 hx hs1 hf1 hn1
  refine wpIn_seq (wpIn_region_list ?_)
  rw [hl]
  refine alV _ _ _ (ac4 (C := C.wh C.lo C.hlo [] (some [])) hG hC hΓ hcall _ hs1 hx (fun a2 w2 hr => ?_) (fun ch a2 w2 hr => ?_) none)
  ·obtain ⟨ρ2, σ2, hq, hs2, hf2, hn2⟩ := hr
   simp only [aMk, aDl] at hq
   split at hq
   case h_2 => exact hq.elim
   rename_i g caps hfv
   have hev := hs2.eval d.f
   rw [hfv] at hev
   generalize hvf : a2.eval d.f = vf at hev
   cases hev with
   | @fn _ _ _ vff vc hh1 hh2 =>
    cases hh1
    refine aD4 ho hg hvf ?_
    have hd2 : a2.defers = [] := by
     obtain ⟨-, ds, e1, -, -, e2⟩ := hs2.defers
     have : ds = [] := e2 [] rfl
     subst this
     exact e1
    have hlo2 : C.lo ≤ w2.heap.size := hs2.defers.1
    have hs3 : SRel (C.wh C.lo C.hlo [atP g vc] none) ρ2 σ2 { a2 with defers := atP g vc :: a2.defers } w2 :=
     ⟨hs2.m.un.wh, fun t => (hs2.slots t).un.wh, hs2.size, hlo2, [], by rw [hd2]; rfl, xe, fun _ h => (by cases h), fun x hx => (by cases hx)⟩
    have hs4 := hs3.put (dst := d.o.dst) .und
    have hf12 : Fr C σ.next ρ σ.H w ρ2 (σ2.put d.o.dst .und).H w2 := by rw [St.put_H]; exact hf1.trans hn1 hf2.wh
    have hn12 : σ.next ≤ (σ2.put d.o.dst .und).next := by rw [St.put_next]; exact zF hn1 hn2
    refine wpIn_mono (hX _ _ _ _ hq (C.wh C.lo C.hlo [atP g vc] none) hC ρ2 _ w2 hs4 none ⟨rfl, rfl⟩) ?_
    rintro e a3 w3 ⟨ρ3, σ3, h3, h4, h5, h6⟩
    have hm1 : MRel C ρ2 (σ2.put d.o.dst .und).H (σ2.put d.o.dst .und).next w2 := hs4.m.un
    have hcp : VRs C ρ2 (σ2.put d.o.dst .und).H w2 caps vc := by rw [St.put_H]; exact hh2.un
    cases e with
    | normal => exact alW hG hΓ hcall hY .none ze rfl hC hlo hm1 hcp hf12 hn12 h5.wh h6 h4 (fun _ => .nili) h3
    | ret => exact alW hG hΓ hcall hY .none ze rfl hC hlo hm1 hcp hf12 hn12 h5.wh h6 h4 (fun _ => .nili) h3
    | panic ch =>
     ·simp only [aGF] at h3
      obtain ⟨x, hx, h7⟩ := aq3 h3
      clear h3
      obtain ⟨v, rfl, -⟩ := auI (C := C) (ρ := ρ3) (H := σ3.H) (w := w3) hx
      refine alW hG hΓ hcall hY (.some v []) ze rfl hC hlo hm1 hcp hf12 hn12 h5.wh h6 h4 (fun w' => ?_) h7
      obtain ⟨v', e', hv'⟩ := auI (C := C) (ρ := ρ3) (H := σ3.H) (w := w') hx
      injection e' with e' _
      injection e' with e' _
      rw [e']
      exact hv'
    | _ => exact h3.elim
  ·obtain ⟨_, _, hq, _⟩ := hr
   exact hq.elim
 have first : (∀ {B : Code}, (∀ (ρ1 : Nat → Nat) (σ1 : St) (a1 : Act) (w1 : World), aa7 P Γ call d.ops1 d.ops1.toList.dropLast σ1 (aMk (aDl X Y P Γ call d (aHR P fn Kr Kp))) → SRel (C.wh C.lo C.hlo [] (some [])) ρ1 σ1 a1 w1 → Fr C σ.next ρ σ.H w ρ1 σ1.H w1 → σ.next ≤ σ1.next →
   B.wpIn (aa1 none) 0 P (bodyPostM (aa1 none) 0 P fn (aJy C σ ρ w Kr Kp)) a1 w1) → (Code.seq (.region i d.ops0 false) B).wpIn (aa1 none) 0 P (bodyPostM (aa1 none) 0 P fn (aJy C σ ρ w Kr Kp)) a w) := by
  intro B hB
  refine wpIn_seq (wpIn_region_list (ac4 (C := C.wh C.lo C.hlo [] (some [])) hG hC hΓ hcall _ hs0 h (fun a1 w1 hr => ?_) (fun ch a1 w1 hr => ?_) none))
  ·obtain ⟨ρ1, σ1, hq, hs1, hf1, hn1⟩ := hr
   exact hB ρ1 σ1 a1 w1 hq hs1 hf1.wh hn1
  ·obtain ⟨_, _, hq, _⟩ := hr
   exact hq.elim
 rcases hcode with rfl | rfl
 ·exact first fun ρ1 σ1 a1 w1 h1 h2 h3 h4 => am9 (main ρ1 σ1 a1 w1 h1 h2 h3 h4)
 ·refine first fun ρ1 σ1 a1 w1 h1 h2 h3 h4 => wpIn_mono (main ρ1 σ1 a1 w1 h1 h2 h3 h4) ?_
  intro e a2 w2 hq
  cases e <;> first | exact hq | exact hq.elim
theorem au8 (hG : acQ G) (hmix : P.follows .mixedOrders = true) {Γ : Cons} (hΓ : Γ.ok P G) {call : abP} (hcall : CallSat P G call) {fn : Func} {code : Code} {σ : St} {Kr : List AV → St → Prop} {Kp : List PanicEntry → St → Prop}
  (h : aLf P G Γ call code σ (aHR P fn Kr Kp)) : aM9 P G fn code σ Kr Kp := by
 intro C hC ρ a w hs hu hmk hlo hds
 rcases h with h | ⟨d, hd, h⟩
 ·exact au9 (ab2 hG hmix hΓ hcall code _ _ h) hC hs hu hmk hlo
 ·exact avA hG hΓ hcall (fun _ c σ Q => ab2 hG hmix hΓ hcall c σ Q) (fun _ c σ Q => ab2 hG hmix hΓ hcall c σ Q) hd h hC hs hlo hds
theorem aAf {XB : FuncId → Code → St → (Exit → St → Prop) → Prop} {XL : Nat → aHM} (hB : ∀ f fn code σ Kr Kp, XB f code σ (aHR P fn Kr Kp) → aM9 P G fn code σ Kr Kp) (hL : ∀ l q c σ Q, XL l q c σ Q → Sat P G (some l) c σ Q) : CallSat P G (aAg XB XL P) := by
  refine ⟨fun f args H next K h C ρ w vs hC hm hv => ?_, fun l args H next K h C ρ w vs hC hm hv => ?_⟩
  ·simp only [aAg] at h
   split at h
   ·rename_i fn hf
    split at h
    ·rename_i code hb
     obtain ⟨he, hle, hex⟩ := h
     have hw0 : C.w0.heap.size ≤ w.heap.size := hm.below.size
     refine ⟨he, (callsIn_wideR (r := none) (n := 0)).1 (CallsIn.mono (callsIn_of_wp_marks (F := aa1 none) (n := 0) hf hb trivial (hB _ _ _ _ _ _ hex (C.at w.heap.size hw0) hC _ _ _ (arZ rfl rfl hm.at (zm _) hv.at (Nat.le_of_ble_eq_true hle)) rfl rfl rfl rfl)) ?_)⟩
     rintro e w' (⟨ρ', σ', l, us, k1, k2, k3, k4, k5, rfl⟩ | ⟨ρ', σ', ch, k1, k2, k4, k5, rfl⟩)
     ·unfold aJp at k1
      split at k1
      ·rename_i hpn
       exact ⟨ρ', _, _, _, k1, k2.back, k4.back, k5, Or.inl ⟨_, rfl, hpn, (aqI k3).back⟩⟩
      ·exact k1.elim
     ·simp only [aMJ] at k1
      obtain ⟨x, hx, k1⟩ := aq3 k1
      exact ⟨ρ', _, _, _, k1, k2.back, k4.back, k5, Or.inr ⟨x, ch, rfl, awD hx, rfl⟩⟩
    ·exact h.elim
   ·exact h.elim
  ·simp only [aAg] at h
   split at h
   ·rename_i r hfind
    split at h
    ·rename_i hlen
     have hlen := aaE hlen
     have hkey := aaH (Heap.find_mem hfind)
     have hlt := hm.lt l hkey
     obtain ⟨fn, tmps, dd, g1, g2, g3⟩ := hm.mem _ _ (Heap.find_mem hfind)
     have hvl := hv.length
     have hw0 : C.w0.heap.size ≤ w.heap.size := hm.below.size
     refine ⟨fn, _, r.assign, r.body, run_yield g1 zi, roundIn_of_wpIn trivial ?_⟩
     have hs0 : SRel (C.at w.heap.size hw0) ρ { slots := r.slots, H := H, next := next, n := r.n } { tmps := tmps, defers := [] } w := ⟨hm.at, fun t => (g3 t).at, g2, Dfs.nil (zm _) rfl rfl⟩
     obtain ⟨hs1, hH1, hn1⟩ := aAj r.ps.toList args vs _ _ hs0 hv.at
     have htm : (r.ps.zip (⟨vs⟩ : Array Value)).foldl (fun t (x : Nat × Value) => t.setIfInBounds x.1 x.2) tmps = (r.ps.toList.zip vs).foldl (fun t x => t.setIfInBounds x.1 x.2) tmps := by
      rw [← Array.foldl_toList, Array.toList_zip]
     have hs1' : SRel (C.at w.heap.size hw0) ρ (aoJ { slots := r.slots, H := H, next := next, n := r.n } r.ps.toList args) { tmps := (r.ps.zip (⟨vs⟩ : Array Value)).foldl (fun t (x : Nat × Value) => t.setIfInBounds x.1 x.2) tmps, defers := [] } w := by
      rw [htm]; exact hs1
     refine wpIn_mono (hL _ _ _ _ _ h (C.at w.heap.size hw0) hC ρ _ w hs1' (some (ρ l)) ⟨by rw [hn1]; exact hlt, fun _ => rfl⟩) ?_
     rintro e a1 w1 ⟨ρ1, σ1, k1, k2, k3, k4⟩
     rw [hH1, hn1] at k3
     rw [hn1] at k4
     cases e with
     | normal =>
      simp only [aLt] at k1
      split at k1
      ·rename_i r1 hf1
       split at k1
       ·rename_i hst
        have hkey1 := aaH (Heap.find_mem hf1)
        have hρ1 := (k3.keys l hlt hkey1).2
        obtain ⟨fn1, tmps1, d1, b1, b2, b3⟩ := k2.m.mem _ _ (Heap.find_mem hf1)
        have hbr := run_beginRound (P := P) b1 hst
        obtain ⟨hm2, hext2⟩ := k2.m.turn hf1 .busy r1.pend b1 b2 b3
        rw [hρ1] at hbr hm2 hext2
        refine ⟨_, hbr, ?_⟩
        have hfr2 := hext2.fr (n := σ1.next) (fun k _ hk => by rwa [Heap.keys_up] at hk)
        have hs2 := k2.frame (next' := σ1.next) hm2 hfr2 (fun k hk => by rw [Heap.keys_up]; exact hk)
        refine wpIn_mono (hL _ _ _ _ _ k1 (C.at w.heap.size hw0) hC ρ1 _ _ hs2 (some (ρ l)) ⟨yh hlt k4, fun _ => by rw [hρ1]⟩) ?_
        rintro e a3 w3 ⟨ρ3, σ3, m1, m2, m3, m4⟩
        unfold aM4 at m1
        split at m1
        ·rename_i j hj
         split at m1
         ·rename_i r3 hf3
          have hkey3 := aaH (Heap.find_mem hf3)
          have hρ3 : ρ3 l = ρ l := (m3.keys l (yh hlt k4) hkey3).2.trans hρ1
          obtain ⟨fn3, tmps3, d3, c1, c2, c3⟩ := m2.m.mem _ _ (Heap.find_mem hf3)
          have hend := run_endRound (P := P) j c1
          have hrs : apR j = (if j.isNone then .ready else .done) := by cases j <;> rfl
          obtain ⟨hm4, hext4⟩ := m2.m.turn hf3 (apR j) j c1 c2 c3
          rw [hρ3] at hend hm4 hext4
          rw [hrs] at hm4 hext4 m1
          have f2 : Fr (C.at w.heap.size hw0) σ1.next ρ1 σ1.H w1 ρ3 σ3.H w3 := hfr2.trans (zm _) m3
          have f3 := hext4.fr (n := σ3.next) (fun k _ hk => by rwa [Heap.keys_up] at hk)
          have hfr := ((k3.trans k4 f2).trans (n' := σ3.next) (zF k4 m4) f3).back
          generalize w3.putObj (ρ l) (.loop { state := if j.isNone then .ready else .done, pending := j, fn := fn3, tmps := tmps3, params := r3.ps, assign := r3.assign, body := r3.body, defers := d3 }) = W4 at hend hm4 hfr
          have hce : CallEnd C ρ H next w K (.returned (.bool j.isNone)) W4 := ⟨ρ3, _, _, _, m1, hm4.back, hfr, zF k4 m4, Or.inl ⟨_, rfl, rfl, acA⟩⟩
          cases e with
          | normal => injection hj with hj; subst hj; exact ⟨_, _, hend, hce⟩
          | ret => injection hj with hj; subst hj; exact ⟨_, _, hend, hce⟩
          | exit id => injection hj with hj; subst hj; exact ⟨_, _, hend, hce⟩
          | _ => cases hj
         ·exact m1.elim
        ·exact m1.elim
       ·exact k1.elim
      ·exact k1.elim
     | _ => exact k1.elim
    ·exact h.elim
   ·exact h.elim
theorem aHv (hG : acQ G) (hmix : P.follows .mixedOrders = true) {Γ : Cons} (hΓ : Γ.ok P G) {call : abP} (hcall : CallSat P G call) : CallSat P G (aBV P G Γ call) :=
 aAf (fun _ _ _ _ _ _ h => au8 hG hmix hΓ hcall h) (fun _ _ c σ Q h => ab2 hG hmix hΓ hcall c σ Q h)
theorem asA {f : FuncId} {fn : Func} {code : Code} (hf : P.funcs[f]? = some fn) (hb : fn.body = some code) (he : acJ P f = true)
  (c : Con) (hce : c.err = false) (hn : ∀ x, c.pre x → Nat.ble (aj2 c.args x).length fn.ntmps = true)
  (hex : ∀ x : c.args.T, Wf c.args x → c.pre x → aM9 P G fn code { slots := ab8 0 (aj2 c.args x), H := [], next := 0, n := fn.ntmps } (aMt c.res (c.fn x)) fun _ _ => False) : c.ok P G f := by
 refine Con.ok_plain hce ⟨he, fun w ok vs x hGw hok hvs hp => (callsIn_wideR (r := none) (n := 0)).1 ?_⟩
 generalize hC : ({ w0 := w, okA := ok, lt := hok, lo := w.heap.size, hlo := zm _ } : Ctx) = C
 have hCw : C.w0 = w := by rw [← hC]
 have hCu : C.us = [] := by rw [← hC]
 have hCm : C.mks = none := by rw [← hC]
 have hClo : C.lo = w.heap.size := by rw [← hC]
 have hokA : C.okA = ok := by rw [← hC]
 have hm : MRel C (fun _ => 0) [] 0 w := ⟨by rw [hCw]; exact Below.refl _ _, xe, (by intro k hk; cases hk), (by intro k hk; cases hk), (by intro k hk; cases hk), (by intro k b hk; cases hk)⟩
 have hkk : ∀ b, ok b → Ok C (fun _ => 0) [] w b := fun b hb => ⟨Or.inl (by rw [hokA]; exact hb), hok b hb, (by intro k hk; cases hk)⟩
 refine CallsIn.mono (callsIn_of_wp_marks (F := aa1 none) (n := 0) hf hb trivial (hex x hvs.wf hp C (by rw [hCw]; exact hGw) _ _ _ (arZ hCu hCm hm (by rw [hClo]; exact zm _) (RdVs.args hkk _ _ _ hvs) (Nat.le_of_ble_eq_true (hn x hp))) hCu hCm hClo rfl)) ?_
 rintro e w'' (⟨ρ', σ', l, us, k1, k2, k3, k4, k5, rfl⟩ | ⟨_, _, _, k1, _⟩)
 ·refine ⟨us, rfl, ?_, by have := k2.below; rw [hCw] at this; exact this⟩
  unfold aMt at k1
  split at k1
  ·rename_i z hz
   subst k1
   have h5 := ap5 _ _ _ _ hz (VRs.map (fun x v hx => aIW k2 hx) k3)
   have mono : ∀ (t : Ty) (x : t.T) (vs : List Value), RdVs (Ok C ρ' [] w'') w'' t x vs → RdVs (aGg ok w w'') w'' t x vs := by
    intro t
    induction t with
    | unit => intro x vs h; exact h
    | pair t u _ ihu =>
     rintro x vs ⟨v, us, e, h6, h7⟩
     refine ⟨v, us, e, h6.mono (fun b hb => ⟨?_, rfl⟩), ihu _ _ h7⟩
     rcases hb.1 with h | h
     ·exact Or.inl (by rw [hokA] at h; exact h)
     ·exact Or.inr ⟨by rw [hCw] at h; exact h, hb.2.1⟩
    | _ => intro x vs h; exact h.elim
   exact mono _ _ _ h5
  ·exact k1.elim
 ·exact k1.elim
end
open Go Go.RowKit
def rn (k k' j : Nat) : Nat := match Nat.beq j k with | true => k' | false => j
mutual
def AV.ren (k k' : Nat) : AV → AV
 | .ptr j off => .ptr (rn k k' j) off
 | .eptr j i => .eptr (rn k k' j) i
 | .efp j i f => .efp (rn k k' j) i f
 | .own j off len => .own (rn k k' j) off len
 | .ox j off len => .ox (rn k k' j) off len
 | .sv j n => .sv (rn k k' j) n
 | .fn g first caps => .fn g (AV.rens k k' first) (AV.rens k k' caps)
 | .yld l => .yld (rn k k' l)
 | .mp j => .mp (rn k k' j)
 | .ag cells => .ag (AV.rens k k' cells)
 | .tup l => .tup (AV.rens k k' l)
 | .d t x => .d t x
 | .dptr t x => .dptr t x
 | .nsl => .nsl
 | .nilp => .nilp
 | .nili => .nili
 | .nni => .nni
 | .ifc k t x => .ifc k t x
 | .und => .und
 | .no => .no
def AV.rens (k k' : Nat) : List AV → List AV
 | [] => []
 | a :: as => a.ren k k' :: AV.rens k k' as
end
def akB (k k' : Nat) : List (Nat × AV) → List (Nat × AV)
 | [] => []
 | (t, a) :: r => (t, a.ren k k') :: akB k k' r
def aFe (k k' : Nat) : List (DK × AV) → List (DK × AV)
 | [] => []
 | (n, v) :: r => (n, v.ren k k') :: aFe k k' r
def Bk.ren (k k' : Nat) : Bk → Bk
 | .vars e cells => .vars e (AV.rens k k' cells)
 | .row e t l => .row e t l
 | .loop r => .loop { r with slots := akB k k' r.slots }
 | .dic j l => .dic j (aFe k k' l)
 | .any => .any
def Heap.ren (k k' : Nat) : Heap → Heap
 | [] => []
 | (j, b) :: r => (rn k k' j, b.ren k k') :: Heap.ren k k' r
def St.rekey (σ : St) (k k' : Nat) : St := { σ with slots := akB k k' σ.slots, H := Heap.ren k k' σ.H, next := Nat.max σ.next (k' + 1) }
section
variable {C : Ctx} {ρ : Nat → Nat} {H : Heap} {w : World} {k k' : Nat}
theorem avU : rn k k' k = k' := by simp [rn]
theorem aE9 {j : Nat} (h : j ≠ k) : rn k k' j = j := by simp [rn, arF h]
theorem af1 (hk' : k' ∉ H.keys) {j : Nat} (hj : j ∈ H.keys) : upd ρ k' (ρ k) (rn k k' j) = ρ j := by
 by_cases h : j = k
 ·subst h; rw [avU, aa2]
 ·rw [aE9 h, ac9]; intro e; subst e; exact hk' hj
theorem agZ : (Heap.ren k k' H).keys = H.keys.map (rn k k') := by
 induction H with
 | nil => rfl
 | cons x r ih =>
  obtain ⟨j, b⟩ := x
  show rn k k' j :: (Heap.ren k k' r).keys = rn k k' j :: ((Heap.keys r).map (rn k k'))
  rw [ih]
theorem mem_ren {j : Nat} {b : Bk} : (j, b) ∈ Heap.ren k k' H ↔ ∃ i c, (i, c) ∈ H ∧ j = rn k k' i ∧ b = c.ren k k' := by
 induction H with
 | nil => exact ⟨fun h => (by cases h), fun ⟨_, _, h, _⟩ => (by cases h)⟩
 | cons x r ih =>
  obtain ⟨i, c⟩ := x
  simp only [Heap.ren, zp, Prod.mk.injEq]
  constructor
  ·rintro (⟨h1, h2⟩ | h)
   ·exact ⟨i, c, Or.inl ⟨rfl, rfl⟩, h1, h2⟩
   ·obtain ⟨i', c', h1, h2⟩ := ih.1 h
    exact ⟨i', c', Or.inr h1, h2⟩
  ·rintro ⟨i', c', ⟨rfl, rfl⟩ | h1, h2, h3⟩
   ·exact Or.inl ⟨h2, h3⟩
   ·exact Or.inr (ih.2 ⟨i', c', h1, h2, h3⟩)
theorem Ok.ren (hk' : k' ∉ H.keys) {b : Nat} (h : Ok C ρ H w b) : Ok C (upd ρ k' (ρ k)) (Heap.ren k k' H) w b := by
 refine ⟨h.1, h.2.1, ?_⟩
 intro j hj
 rw [agZ] at hj
 obtain ⟨i, hi, rfl⟩ := zD.1 hj
 rw [af1 hk' hi]
 exact h.2.2 i hi
theorem VR.ren (hk' : k' ∉ H.keys) {x : AV} {v : Value} (h : VR C ρ H w x v) : VR C (upd ρ k' (ρ k)) (Heap.ren k k' H) w (x.ren k k') v := by
 have hd : ∀ b, Ok C ρ H w b → Ok C (upd ρ k' (ρ k)) (Heap.ren k k' H) w b ∧ w.heap[b]? = w.heap[b]? := fun b h => ⟨h.ren hk', rfl⟩
 have hkey : ∀ j, j ∈ H.keys → rn k k' j ∈ (Heap.ren k k' H).keys := fun j hj => by rw [agZ]; exact zD.2 ⟨j, hj, rfl⟩
 have hrow : ∀ j e t l, (j, Bk.row e t l) ∈ H → (rn k k' j, Bk.row e t l) ∈ Heap.ren k k' H := fun j e t l hj => mem_ren.2 ⟨j, _, hj, rfl, rfl⟩
 refine VR.rec (motive_1 := fun x v _ => VR C (upd ρ k' (ρ k)) (Heap.ren k k' H) w (x.ren k k') v) (motive_2 := fun xs vs _ => VRs C (upd ρ k' (ρ k)) (Heap.ren k k' H) w (AV.rens k k' xs) vs)
  ?_ ?_ ?_ ?_ ?_ ?_ ?_ ?_ ?_ ?_ ?_ ?_ ?_ ?_ ?_ ?_ ?_ ?_ ?_ ?_ ?_ ?_ h
 ·intro t x v h; exact .d (RdV.mono hd h)
 ·intro j off h
  rw [← af1 (ρ := ρ) (k := k) hk' h]
  exact .ptr (hkey j h)
 ·intro j i e t l h hi
  rw [← af1 (ρ := ρ) (k := k) hk' (aaH h)]
  exact .eptr (hrow j e t l h) hi
 ·intro j i f o u e t l h hi ho
  rw [← af1 (ρ := ρ) (k := k) hk' (aaH h)]
  exact .efp (hrow j e t l h) hi ho
 ·intro t x b o c e fr hb hc ho h
  exact .dptr (hd b hb).1 hc ho (Rd.mono hd _ _ _ h)
 ·intro j off len e t l a cap c fr h hl hc hm hb hs ha
  have e1 := af1 (ρ := ρ) (k := k) hk' (aaH h)
  exact .own (hrow j e t l h) hl hc hm (by rw [e1]; exact hb) hs (by rw [e1]; exact ha)
 ·intro j off len e t l a c fr h hl hm hb hs ha
  have e1 := af1 (ρ := ρ) (k := k) hk' (aaH h)
  exact .ox (hrow j e t l h) hl hm (by rw [e1]; exact hb) hs (by rw [e1]; exact ha)
 ·intro j n cap h hn hc
  rw [← af1 (ρ := ρ) (k := k) hk' h]
  exact .sv (hkey j h) hn hc
 ·exact .nsl
 ·exact .nilp
 ·exact .nili
 ·exact .nni
 ·intro k t x v h; exact .ifc (RdV.mono hd h)
 ·intro g first caps vf vc _ _ h1 h2; exact .fn h1 h2
 ·intro l h
  rw [← af1 (ρ := ρ) (k := k) hk' h]
  exact .yld (hkey l h)
 ·intro j h
  rw [← af1 (ρ := ρ) (k := k) hk' h]
  exact .mp (hkey j h)
 ·intro cells vs _ h1 h; exact .ag h h1
 ·intro l vs _ h; exact .tup h
 ·exact .und
 ·intro v; exact .no
 ·exact .nil
 ·intro a v as vs _ _ h hs; exact .cons h hs
theorem VRs.ren (hk' : k' ∉ H.keys) : ∀ {xs : List AV} {vs : List Value}, VRs C ρ H w xs vs → VRs C (upd ρ k' (ρ k)) (Heap.ren k k' H) w (AV.rens k k' xs) vs
 | _, _, .nil => .nil
 | _, _, .cons h1 h2 => .cons (h1.ren hk') (VRs.ren hk' h2)
theorem MapR.ren {R R' : AV → Value → Prop} {k k' : Nat} {j : KK} (h : ∀ x v, R x v → R' (x.ren k k') v) : ∀ {l : List (DK × AV)} {es : List MapEntry}, MapR R j l es → MapR R' j (aFe k k' l) es
 | [], [], _ => trivial
 | _ :: _, _ :: _, ⟨h1, h2, h3⟩ => ⟨h1, h _ _ h2, MapR.ren h h3⟩
 | [], _ :: _, h => h.elim
 | _ :: _, [], h => h.elim
theorem aCB (s : List (Nat × AV)) (t : Nat) : acR (akB k k' s) t = (acR s t).ren k k' := by
 induction s with
 | nil => rfl
 | cons x r ih =>
  obtain ⟨j, a⟩ := x
  simp only [akB, acR]
  cases Nat.beq j t <;> simp [ih]
theorem SRel.rekey {σ : St} {a : Act} (hs : SRel C ρ σ a w) (hk' : k' ∉ σ.H.keys) : SRel C (upd ρ k' (ρ k)) (σ.rekey k k') a w := by
 have hm := hs.m
 have hd : ∀ b, Ok C ρ σ.H w b → Ok C (upd ρ k' (ρ k)) (Heap.ren k k' σ.H) w b ∧ w.heap[b]? = w.heap[b]? := fun b h => ⟨h.ren hk', rfl⟩
 refine ⟨⟨hm.below, ?_, ?_, ?_, ?_, ?_⟩, fun t => ?_, hs.size, hs.defers.mono hd (zm _)⟩
 ·show (Heap.ren k k' σ.H).keys.Nodup
  rw [agZ]
  refine List.nodup_iff_pairwise_ne.2 (List.pairwise_map.2 (List.Pairwise.imp_of_mem ?_ (List.nodup_iff_pairwise_ne.1 hm.nodup)))
  intro i j hi hj hne e
  apply hne
  have h1 := af1 (ρ := fun x => x) (k := k) hk' hi
  have h2 := af1 (ρ := fun x => x) (k := k) hk' hj
  rw [e] at h1
  exact h1.symm.trans h2
 ·intro j hj
  have hj' : j ∈ (Heap.ren k k' σ.H).keys := hj
  rw [agZ] at hj'
  obtain ⟨i, hi, rfl⟩ := zD.1 hj'
  by_cases h : i = k
  ·subst h; rw [avU]; exact yh (yd _) (Nat.le_max_right _ _)
  ·rw [aE9 h]; exact yh (hm.lt i hi) (Nat.le_max_left _ _)
 ·intro j hj i hi e
  have hj' : j ∈ (Heap.ren k k' σ.H).keys := hj
  have hi' : i ∈ (Heap.ren k k' σ.H).keys := hi
  rw [agZ] at hj' hi'
  obtain ⟨j0, hj0, rfl⟩ := zD.1 hj'
  obtain ⟨i0, hi0, rfl⟩ := zD.1 hi'
  rw [af1 hk' hj0, af1 hk' hi0] at e
  rw [hm.inj _ hj0 _ hi0 e]
 ·intro j hj
  have hj' : j ∈ (Heap.ren k k' σ.H).keys := hj
  rw [agZ] at hj'
  obtain ⟨j0, hj0, rfl⟩ := zD.1 hj'
  rw [af1 hk' hj0]
  exact hm.low _ hj0
 ·intro j b hb
  obtain ⟨i, c, h1, rfl, rfl⟩ := mem_ren.1 hb
  rw [af1 hk' (aaH h1)]
  have hbr := hm.mem i c h1
  cases c with
  | vars e cells =>
   obtain ⟨c, g1, g2, g3⟩ := hbr
   exact ⟨c, g1, g2.ren hk', g3⟩
  | row e t l =>
   obtain ⟨c, g1, g2, g3, g4, g5⟩ := hbr
   exact ⟨c, g1, g2, g3, RdL.mono (fun x cs => Rd.mono hd t x cs) _ _ g4, g5⟩
  | loop r =>
   obtain ⟨fn, tmps, d, g1, g2, g3⟩ := hbr
   exact ⟨fn, tmps, d, g1, g2, fun t => by rw [aCB]; exact (g3 t).ren hk'⟩
  | dic j l =>
   obtain ⟨es, n, g1, g2⟩ := hbr
   exact ⟨es, n, g1, g2.ren (fun x v h => VR.ren hk' h)⟩
  | any => exact hbr
 ·show VR C _ (Heap.ren k k' σ.H) w (acR (akB k k' σ.slots) t) _
  rw [aCB]
  exact (hs.slots t).ren hk'
theorem Fr.rekey {n : Nat} (hk' : k' ∉ H.keys) (h1 : n ≤ k') : Fr C n ρ H w (upd ρ k' (ρ k)) (Heap.ren k k' H) w := by
 refine ⟨fun b h => ⟨h.ren hk', rfl⟩, fun j hj hjm => ?_, fun j e t l hj hjm hj' => ⟨l, mem_ren.2 ⟨j, _, hjm, (aE9 ?_).symm, rfl⟩, zm _, fun c fr hc => ⟨c, fr, hc, rfl⟩⟩, zm _⟩
 rotate_left
 ·rintro rfl
  rw [agZ] at hj'
  obtain ⟨i, hi, e⟩ := zD.1 hj'
  by_cases h : i = j
  ·subst h; rw [avU] at e; subst e; exact hk' hi
  ·rw [aE9 h] at e; exact h e
 rw [agZ] at hjm
 obtain ⟨i, hi, rfl⟩ := zD.1 hjm
 by_cases h : i = k
 ·subst h; rw [avU] at hj; omega
 ·rw [aE9 h] at hj ⊢
  exact ⟨hi, ac9 ρ zc⟩
end
section
variable {P : Program} {G : World → Prop}
end
def asT (α : Type) (x : α) : α := x
def len {α : Type} (l : List α) : Int := (l.length : Int)
def gi {α : Type} (l : List α) (i : Int) (d : α) : α := l.getD i.toNat d
def win {α : Type} (l : List α) (a b : Int) : List α := (l.drop a.toNat).take (b.toNat - a.toNat)
def w64 (x : Int) : Int := IntKind.wrap .i64 x
def aNU (x : Int) : Int := IntKind.wrap .u64 x
def aNV (x : Int) : Int := IntKind.wrap .u32 x
def wu8 (x : Int) : Int := IntKind.wrap .u8 x
def inb (a b : Int) : Prop := 0 ≤ a ∧ a < b
def inc (a b : Int) : Prop := 0 ≤ a ∧ a ≤ b
def apD (fn : Func) : Code := fn.body.getD .skip
def axN : Code → List Nat → Code
 | c, [] => c
 | .seq a _, 0 :: r => axN a r
 | .seq _ b, _ :: r => axN b r
 | .cond _ a _, 0 :: r => axN a r
 | .cond _ _ b, _ :: r => axN b r
 | .block _ a, _ :: r => axN a r
 | .loop a, _ :: r => axN a r
 | .scope a, _ :: r => axN a r
 | .rangeFunc _ _ a _, 0 :: r => axN a r
 | .rangeFunc _ _ _ b, _ :: r => axN b r
 | _, _ => .skip
open Go Go.RowKit
def al5 (m : Nat) : List Edge → Bool
 | [] => true
 | e :: r => match ab6 e with
  | true => match Nat.testBit m e.on with
   | true => al5 m r
   | false => false
  | false => al5 m r
def aEF (n : Nat) (σ σ' : St) : Prop := ∀ (C : Ctx) (ρ : Nat → Nat) (a : Act) (w : World), SRel C ρ σ a w → ∃ ρ', SRel C ρ' σ' a w ∧ Fr C n ρ σ.H w ρ' σ'.H w ∧ σ.next ≤ σ'.next
def an4 (P : Program) (Γ : Cons) (call : abP) (ops : Array Oper) (b : Nat) : Nat → Nat → St → (Fi → Prop) → Prop
 | 0, _, σ, K => K (.go σ)
 | n + 1, m, σ, K => ∀ i o, ops[i]? = some o → Nat.testBit m i = false → al5 m o.after.toList = true → aa7 P Γ call ops [o] σ (aKS (fun σ1 => ∃ σ', aEF b σ1 σ' ∧ an4 P Γ call ops b n (m ||| 2 ^ i) σ' K) K)
theorem aoB {m : Nat} : ∀ {l : List Edge}, (∀ e ∈ l, ab6 e = true → Nat.testBit m e.on = true) → al5 m l = true
 | [], _ => rfl
 | e :: r, h => by
  simp only [al5]
  cases hb : ab6 e with
  | false => exact aoB fun e he => h e (zr _ he)
  | true => simp only [h e (zy ..) hb]; exact aoB fun e he => h e (zr _ he)
section
variable {C : Ctx} {P : Program} {G : World → Prop} {Γ : Cons} {ops : Array Oper}
def aKF (C : Ctx) (b : Nat) (ρ : Nat → Nat) (H : Heap) (w : World) (K : St → Prop) (a' : Act) (w' : World) : Prop :=
 ∃ ρ' σ', K σ' ∧ SRel C ρ' σ' a' w' ∧ Fr C b ρ H w ρ' σ'.H w' ∧ b ≤ σ'.next
theorem aHF (hG : acQ G) (hC : G C.w0) (hΓ : Γ.ok P G) {call : abP} (hcall : CallSat P G call) {Q : Exit → Act → World → Prop} {K : Fi → Prop} (hed : acN ops.toList 0 = true) (rnd : Option Nat) {b : Nat} :
  ∀ (n m : Nat) (listed : Array Bool) {ρ : Nat → Nat} {σ : St} {a : Act} {w : World}, SRel C ρ σ a w → b ≤ σ.next → an4 P Γ call ops b n m σ K → listed.size = ops.size → (∀ j, j < ops.size → listed.getD j false = Nat.testBit m j) →
   axK (fun i => listed.getD i false) ops.size + n = ops.size → (∀ a' w', aKF C b ρ σ.H w (fun σ' => K (.go σ')) a' w' → Q .normal a' w') → (∀ ch a' w', aKF C b ρ σ.H w (fun σ' => K (.pan ch σ')) a' w' → Q (.panic ch) a' w') → wpAnyIn (aa1 rnd) 0 P .any ops Q n listed a w := by
 intro n
 induction n with
 | zero =>
  intro m listed ρ σ a w hs hb h hsz hl hcnt hQ hP
  refine ⟨xc.2 fun i hi => ?_, hQ a w ⟨ρ, σ, h, hs, Fr.refl _ _ _ _ _, hb⟩⟩
  unfold Region.ready at hi
  rw [yQ] at hi
  obtain ⟨h1, h2⟩ := hi
  have hio : i < ops.size := by simpa using h1
  simp only [zn, zU] at h2
  have h3 : listed.getD i false = false := by
   have := h2.1
   rw [zo, zO zc] at this ⊢
   exact this
  have := aw3 (ls := fun i => listed.getD i false) h3 (n := ops.size) hio
  omega
 | succ n ih =>
  intro m listed ρ σ a w hs hb h hsz hl hcnt hQ hP
  have hlt : ∀ i, i < ops.size → listed.getD i true = listed.getD i false := by
   intro i hi
   rw [zo, zo, zO zc]
   rfl
  refine ⟨fun hnil => ?_, fun i hi => ?_⟩
  ·exfalso
   have hex : ∃ i, i < ops.size ∧ listed.getD i false = false := by
    refine Classical.byContradiction fun hno => ?_
    have hall : ∀ i, i < ops.size → listed.getD i false = true := fun i hi => by
     cases hb : listed.getD i false with
     | true => rfl
     | false => exact absurd ⟨i, hi, hb⟩ hno
    have := aeO (ls := fun i => listed.getD i false) (m := ops.size) hall (fun i hi => by
     show listed.getD i false = false
     rw [zo, yJ zc]; rfl) (n := ops.size)
    omega
   obtain ⟨i, hi1, hi2, hi3⟩ := amP (ls := fun i => listed.getD i false) hex
   have hil : ops.toList[i]? = some ops[i] := by simp [hi1]
   have : i ∈ Region.ready .any ops listed := by
    unfold Region.ready
    rw [yQ]
    refine ⟨by simpa using hi1, ?_⟩
    rw [hlt i hi1, show listed.getD i false = false from hi2, zO hi1]
    simp only [yN, yV, Bool.not_false, Bool.true_and]
    rw [ye]
    intro e he
    cases hb : Region.binds .any e with
    | false => rfl
    | true =>
     have := abO hed hil e he hb
     rw [zv] at this
     have h3 : listed.getD e.on false = true := hi3 e.on this
     simp [h3]
   rw [hnil] at this
   cases this
  ·unfold Region.ready at hi
   rw [yQ] at hi
   obtain ⟨h1, h2⟩ := hi
   have hio : i < ops.size := by simpa using h1
   have hoi : ops[i]? = some ops[i] := zO hio
   rw [hlt i hio, hoi] at h2
   simp only [zn, zU, yN, yV, ye] at h2
   obtain ⟨h3, h4⟩ := h2
   have hmem : Nat.testBit m i = false := by rw [← hl i hio]; exact h3
   have hedge : al5 m ops[i].after.toList = true := aoB fun e he hb => by
    have he' : e ∈ ops[i].after := by simpa using he
    have := h4 e he'
    unfold ab6 at hb
    rw [hb] at this
    have hlt' := abO hed (show ops.toList[i]? = some ops[i] by simp [hio]) e he' hb
    rw [zv] at hlt'
    rw [← hl e.on zc]
    simpa using this
   have hstep := h i ops[i] hoi hmem hedge
   unfold wpOpIn
   rw [hoi]
   simp only
   refine ajW hG hC hΓ hcall hs hstep ?_ (fun ch a' w' hr => by
    obtain ⟨ρ1, σ1, q1, q2, q3, q4⟩ := hr
    exact hP ch a' w' ⟨ρ1, σ1, q1, q2, (Fr.refl C b ρ σ.H w).trans hb q3, zF hb q4⟩) rnd
   rintro a' w' ⟨ρ1, σ1, ⟨σ', g1, g2⟩, g3, g4, g5⟩
   obtain ⟨ρ', k1, k2, k3⟩ := g1 C ρ1 a' w' g3
   have hset : ∀ j, (listed.setIfInBounds i true).getD j false = if j = i then true else listed.getD j false := by
    intro j
    by_cases hj : j = i
    ·subst hj
     rw [if_pos rfl, zo, yo zc]
     rfl
    ·rw [if_neg hj, zo, yg (Ne.symm hj), ← zo]
   have hfun : (fun j => (listed.setIfInBounds i true).getD j false) = amZ (fun j => listed.getD j false) i := by
    funext j; rw [hset]; rfl
   refine ih (m ||| 2 ^ i) _ k1 (zF hb (zF g5 k3)) g2 (by simp [hsz]) (fun j hj => ?_) ?_ (fun a'' w'' hr => ?_) (fun ch a'' w'' hr => ?_)
   ·rw [hset, yx, Nat.testBit_two_pow]
    by_cases hji : j = i
    ·subst hji; simp
    ·rw [if_neg hji, hl j hj]; simp [Ne.symm hji]
   ·rw [hfun, apV h3 hio]
    omega
   ·obtain ⟨ρ2, σ2, q1, q2, q3, q4⟩ := hr
    refine hQ a'' w'' ⟨ρ2, σ2, q1, q2, ?_, q4⟩
    have f1 : Fr C b ρ σ.H w ρ1 σ1.H w' := (Fr.refl C b ρ σ.H w).trans hb g4
    exact (f1.trans (zm _) k2).trans (zm _) q3
   ·obtain ⟨ρ2, σ2, q1, q2, q3, q4⟩ := hr
    refine hP ch a'' w'' ⟨ρ2, σ2, q1, q2, ?_, q4⟩
    have f1 : Fr C b ρ σ.H w ρ1 σ1.H w' := (Fr.refl C b ρ σ.H w).trans hb g4
    exact (f1.trans (zm _) k2).trans (zm _) q3
theorem aKT (hG : acQ G) (hmix : P.follows .mixedOrders = true) (hΓ : Γ.ok P G) {call : abP} (hcall : CallSat P G call) {rd : Option Nat} {id : Nat} {σ : St} {Q : Exit → St → Prop} (hed : acN ops.toList 0 = true)
  (h : an4 P Γ call ops σ.next ops.size 0 σ (axX Q)) : Sat P G rd (.region id ops true) σ Q := by
 intro C hC ρ a w hs rnd hrd
 obtain ⟨hmd, hextd⟩ := hs.m.grow (w' := w.drew) ((Below.refl _ _).drew)
 have hfr := hextd.fr (n := σ.next) (fun k _ hk => hk)
 have hs' : SRel C ρ σ a w.drew := hs.frame hmd hfr (fun k hk => hk)
 refine wpIn_region_any hmix (aHF hG hC hΓ hcall hed rnd ops.size 0 (Array.replicate ops.size false) hs' (zm _) h ze (fun j hj => ?_) ?_ (fun a' w' hr => ?_) (fun ch a' w' hr => ?_))
 ·rw [zo, yW, if_pos hj, Nat.zero_testBit]; rfl
 ·have := aeO (ls := fun i => (Array.replicate ops.size false).getD i false) (m := 0) (fun i hi => absurd hi (Nat.not_lt_zero _)) (fun i _ => by
   show (Array.replicate ops.size false).getD i false = false
   rw [zo, yW]; split <;> rfl) (n := ops.size)
  omega
 ·obtain ⟨ρ1, σ1, h1, h2, h3, h4⟩ := hr
  exact ⟨ρ1, σ1, h1, h2, hfr.trans (zm _) h3, h4⟩
 ·obtain ⟨ρ1, σ1, h1, h2, h3, h4⟩ := hr
  exact ⟨ρ1, σ1, h1, h2, hfr.trans (zm _) h3, h4⟩
def St.rekeysK (n : Nat) (σ : St) : List (Nat × Nat) → St
 | [] => σ
 | (K, k') :: r => match abJ σ.H k', abJ σ.H K, Nat.ble n k' with
  | false, true, true => (σ.rekey K k').rekeysK n r
  | _, _, _ => σ.rekeysK n r
theorem SRel.rekeysK {n : Nat} {w : World} : ∀ (r : List (Nat × Nat)) {ρ : Nat → Nat} {σ : St} {a : Act}, SRel C ρ σ a w → ∃ ρ', SRel C ρ' (σ.rekeysK n r) a w ∧ Fr C n ρ σ.H w ρ' (σ.rekeysK n r).H w
 | [], ρ, σ, a, hs => ⟨ρ, hs, Fr.refl _ _ _ _ _⟩
 | (K, k') :: r, ρ, σ, a, hs => by
  simp only [St.rekeysK]
  split
  ·rename_i h1 h2 h3
   have hk' : k' ∉ σ.H.keys := fun h => by rw [hasKey_iff.2 h] at h1; cases h1
   obtain ⟨ρ', g1, g2⟩ := SRel.rekeysK (n := n) r (hs.rekey hk')
   exact ⟨ρ', g1, (Fr.rekey hk' (Nat.le_of_ble_eq_true h3)).trans (zm _) g2⟩
  ·exact SRel.rekeysK r hs
def St.raise (σ : St) (n : Nat) : St := { σ with next := Nat.max σ.next n }
theorem SRel.raise {ρ : Nat → Nat} {σ : St} {a : Act} {w : World} (hs : SRel C ρ σ a w) (n : Nat) : SRel C ρ (σ.raise n) a w := ⟨hs.m.mono (Nat.le_max_left _ _), hs.slots, hs.size, hs.defers⟩
theorem aBl (n k : Nat) (σ : St) (r : List (Nat × Nat)) (hn : σ.next ≤ ((σ.rekeysK n r).raise k).next) : aEF n σ ((σ.rekeysK n r).raise k) := by
 intro C ρ a w hs
 obtain ⟨ρ', h1, h2⟩ := SRel.rekeysK (n := n) r hs
 exact ⟨ρ', h1.raise k, h2, hn⟩
def eqT : (t : Ty) → t.T → t.T → Bool
 | .int _, x, y => eqD.eqI x y
 | .bool, x, y => eqD.eqB x y
 | .str, x, y => eqD.eqS x y
 | .unit, _, _ => true
 | .pair t u, x, y => match eqT t x.1 y.1 with
  | true => eqT u x.2 y.2
  | false => false
 | .arr _ t, x, y => eqD.eqL (eqT t) x y
 | .sl t, x, y => eqD.eqL (eqT t) x y
theorem aG5 {α : Type} {f : α → α → Bool} (hf : ∀ x y, f x y = true → x = y) : ∀ (l m : List α), eqD.eqL f l m = true → l = m
 | [], [], _ => rfl
 | [], _ :: _, h => by cases h
 | _ :: _, [], h => by cases h
 | x :: l, y :: m, h => by
  simp only [eqD.eqL] at h
  cases hb : f x y with
  | false => rw [hb] at h; cases h
  | true => rw [hb] at h; rw [hf _ _ hb, aG5 hf l m h]
theorem aMC {x y : Int} (h : eqD.eqI x y = true) : x = y := eq_of_beq h
theorem aMD {x y : Bool} (h : eqD.eqB x y = true) : x = y := eq_of_beq h
theorem aMB {x y : List UInt8} (h : eqD.eqS x y = true) : x = y := eq_of_beq h
theorem azX : ∀ (t : Ty) (x y : t.T), eqT t x y = true → x = y
 | .int _, _, _, h => aMC h
 | .bool, _, _, h => aMD h
 | .str, _, _, h => aMB h
 | .unit, x, y, _ => rfl
 | .pair t u, x, y, h => by
  simp only [eqT] at h
  cases hb : eqT t x.1 y.1 with
  | false => rw [hb] at h; cases h
  | true => rw [hb] at h; exact Prod.ext (azX t _ _ hb) (azX u _ _ h)
 | .arr _ t, x, y, h => aG5 (azX t) x y h
 | .sl t, x, y, h => aG5 (azX t) x y h
mutual
def avB (p : Nat → Bool) : AV → AV → Bool
 | .no, _ => true
 | .d u y, .d t x => match t.as u x with
  | some x' => eqT u x' y
  | none => false
 | .dptr u y, .dptr t x => match t.as u x with
  | some x' => eqT u x' y
  | none => false
 | .nsl, .nsl => true
 | .nilp, .nilp => true
 | .nili, .nili => true
 | .nni, .nni => true
 | .ifc k u y, .ifc k' t x => Nat.beq k' k && match t.as u x with
  | some x' => eqT u x' y
  | none => false
 | .und, .und => true
 | .ptr k i, .ptr k' i' => Nat.beq k' k && Nat.beq i' i && p k
 | .eptr k i, .eptr k' i' => Nat.beq k' k && Nat.beq i' i && p k
 | .own k o n, .own k' o' n' => Nat.beq k' k && Nat.beq o' o && Nat.beq n' n && p k
 | .ox k o n, .ox k' o' n' => Nat.beq k' k && Nat.beq o' o && Nat.beq n' n && p k
 | .sv k n, .sv k' n' => Nat.beq k' k && Nat.beq n' n && p k
 | .mp k, .mp k' => Nat.beq k' k && p k
 | .fn f x y, .fn f' x' y' => Nat.beq f' f && aLJ p x x' && aLJ p y y'
 | .ag l, .ag l' => aLJ p l l'
 | .tup l, .tup l' => aLJ p l l'
 | _, _ => false
def aLJ (p : Nat → Bool) : List AV → List AV → Bool
 | [], [] => true
 | b :: bs, a :: as => avB p b a && aLJ p bs as
 | _, _ => false
end
def aLU (p : Nat → Bool) (s : List (Nat × AV)) : List (Nat × AV) → Bool
 | [] => true
 | (t, b) :: r => avB p b (acR s t) && aLU p s r
def bkB (p : Nat → Bool) : Bk → Bk → Bool
 | .any, .any => true
 | .vars e cells, .vars e' cells' => Nat.beq e' e && aLJ p cells cells'
 | .row e t l, .row e' t' l' => Nat.beq e' e && match (t'.sl).as (.sl t) l' with
  | some z => eqT (.sl t) z l
  | none => false
 | _, _ => false
def aNG (p : Nat → Bool) (H : Heap) (n : Nat) : Heap → Bool
 | [] => true
 | (k, b) :: r => (match H.find k with
  | some b' => bkB p b b'
  | none => false) && Nat.blt k n && aNG p H n r
mutual
def avE : AV → AV → Bool
 | .no, .no => true
 | .d u y, .d t x => match t.as u x with
  | some x' => eqT u y x'
  | none => false
 | .dptr u y, .dptr t x => match t.as u x with
  | some x' => eqT u y x'
  | none => false
 | .nsl, .nsl => true
 | .nilp, .nilp => true
 | .nili, .nili => true
 | .nni, .nni => true
 | .und, .und => true
 | .ptr k i, .ptr k' i' => Nat.beq k k' && Nat.beq i i'
 | .eptr k i, .eptr k' i' => Nat.beq k k' && Nat.beq i i'
 | .own k o n, .own k' o' n' => Nat.beq k k' && Nat.beq o o' && Nat.beq n n'
 | .ox k o n, .ox k' o' n' => Nat.beq k k' && Nat.beq o o' && Nat.beq n n'
 | .sv k n, .sv k' n' => Nat.beq k k' && Nat.beq n n'
 | .mp k, .mp k' => Nat.beq k k'
 | .fn f x y, .fn f' x' y' => Nat.beq f f' && aKB x x' && aKB y y'
 | .ag l, .ag l' => aKB l l'
 | .tup l, .tup l' => aKB l l'
 | _, _ => false
def aKB : List AV → List AV → Bool
 | [], [] => true
 | b :: bs, a :: as => avE b a && aKB bs as
 | _, _ => false
end
theorem aHC {t u : Ty} {x : t.T} {y x' : u.T} (h : t.as u x = some x') (e : eqT u y x' = true) : (⟨u, y⟩ : (t : Ty) × t.T) = ⟨t, x⟩ := by
 obtain ⟨e1, e2⟩ := Ty.as_some h
 subst e1
 have := azX _ _ _ e
 subst this
 have e2 : x = y := e2
 rw [e2]
mutual
theorem asP : ∀ (b a : AV), avE b a = true → b = a
 | .no, .no, _ => rfl
 | .d u y, .d t x, h => by
  simp only [avE] at h
  split at h
  ·rename_i x' hx
   have := aHC hx h
   injection this with h1 h2
   subst h1
   rw [eq_of_heq h2]
  ·cases h
 | .dptr u y, .dptr t x, h => by
  simp only [avE] at h
  split at h
  ·rename_i x' hx
   have := aHC hx h
   injection this with h1 h2
   subst h1
   rw [eq_of_heq h2]
  ·cases h
 | .nsl, .nsl, _ => rfl
 | .nilp, .nilp, _ => rfl
 | .nili, .nili, _ => rfl
 | .nni, .nni, _ => rfl
 | .und, .und, _ => rfl
 | .ptr k i, .ptr k' i', h => by
  simp only [avE, zn] at h
  rw [Nat.eq_of_beq_eq_true h.1, Nat.eq_of_beq_eq_true h.2]
 | .eptr k i, .eptr k' i', h => by
  simp only [avE, zn] at h
  rw [Nat.eq_of_beq_eq_true h.1, Nat.eq_of_beq_eq_true h.2]
 | .own k o n, .own k' o' n', h => by
  simp only [avE, zn] at h
  rw [Nat.eq_of_beq_eq_true h.1.1, Nat.eq_of_beq_eq_true h.1.2, Nat.eq_of_beq_eq_true h.2]
 | .ox k o n, .ox k' o' n', h => by
  simp only [avE, zn] at h
  rw [Nat.eq_of_beq_eq_true h.1.1, Nat.eq_of_beq_eq_true h.1.2, Nat.eq_of_beq_eq_true h.2]
 | .sv k n, .sv k' n', h => by
  simp only [avE, zn] at h
  rw [Nat.eq_of_beq_eq_true h.1, Nat.eq_of_beq_eq_true h.2]
 | .mp k, .mp k', h => by
  simp only [avE] at h
  rw [Nat.eq_of_beq_eq_true h]
 | .fn f x y, .fn f' x' y', h => by
  simp only [avE, zn] at h
  rw [Nat.eq_of_beq_eq_true h.1.1, aoL _ _ h.1.2, aoL _ _ h.2]
 | .ag l, .ag l', h => by rw [aoL l l' h]
 | .tup l, .tup l', h => by rw [aoL l l' h]
theorem aoL : ∀ (bs as : List AV), aKB bs as = true → bs = as
 | [], [], _ => rfl
 | b :: bs, a :: as, h => by
  simp only [aKB, zn] at h
  rw [asP b a h.1, aoL bs as h.2]
 | [], _ :: _, h => by cases h
 | _ :: _, [], h => by cases h
end
def aCg : List (Nat × AV) → List (Nat × AV) → Bool
 | [], [] => true
 | (t, b) :: r, (t', b') :: r' => match Nat.beq t t' with
  | true => match avE b b' with
   | true => aCg r r'
   | false => false
  | false => false
 | _, _ => false
theorem axP : ∀ {l l' : List (Nat × AV)}, aCg l l' = true → l = l'
 | [], [], _ => rfl
 | [], _ :: _, h => by cases h
 | _ :: _, [], h => by cases h
 | (t, b) :: r, (t', b') :: r', h => by
  simp only [aCg] at h
  split at h
  ·rename_i h1
   split at h
   ·rename_i h2
    rw [Nat.eq_of_beq_eq_true h1, asP _ _ h2, axP h]
   ·cases h
  ·cases h
def aM6 : List (DK × AV) → List (DK × AV) → Bool
 | [], [] => true
 | (t, b) :: r, (t', b') :: r' => match eqK t t' with
  | true => match avE b b' with
   | true => aM6 r r'
   | false => false
  | false => false
 | _, _ => false
theorem aHh : ∀ {l l' : List (DK × AV)}, aM6 l l' = true → l = l'
 | [], [], _ => rfl
 | [], _ :: _, h => by cases h
 | _ :: _, [], h => by cases h
 | (t, b) :: r, (t', b') :: r', h => by
  simp only [aM6] at h
  split at h
  ·rename_i h1
   split at h
   ·rename_i h2
    rw [aKv h1, asP _ _ h2, aHh h]
   ·cases h
  ·cases h
def bkE : Bk → Bk → Bool
 | .any, .any => true
 | .dic k l, .dic k' l' => match decide (k = k') with
  | true => aM6 l l'
  | false => false
 | .vars e cells, .vars e' cells' => Nat.beq e e' && aKB cells cells'
 | .row e t l, .row e' t' l' => Nat.beq e e' && match (t'.sl).as (.sl t) l' with
  | some z => eqT (.sl t) l z
  | none => false
 | _, _ => false
theorem aMK : ∀ (b a : Bk), bkE b a = true → b = a
 | .any, .any, _ => rfl
 | .dic k l, .dic k' l', h => by
  simp only [bkE] at h
  split at h
  ·rename_i h1
   rw [of_decide_eq_true h1, aHh h]
  ·cases h
 | .vars e cells, .vars e' cells', h => by
  simp only [bkE, zn] at h
  rw [Nat.eq_of_beq_eq_true h.1, aoL _ _ h.2]
 | .row e t l, .row e' t' l', h => by
  simp only [bkE, zn] at h
  have h2 := h.2
  split at h2
  ·rename_i z hz
   have := aHC hz h2
   injection this with g1 g2
   injection g1 with g1
   subst g1
   rw [Nat.eq_of_beq_eq_true h.1, eq_of_heq g2]
  ·cases h2
def aI4 : Heap → Heap → Bool
 | [], [] => true
 | (t, b) :: r, (t', b') :: r' => match Nat.beq t t' with
  | true => match bkE b b' with
   | true => aI4 r r'
   | false => false
  | false => false
 | _, _ => false
theorem aCJ : ∀ {l l' : Heap}, aI4 l l' = true → l = l'
 | [], [], _ => rfl
 | [], _ :: _, h => by cases h
 | _ :: _, [], h => by cases h
 | (t, b) :: r, (t', b') :: r', h => by
  simp only [aI4] at h
  split at h
  ·rename_i h1
   split at h
   ·rename_i h2
    rw [Nat.eq_of_beq_eq_true h1, aMK _ _ h2, aCJ h]
   ·cases h
  ·cases h
def stE (σ σ' : St) : Bool := Nat.beq σ.n σ'.n && Nat.beq σ.next σ'.next && aCg σ.slots σ'.slots && aI4 σ.H σ'.H
theorem aLT {σ σ' : St} (h : stE σ σ' = true) : σ = σ' := by
 simp only [stE, zn] at h
 obtain ⟨⟨⟨h1, h2⟩, h3⟩, h4⟩ := h
 cases σ; cases σ'
 simp only at h1 h2 h3 h4
 rw [Nat.eq_of_beq_eq_true h1, Nat.eq_of_beq_eq_true h2, axP h3, aCJ h4]
def aM1 : Nat → Nat → AV → List (Nat × AV) → List (Nat × AV)
 | 0, t, v, l => (t, v) :: l
 | _ + 1, t, v, [] => [(t, v)]
 | n + 1, t, v, (k, a) :: r => match Nat.blt k t with
  | true => (k, a) :: aM1 n t v r
  | false => (t, v) :: (k, a) :: r
theorem ay6 (u : Nat) : ∀ (n t : Nat) (v : AV) (l : List (Nat × AV)), acR (aM1 n t v l) u = acR ((t, v) :: l) u
 | 0, _, _, _ => rfl
 | _ + 1, _, _, [] => rfl
 | n + 1, t, v, (k, a) :: r => by
  simp only [aM1]
  cases hb : Nat.blt k t with
  | false => rfl
  | true =>
   have hlt : k < t := Nat.le_of_ble_eq_true hb
   have ih := ay6 u n t v r
   simp only [acR] at ih ⊢
   cases h1 : Nat.beq k u with
   | true =>
    have := Nat.eq_of_beq_eq_true h1
    subst this
    have h2 : Nat.beq t k = false := arF zc
    simp only [h2]
   | false => simp only; exact ih
def aM2 (lo : Nat) (k : Nat) (b : Bk) : Heap → Heap
 | [] => [(k, b)]
 | (j, c) :: r => match Nat.blt lo j && Nat.blt j k with
  | true => (j, c) :: aM2 lo k b r
  | false => (k, b) :: (j, c) :: r
theorem azA (lo k : Nat) (b : Bk) : ∀ l : Heap, (aM2 lo k b l).Perm ((k, b) :: l)
 | [] => .refl _
 | (j, c) :: r => by
  simp only [aM2]
  split
  ·exact ((azA lo k b r).cons _).trans (.swap _ _ _)
  ·exact .refl _
def aKP (n : Nat) : List (Nat × AV) → List (Nat × AV)
 | [] => []
 | (t, v) :: r => aM1 n t v r
def aIa (lo : Nat) : Heap → Heap
 | [] => []
 | (k, b) :: r => aM2 lo k b r
def St.sort (n lo : Nat) (σ : St) : St := { σ with slots := aKP n σ.slots, H := aIa lo σ.H }
theorem aC9 (lo : Nat) : ∀ l : Heap, (aIa lo l).Perm l
 | [] => .refl _
 | (_, _) :: _ => azA ..
theorem aD3 (n u : Nat) : ∀ l : List (Nat × AV), acR (aKP n l) u = acR l u
 | [] => rfl
 | (_, _) :: _ => ay6 ..
theorem SRel.sort {ρ : Nat → Nat} {σ : St} {a : Act} {w : World} (hs : SRel C ρ σ a w) (n lo : Nat) : SRel C ρ (σ.sort n lo) a w ∧ ∀ m, Fr C m ρ σ.H w ρ (σ.sort n lo).H w := by
 have hp := aC9 lo σ.H
 obtain ⟨h1, h2⟩ := hs.m.perm (H' := aIa lo σ.H) (fun x => hp.mem_iff.symm) ((hp.map _).nodup_iff.2 hs.m.nodup)
 refine ⟨⟨h1, fun t => ?_, hs.size, hs.defers.mono h2.data h2.size⟩, fun m => h2.fr (fun k _ hk => ((hp.map _).mem_iff).1 hk)⟩
 show VR C ρ (aIa lo σ.H) w (acR (aKP n σ.slots) t) _
 rw [aD3]
 exact h2.vr (hs.slots t)
def aBA : Bk → Bk
 | .loop r => match r.st with
  | .exhausted => .any
  | _ => .loop r
 | b => b
def arR : Heap → Heap
 | [] => []
 | (k, b) :: r => (k, aBA b) :: arR r
def St.forget (σ : St) : St := { σ with H := arR σ.H }
theorem ao6 : ∀ H : Heap, (arR H).keys = H.keys
 | [] => rfl
 | (k, _) :: r => congrArg (k :: ·) (ao6 r)
theorem arQ : ∀ {H : Heap} {k : Nat} {b : Bk}, (k, b) ∈ arR H → ∃ c, (k, c) ∈ H ∧ b = aBA c
 | (j, c) :: r, k, b, h => by
  rcases zp.1 h with e | h
  ·injection e with e1 e2; subst e1; exact ⟨c, zy, e2⟩
  ·obtain ⟨d, h1, h2⟩ := arQ h; exact ⟨d, zr _ h1, h2⟩
theorem arP : ∀ {H : Heap} {k : Nat} {e : TypeId} {t : Ty} {l : List t.T}, (k, Bk.row e t l) ∈ H → (k, Bk.row e t l) ∈ arR H
 | (j, c) :: r, k, e, t, l, h => by
  rcases zp.1 h with h | h
  ·rw [← h]; exact zy
  ·exact zr _ (arP h)
theorem SRel.forget {ρ : Nat → Nat} {σ : St} {a : Act} {w : World} (hs : SRel C ρ σ a w) : SRel C ρ σ.forget a w ∧ ∀ m, Fr C m ρ σ.H w ρ σ.forget.H w := by
 have hk : σ.forget.H.keys = σ.H.keys := ao6 σ.H
 have h2 : Ext C ρ σ.H w ρ σ.forget.H w := ⟨fun b hb => ⟨⟨hb.1, hb.2.1, fun k h => hb.2.2 k (hk ▸ h)⟩, rfl⟩, fun k h => ⟨by rw [hk]; exact h, rfl⟩, fun k e t l h => ⟨l, arP h, zm _, fun c fr hc => ⟨c, fr, hc, rfl⟩⟩, zm _⟩
 refine ⟨⟨⟨hs.m.below, by rw [hk]; exact hs.m.nodup, fun k h => hs.m.lt k (hk ▸ h), fun k h k' h' => hs.m.inj k (hk ▸ h) k' (hk ▸ h'), fun k h => hs.m.low k (hk ▸ h), fun k b hb => ?_⟩, fun t => h2.vr (hs.slots t), hs.size, hs.defers.mono h2.data h2.size⟩, fun m => h2.fr (fun k _ h => hk ▸ h)⟩
 obtain ⟨c, hc, rfl⟩ := arQ hb
 have hr := hs.m.mem k c hc
 cases c with
 | loop r =>
  unfold aBA
  cases hst : r.st <;> simp only [hst] <;> first | exact BkR.ext h2 rfl hr | exact hr.block
 | _ => exact BkR.ext h2 rfl hr
theorem aBm (n k p lo : Nat) (σ : St) (r : List (Nat × Nat)) (hn : σ.next ≤ (((σ.rekeysK n r).sort p lo).forget.raise k).next) : aEF n σ (((σ.rekeysK n r).sort p lo).forget.raise k) := by
 intro C ρ a w hs
 obtain ⟨ρ', h1, h2⟩ := SRel.rekeysK (n := n) r hs
 obtain ⟨h3, h4⟩ := h1.sort p lo
 obtain ⟨h5, h6⟩ := h3.forget
 exact ⟨ρ', h5.raise k, (h2.trans (zm _) (h4 n)).trans (zm _) (h6 n), hn⟩
end
open Go Go.RowKit
def aGr (a : AV) (K : AV → Prop) : Prop := match a with
 | .d t x => K (.d t x)
 | .ptr k o => K (.ptr k o)
 | .eptr k i => K (.eptr k i)
 | .efp k i f => K (.efp k i f)
 | .dptr t x => K (.dptr t x)
 | .own k o n => K (.own k o n)
 | .ox k o n => K (.ox k o n)
 | .sv k n => K (.sv k n)
 | .nsl => K (.nsl)
 | .nilp => K (.nilp)
 | .nili => K (.nili)
 | .nni => K (.nni)
 | .ifc k t x => K (.ifc k t x)
 | .fn f a b => K (.fn f a b)
 | .yld l => K (.yld l)
 | .mp k => K (.mp k)
 | .ag l => K (.ag l)
 | .tup l => K (.tup l)
 | .und => K (.und)
 | .no => K (.no)
theorem ay2 (a : AV) (K : AV → Prop) : aGr a K = K a := by cases a <;> rfl
def arE : List AV → (List AV → Prop) → Prop
 | [], K => K []
 | a :: r, K => aGr a fun a' => arE r fun r' => K (a' :: r')
theorem ay1 : ∀ (l : List AV) (K : List AV → Prop), arE l K = K l
 | [], _ => rfl
 | a :: r, K => by simp only [arE, ay2, ay1 r]
def aIN (a : AV) (K : AV → Prop) : Prop := match a with
 | .fn f x y => arE x fun x' => arE y fun y' => K (.fn f x' y')
 | .ag l => arE l fun l' => K (.ag l')
 | .tup l => arE l fun l' => K (.tup l')
 | a => aGr a K
theorem aCA (a : AV) (K : AV → Prop) : aIN a K = K a := by
 cases a <;> simp only [aIN, ay1, ay2]
def aIK : List AV → (List AV → Prop) → Prop
 | [], K => K []
 | a :: r, K => aIN a fun a' => aIK r fun r' => K (a' :: r')
theorem aCy : ∀ (l : List AV) (K : List AV → Prop), aIK l K = K l
 | [], _ => rfl
 | a :: r, K => by simp only [aIK, aCA, aCy r]
def aCx : List (Nat × AV) → (List (Nat × AV) → Prop) → Prop
 | [], K => K []
 | (t, a) :: r, K => aIN a fun a' => aCx r fun r' => K ((t, a') :: r')
theorem ay0 : ∀ (l : List (Nat × AV)) (K : List (Nat × AV) → Prop), aCx l K = K l
 | [], _ => rfl
 | (t, a) :: r, K => by simp only [aCx, aCA, ay0 r]
def aK0 (b : Bk) (K : Bk → Prop) : Prop := match b with
 | .vars e l => aIK l fun l' => K (.vars e l')
 | b => K b
theorem aIM (b : Bk) (K : Bk → Prop) : aK0 b K = K b := by cases b <;> simp only [aK0, aCy]
def aIL : Heap → (Heap → Prop) → Prop
 | [], K => K []
 | (k, b) :: r, K => aK0 b fun b' => aIL r fun r' => K ((k, b') :: r')
theorem aCz : ∀ (H : Heap) (K : Heap → Prop), aIL H K = K H
 | [], _ => rfl
 | (k, b) :: r, K => by simp only [aIL, aIM, aCz r]
def auR (σ : St) (K : St → Prop) : Prop := aCx σ.slots fun s => aIL σ.H fun h => K { slots := s, H := h, next := σ.next, n := σ.n }
theorem ahU (σ : St) (K : St → Prop) : auR σ K = K σ := by simp only [auR, ay0, aCz]
def aKj (o : Oper) : Bool :=
 match o.guard with
 | some _ => false
 | none => match o.dst with
  | none => false
  | some _ => match o.op with
   | .move _ => true
   | .load _ _ => true
   | .fieldAddr _ _ _ => true
   | .field _ _ _ => true
   | .indexAddr _ _ _ => true
   | .index _ _ _ => true
   | .extract _ _ => true
   | .convert _ _ _ => true
   | .build _ _ => true
   | .binOp _ _ _ _ _ => true
   | .unOp _ _ _ => true
   | _ => false
def evU (P : Program) (H : Heap) (arg : Operand → AV) (o : Oper) : T AV :=
 match o.op with
 | .load t a => ao2 P H t (arg a)
 | _ => evP P H arg o
def aH0 : List Oper → Nat → Nat → Nat
 | [], _, u => u
 | o :: r, i, u => match aKj o && o.after.toList.all (fun e => !ab6 e || u.testBit e.on) with
  | true => aH0 r (i + 1) (u ||| 2 ^ i)
  | false => aH0 r (i + 1) u
def aMI (o : Oper) (t : Nat) : List Oper → Nat → Bool
 | [], _ => true
 | p :: r, j => (match p.dst with
  | some d => match Nat.beq d t with
   | true => ac8 o j
   | false => true
  | none => true) && aMI o t r (j + 1)
def aiH (o : Oper) : Bool := match o.op with
 | .select _ _ => false
 | .defer _ => false
 | _ => true
def aLI (pre : List Oper) : List Oper → Nat → Bool
 | [], _ => true
 | o :: r, i => (match o.guard with | none => true | some _ => false) && ((ai5 o.op.operands.toList).all (fun t => aMI o t pre 0) && ((match o.dst with | some d => asH i d pre 0 | none => true) && (aiH o && aLI pre r (i + 1))))
def ag4 (m i : Nat) : List Nat → Nat → Bool
 | [], _ => false
 | x :: r, j => (m.testBit j && x.testBit i) || ag4 m i r (j + 1)
def acU (a b : AV) : Prop := a = b
def aE6 (r y : AV) (K : Prop) : Prop := match y with
 | .ptr _ _ => (match avE r y with | true => K | false => False)
 | .nsl => (match avE r y with | true => K | false => False)
 | .own _ _ _ => (match avE r y with | true => K | false => False)
 | _ => acU r y ∧ K
theorem axT {r y : AV} {K : Prop} (h : aE6 r y K) : r = y ∧ K := by
 unfold aE6 at h
 split at h
 ·split at h
  ·rename_i h1; exact ⟨asP _ _ h1, h⟩
  ·exact h.elim
 ·split at h
  ·rename_i h1; exact ⟨asP _ _ h1, h⟩
  ·exact h.elim
 ·split at h
  ·rename_i h1; exact ⟨asP _ _ h1, h⟩
  ·exact h.elim
 ·exact h
def aMY (c n : Nat) : Heap → List (Nat × Nat)
 | [] => []
 | (k, _) :: r => match Nat.ble n k with
  | true => (k, c + (k - n)) :: aMY c n r
  | false => aMY c n r
def aNN (b L i k : Nat) (σ σ1 : St) : St :=
 match Nat.ble σ1.next ((σ1.rekeysK b (aMY (b + 1000 * (i + 1)) σ.next σ1.H)).raise (b + 1000 * (L + 2) + 1000 * (L - k))).next with
 | true => (σ1.rekeysK b (aMY (b + 1000 * (i + 1)) σ.next σ1.H)).raise (b + 1000 * (L + 2) + 1000 * (L - k))
 | false => σ1
theorem aEs (b L i k : Nat) (σ σ1 : St) : aEF b σ1 (aNN b L i k σ σ1) := by
 unfold aNN
 split
 ·rename_i h; exact aBl _ _ _ _ (Nat.le_of_ble_eq_true h)
 ·exact fun C ρ a w hs => ⟨ρ, hs, Fr.refl _ _ _ _ _, zm _⟩
def obU (P : Program) (σ : St) (o : Oper) (K : Prop) : Prop :=
 match o.dst with
 | none => False
 | some d => (evU P σ.H σ.eval o).holds fun r => match acR σ.slots d with
  | .no => K
  | y => aE6 r y K
def aeJ (P : Program) (ms : List Nat) (u m : Nat) (σ : St) (K : Prop) : List Oper → Nat → Prop
 | [], _ => K
 | o :: r, i => match u.testBit i && !ag4 m i ms 0 with
  | true => obU P σ o (aeJ P ms u m σ K r (i + 1))
  | false => aeJ P ms u m σ K r (i + 1)
def aIk (P : Program) (u : Nat) (K : St → Prop) : List Oper → Nat → St → Prop
 | [], _, σ => K σ
 | o :: r, i, σ => match u.testBit i with
  | true => (evU P σ.H σ.eval o).holds fun x => aIk P u K r (i + 1) (σ.put o.dst x)
  | false => aIk P u K r (i + 1) σ
def aJd (o : Oper) (v : Nat) : Bool := o.after.toList.all fun e => !ab6 e || v.testBit e.on
def ar2 (v : Nat) : List Oper → Nat → List (Nat × Oper)
 | [], _ => []
 | o :: r, i => match !(v.testBit i) && aJd o v with
  | true => (i, o) :: ar2 v r (i + 1)
  | false => ar2 v r (i + 1)
structure Both (p q : Prop) : Prop where
 l : p
 r : q
def aMP (f : Nat × Oper → Prop) : List (Nat × Oper) → Prop
 | [] => False
 | [x] => f x
 | x :: y :: r => Both (f x) (aMP f (y :: r))
theorem aC1 {f : Nat × Oper → Prop} : ∀ {l : List (Nat × Oper)}, aMP f l → ∀ x ∈ l, f x
 | [x], h, y, hy => by
  rcases zp.1 hy with rfl | hy
  ·exact h
  ·cases hy
 | x :: z :: r, h, y, hy => by
  rcases zp.1 hy with rfl | hy
  ·exact h.l
  ·exact aC1 h.r y hy
def goQ (K : St → Prop) : Fi → Prop
 | .go σ => K σ
 | .pan _ _ => False
def apE (v : Nat) : List Oper → Nat → Nat
 | [], _ => 0
 | _ :: r, i => match v.testBit i with
  | true => apE v r (i + 1)
  | false => apE v r (i + 1) + 1
def alD (m : Nat) : List Oper → Nat → Nat → Nat
 | [], _, u => u
 | o :: r, i, u => match !((u ||| m).testBit i) && (aKj o && o.after.toList.all (fun e => !ab6 e || (u ||| m).testBit e.on)) with
  | true => alD m r (i + 1) (u ||| 2 ^ i)
  | false => alD m r (i + 1) u
def aN3 (c : Nat) (t s : Prop) : Prop := match c with
 | 0 => t
 | _ + 1 => s
def aGz {α : Type} : List α → Bool
 | _ :: _ :: _ => true
 | _ => false
def aNO (c : Bool) (b L i k : Nat) (σ σ1 : St) : St := match c with
 | true => aNN b L i k σ σ1
 | false => σ1
theorem aEt (c : Bool) (b L i k : Nat) (σ σ1 : St) : aEF b σ1 (aNO c b L i k σ σ1) := by
 cases c with
 | true => exact aEs b L i k σ σ1
 | false => exact fun C ρ a w hs => ⟨ρ, hs, Fr.refl _ _ _ _ _, zm _⟩
def azQ (P : Program) (Γ : Cons) (call : abP) (b : Nat) (pre : List Oper) (ms : List Nat) (tl : St → Prop) : Nat → Bool → Nat → Nat → St → Prop
 | 0, _, u, m, σ => aeJ P ms u m σ (aN3 (apE (u ||| m) pre 0) (tl σ) False) pre 0
 | k + 1, c, u, m, σ => aeJ P ms u m σ (aN3 (apE (u ||| m) pre 0) (tl σ) (aMP (fun x => opS P Γ call x.2 σ (goQ fun σ' => auR (aNO (c || aGz (ar2 (u ||| m) pre 0)) b pre.length x.1 k σ σ') fun σ2 => aIk P (alD (m ||| 2 ^ x.1) pre 0 u ^^^ u) (fun σ1 => azQ P Γ call b pre ms tl k (c || aGz (ar2 (u ||| m) pre 0)) (alD (m ||| 2 ^ x.1) pre 0 u) (m ||| 2 ^ x.1) σ1) pre 0 σ2)) (ar2 (u ||| m) pre 0))) pre 0
def aEf (P : Program) (Γ : Cons) (call : abP) (ops : Array Oper) (σ : St) (K : Fi → Prop) : Prop :=
 let l := ops.toList
 let ms := abN l []
 let m := abW ms
 let pre := l.take m
 let u := aH0 pre 0 0
 match aLI pre pre 0 && acN l 0 && ahG m ms 0 && Nat.ble m l.length with
 | true => auR σ fun σ => aIk P u (fun σ' => azQ P Γ call σ.next pre ms (fun σ'' => aa7 P Γ call ops (l.drop m) σ'' K) (apE u pre 0) false u 0 σ') pre 0 σ
 | false => False
theorem MRel.keepP {C : Ctx} {ρ : Nat → Nat} {H : Heap} {next : Nat} {w : World} (hm : MRel C ρ H next w) (p : Nat → Bool) :
  MRel C ρ (H.keep p aeL) next w ∧ (∀ x v, VR C ρ H w x v → VR C ρ (H.keep p aeL) w (x.map p aeL) v) ∧ ∀ n, Fr C n ρ H w ρ (H.keep p aeL) w := by
 have hv : ∀ x v, VR C ρ H w x v → VR C ρ (H.keep p aeL) w (x.map p aeL) v := fun x v h =>
  VR.map (fun b hb => ⟨hb.keep, rfl⟩) (fun k hk hp => ⟨Heap.keys_keep.2 ⟨hp, hk⟩, rfl⟩) (fun k e t l hk hp => ⟨l, Heap.mem_keep.2 ⟨hp, _, hk, rfl⟩, zm _, fun c fr hc => ⟨c, fr, hc, rfl⟩⟩) (fun _ _ _ _ _ _ => .no) h
 have hd : ∀ b, Ok C ρ H w b → Ok C ρ (H.keep p aeL) w b ∧ w.heap[b]? = w.heap[b]? := fun b hb => ⟨hb.keep, rfl⟩
 refine ⟨⟨hm.below, Heap.nodup_keep hm.nodup, fun k hk => hm.lt k (Heap.keys_keep.1 hk).2, fun k hk k' hk' => hm.inj k (Heap.keys_keep.1 hk).2 k' (Heap.keys_keep.1 hk').2, fun k hk => hm.low k (Heap.keys_keep.1 hk).2, fun k b hb => ?_⟩, hv,
  fun n => ⟨hd, fun k _ hk => ⟨(Heap.keys_keep.1 hk).2, rfl⟩, fun k e t l _ hkm hk => ⟨l, Heap.mem_keep.2 ⟨(Heap.keys_keep.1 hk).1, _, hkm, rfl⟩, zm _, fun c fr hc => ⟨c, fr, hc, rfl⟩⟩, zm _⟩⟩
 obtain ⟨_, b', hb', rfl⟩ := Heap.mem_keep.1 hb
 have hbr := hm.mem k b' hb'
 cases b' with
 | vars e cells =>
  obtain ⟨c, g1, g2, g3⟩ := hbr
  exact ⟨c, g1, VRs.map hv g2, g3⟩
 | row e t l =>
  obtain ⟨c, g1, g2, g3, g4, g5⟩ := hbr
  exact ⟨c, g1, g2, g3, RdL.mono (fun x cs => Rd.mono hd t x cs) _ _ g4, g5⟩
 | loop r =>
  obtain ⟨fn, tmps, d, g1, g2, g3⟩ := hbr
  exact ⟨fn, tmps, d, g1, g2, fun t => by show VR C ρ _ w (acR (aa6 _ _ r.slots) t) _; rw [amN]; exact hv _ _ (g3 t)⟩
 | dic k l => obtain ⟨es, n, g1, g2⟩ := hbr; exact ⟨es, n, g1, g2.map hv⟩
 | any => exact hbr
section
variable {C : Ctx} {P : Program} {G : World → Prop} {Γ : Cons} {ops : Array Oper}
theorem azR {ρ : Nat → Nat} {H : Heap} {next : Nat} {w : World} (hm : MRel C ρ H next w) {arg : Operand → AV} {val : Operand → Value} {o : Oper} {r : AV} (h : (evU P H arg o).Leaf r)
  (hv : ∀ x, VR C ρ H w (arg x) (val x)) : ∃ v, (execOp val o).run P w = .ok (.value v) w ∧ VR C ρ H w r v := by
 unfold evU at h
 split at h
 ·rename_i t a ho
  obtain ⟨v', h1, h2⟩ := ajR (fun _ h => h) hm h (hv a)
  exact ⟨v', by simp [execOp, ho, h1], h2⟩
 ·exact azS (fun _ h => h) hm h hv
theorem aAa {o : Oper} {t : Nat} : ∀ {l : List Oper} {k : Nat}, aMI o t l k = true → ∀ {j : Nat} {p : Oper}, l[j]? = some p → p.dst = some t → ac8 o (k + j) = true
 | [], _, _, j, p, hp, _ => by simp at hp
 | q :: r, k, h, j, p, hp, hd => by
  simp only [aMI, zn] at h
  cases j with
  | zero =>
   simp at hp; subst hp
   have h1 := h.1
   rw [hd] at h1
   simp only [show Nat.beq t t = true from Nat.beq_refl t] at h1
   simpa using h1
  | succ j =>
   have := aAa h.2 (j := j) (by simpa using hp) hd
   rwa [show k + 1 + j = k + (j + 1) by omega] at this
theorem aAb {pre : List Oper} : ∀ {l : List Oper} {k : Nat}, aLI pre l k = true → ∀ {i : Nat} {o : Oper}, l[i]? = some o →
  o.guard = none ∧ (∀ t ∈ ai5 o.op.operands.toList, aMI o t pre 0 = true) ∧ (∀ d, o.dst = some d → asH (k + i) d pre 0 = true) ∧ aiH o = true
 | [], _, _, i, o, ho => by simp at ho
 | q :: r, k, h, i, o, ho => by
  simp only [aLI, zn, yn] at h
  cases i with
  | zero =>
   simp at ho; subst ho
   obtain ⟨h1, h2, h3, h4, _⟩ := h
   refine ⟨?_, h2, fun d hd => ?_, h4⟩
   ·cases hg : q.guard with
    | none => rfl
    | some x => rw [hg] at h1; cases h1
   ·rw [hd] at h3; exact h3
  | succ i =>
   obtain ⟨h1, h2, h3, h4⟩ := aAb h.2.2.2.2 (i := i) (o := o) (by simpa using ho)
   refine ⟨h1, h2, fun d hd => ?_, h4⟩
   have := h3 d hd
   rwa [show k + 1 + i = k + (i + 1) by omega] at this
theorem amW {m i : Nat} : ∀ {l : List Nat} {k : Nat}, ag4 m i l k = true → ∃ j x, l[j]? = some x ∧ m.testBit (k + j) = true ∧ x.testBit i = true
 | [], _, h => by cases h
 | x :: r, k, h => by
  simp only [ag4, yq, zn] at h
  rcases h with h | h
  ·exact ⟨0, x, rfl, h.1, h.2⟩
  ·obtain ⟨j, y, h1, h2, h3⟩ := amW h
   exact ⟨j + 1, y, by simpa using h1, by rwa [show k + (j + 1) = k + 1 + j by omega], h3⟩
theorem awE {σ : St} {o : Oper} {K : Prop} (h : obU P σ o K) : (∃ d r, o.dst = some d ∧ (evU P σ.H σ.eval o).Leaf r ∧ (acR σ.slots d = .no ∨ r = acR σ.slots d)) ∧ K := by
 unfold obU at h
 split at h
 ·exact h.elim
 ·rename_i d hd
  obtain ⟨r, h1, h2⟩ := T.leaf h
  split at h2
  ·rename_i hl; exact ⟨⟨d, r, hd, h1, Or.inl hl⟩, h2⟩
  ·exact ⟨⟨d, r, hd, h1, Or.inr (axT h2).1⟩, (axT h2).2⟩
theorem agD {ms : List Nat} {u m : Nat} {σ : St} {K : Prop} : ∀ {l : List Oper} {k : Nat}, aeJ P ms u m σ K l k → K
 | [], _, h => h
 | o :: r, k, h => by
  simp only [aeJ] at h
  split at h
  ·exact agD (awE h).2
  ·exact agD h
theorem akG {ms : List Nat} {u m : Nat} {σ : St} {K : Prop} : ∀ {l : List Oper} {k : Nat}, aeJ P ms u m σ K l k → ∀ {i : Nat} {o : Oper}, l[i]? = some o → u.testBit (k + i) = true → ag4 m (k + i) ms 0 = false →
  ∃ d r, o.dst = some d ∧ (evU P σ.H σ.eval o).Leaf r ∧ (acR σ.slots d = .no ∨ r = acR σ.slots d)
 | [], _, _, i, o, ho, _, _ => by simp at ho
 | q :: r, k, h, i, o, ho, hu, hb => by
  simp only [aeJ] at h
  cases i with
  | zero =>
   simp at ho; subst ho
   rw [xn] at hu hb
   rw [hu, hb] at h
   exact (awE h).1
  | succ i =>
   have e : k + (i + 1) = k + 1 + i := zc
   rw [e] at hu hb
   split at h
   ·exact akG (awE h).2 (by simpa using ho) hu hb
   ·exact akG h (by simpa using ho) hu hb
theorem azY {v : Nat} : ∀ {l : List Oper} {k i : Nat} {o : Oper}, l[i]? = some o → v.testBit (k + i) = false → aJd o v = true → (k + i, o) ∈ ar2 v l k
 | [], _, i, o, ho, _, _ => by simp at ho
 | q :: r, k, i, o, ho, hv, he => by
  simp only [ar2]
  cases i with
  | zero =>
   simp at ho; subst ho
   rw [xn] at hv ⊢
   rw [hv, he]
   exact zy
  | succ i =>
   have e : k + (i + 1) = k + 1 + i := zc
   rw [e] at hv ⊢
   have := azY (k := k + 1) (by simpa using ho) hv he
   split
   ·exact zr _ this
   ·exact this
theorem asB {v : Nat} : ∀ {l : List Oper} {k : Nat}, (∀ i, i < l.length → v.testBit (k + i) = true) → apE v l k = 0
 | [], _, _ => rfl
 | q :: r, k, h => by
  simp only [apE]
  rw [show v.testBit k = true by have := h 0 ze; rwa [xn] at this]
  exact asB fun i hi => by have := h (i + 1) zi; rwa [show k + 1 + i = k + (i + 1) by omega]
theorem apG {m i j : Nat} : (m ||| 2 ^ i).testBit j = (m.testBit j || decide (i = j)) := by
 rw [yx, Nat.testBit_two_pow]
theorem aHo {v n : Nat} : ∀ {l : List Oper} {k : Nat}, (∀ i, i < l.length → k + i ≠ n) → apE (v ||| 2 ^ n) l k = apE v l k
 | [], _, _ => rfl
 | q :: r, k, h => by
  have hk : n ≠ k := fun e => h 0 ze zc
  have ih := aHo (v := v) (n := n) (l := r) (k := k + 1) fun i hi => by have := h (i + 1) zi; omega
  simp only [apE, apG, zk hk, Bool.or_false, ih]
theorem aCV {v n : Nat} : ∀ {l : List Oper} {k i : Nat}, i < l.length → n = k + i → v.testBit n = false → apE v l k = apE (v ||| 2 ^ n) l k + 1
 | q :: r, k, 0, _, hn, hv => by
  rw [xn] at hn
  subst hn
  have := aHo (v := v) (n := n) (l := r) (k := n + 1) fun i _ => by omega
  simp only [apE, apG, hv, decide_true, Bool.or_true, this]
 | q :: r, k, i + 1, hi, hn, hv => by
  have ih := aCV (l := r) (k := k + 1) (i := i) (by simpa using hi) zc hv
  have hk : n ≠ k := zc
  simp only [apE, apG, zk hk, Bool.or_false]
  split
  ·exact ih
  ·omega
theorem az9 {v v' : Nat} (h : ∀ i, v.testBit i = true → v'.testBit i = true) : ∀ {l : List Oper} {k : Nat}, apE v' l k ≤ apE v l k
 | [], _ => zm _
 | q :: r, k => by
  have ih := az9 h (l := r) (k := k + 1)
  simp only [apE]
  cases h1 : v.testBit k with
  | true => rw [h k h1]; exact ih
  | false =>
   cases v'.testBit k with
   | true => exact Nat.le_succ_of_le ih
   | false => exact Nat.succ_le_succ ih
theorem anB {m : Nat} : ∀ {l : List Oper} {k u : Nat}, (∀ j, u.testBit j = true → (alD m l k u).testBit j = true) ∧ ∀ j, (alD m l k u).testBit j = true → u.testBit j = true ∨ m.testBit j = false
 | [], _, _ => ⟨fun _ h => h, fun _ h => Or.inl h⟩
 | o :: r, k, u => by
  simp only [alD]
  split
  ·rename_i hc
   rw [zn] at hc
   obtain ⟨h1, h2⟩ := anB (m := m) (l := r) (k := k + 1) (u := u ||| 2 ^ k)
   refine ⟨fun j hj => h1 j (by rw [apG, hj]; rfl), fun j hj => ?_⟩
   rcases h2 j hj with h | h
   ·rw [apG, yq, zC] at h
    rcases h with h | rfl
    ·exact Or.inl h
    ·have h3 := hc.1
     rw [yx] at h3
     simp only [zU, xw] at h3
     exact Or.inr h3.2
   ·exact Or.inr h
  ·exact anB
theorem aCQ {P : Program} {Γ : Cons} {call : abP} {b : Nat} {pre : List Oper} {ms : List Nat} {tl : St → Prop} {k u m : Nat} {c : Bool} {σ : St} (hc : apE (u ||| m) pre 0 = 0) (h : azQ P Γ call b pre ms tl k c u m σ) : tl σ := by
 cases k with
 | zero => have h := agD (show aeJ P ms u m σ _ pre 0 from h); rw [hc] at h; exact h
 | succ k => have h := agD (show aeJ P ms u m σ _ pre 0 from h); rw [hc] at h; exact h
structure Agree (L : Nat → Prop) (a b : Act) : Prop where
 tmps : ∀ t, ¬ L t → a.tmps.getD t undef = b.tmps.getD t undef
 size : a.tmps.size = b.tmps.size
 defers : a.defers = b.defers
theorem Agree.put {L : Nat → Prop} {a b : Act} (h : Agree L a b) (dst : Option Nat) (v : Value) : Agree L (a.put dst v) (b.put dst v) := by
 refine ⟨fun t ht => ?_, by rw [aiD, aiD]; exact h.size, by rw [adM, adM]; exact h.defers⟩
 rw [aiM, aiM, h.size, h.tmps t ht]
theorem Agree.eval {L : Nat → Prop} {a b : Act} (h : Agree L a b) {x : Operand} (hx : ∀ t, x = .tmp t → ¬ L t) : a.eval x = b.eval x := by
 cases x with
 | tmp t => exact h.tmps t (hx t rfl)
 | _ => rfl
theorem SRel.agree {ρ : Nat → Nat} {σ : St} {a b : Act} {w : World} (hs : SRel C ρ σ b w) (h : Agree (fun _ => False) a b) : SRel C ρ σ a w :=
 ⟨hs.m, fun t => by rw [h.tmps t (fun h => h)]; exact hs.slots t, by rw [h.size]; exact hs.size, by rw [h.defers]; exact hs.defers⟩
theorem aC5 {L : Nat → Prop} {a b : Act} {w : World} {o : Oper} {r : Option Nat} {Ka Kb : Act → World → Prop} {Q : Exit → Act → World → Prop} (hsel : aiH o = true) (ha : Agree L a b) (he : ∀ x ∈ o.op.operands, a.eval x = b.eval x)
  (hK : ∀ a' b' w', Agree L a' b' → Kb b' w' → Ka a' w') (h : o.wpIn (aa1 r) 0 P b w Kb (fun _ _ _ => False)) : o.wpIn (aa1 r) 0 P a w Ka Q := by
 have h1 : ∀ cs d, o.op ≠ .select cs d := fun cs d e => by simp [aiH, e] at hsel
 have h2 : ∀ c, o.op ≠ .defer c := fun c e => by simp [aiH, e] at hsel
 unfold Oper.wpIn at h ⊢
 refine ⟨fun _ _ => trivial, ?_⟩
 have h := h.2
 rw [Oper.semAt_eq _ _ _ h2] at h ⊢
 rw [execOp_congr o h1 he]
 generalize (execOp b.eval o).run P w = res at h
 cases res with
 | ok x w' =>
  cases x <;> simp only [Oper.uponIn] at h ⊢
  case value u => exact hK _ _ _ (ha.put _ _) h
  case skip => exact hK _ _ _ (ha.put _ _) h
  case defer d => exact hK _ _ _ (Agree.put (a := { a with defers := d :: a.defers }) (b := { b with defers := d :: b.defers }) ⟨ha.tmps, ha.size, congrArg (d :: ·) ha.defers⟩ _ _) h
  case enter f args =>
   refine ⟨h.1, CallsIn.mono h.2 fun e w'' he => ?_⟩
   cases e with
   | returned u => exact hK _ _ _ (ha.put _ _) he
   | panicked c => exact he.elim
   | outgrown => obtain ⟨_, _, he⟩ := he; exact he.elim
  case row row args => exact ⟨h.1, RowsIn.mono h.2 fun u w'' he => hK _ _ _ (ha.put _ _) he⟩
  case round l f tmps assign body =>
   refine ⟨h.1, RoundIn.mono h.2 fun e w'' he => ?_⟩
   cases e with
   | returned u => exact hK _ _ _ (ha.put _ _) he
   | panicked c => exact he.elim
   | outgrown => obtain ⟨_, _, he⟩ := he; exact he.elim
 | halt x w' =>
  cases x <;> simp only [Oper.uponIn] at h
theorem aj9 {u : Nat} {Kf : St → Prop} {w : World} : ∀ (l : List Oper) (k : Nat) {ρ : Nat → Nat} {σ : St} {b : Act}, SRel C ρ σ b w → aIk P u Kf l k σ →
  ∃ σ' b', Kf σ' ∧ SRel C ρ σ' b' w ∧ Agree (fun t => ∃ j o, l[j]? = some o ∧ u.testBit (k + j) = true ∧ o.dst = some t) b b' ∧ σ'.H = σ.H ∧ σ'.next = σ.next
 | [], k, ρ, σ, b, hs, h => ⟨σ, b, h, hs, ⟨fun _ _ => rfl, rfl, rfl⟩, rfl, rfl⟩
 | o :: r, k, ρ, σ, b, hs, h => by
  simp only [aIk] at h
  have up : ∀ {t : Nat}, ¬ (∃ j o', (o :: r)[j]? = some o' ∧ u.testBit (k + j) = true ∧ o'.dst = some t) → ¬ ∃ j o', r[j]? = some o' ∧ u.testBit (k + 1 + j) = true ∧ o'.dst = some t := by
   rintro t hn ⟨j, o', h1, h2, h3⟩
   exact hn ⟨j + 1, o', by simpa using h1, by rwa [show k + (j + 1) = k + 1 + j by omega], h3⟩
  split at h
  ·rename_i hb
   obtain ⟨x, hx, h⟩ := T.leaf h
   obtain ⟨v, _, hv⟩ := azR hs.m hx (fun y => hs.eval y)
   obtain ⟨σ', b', h1, h2, h3, h4, h5⟩ := aj9 r (k + 1) (hs.put (dst := o.dst) hv) h
   refine ⟨σ', b', h1, h2, ⟨fun t ht => ?_, by rw [← h3.size, aiD], by rw [← h3.defers, adM]⟩, by rw [h4, St.put_H], by rw [h5, St.put_next]⟩
   rw [← h3.tmps t (up ht), aiM, if_neg]
   rintro ⟨hd, _⟩
   exact ht ⟨0, o, rfl, hb, hd⟩
  ·obtain ⟨σ', b', h1, h2, h3, h4, h5⟩ := aj9 r (k + 1) hs h
   exact ⟨σ', b', h1, h2, ⟨fun t ht => h3.tmps t (up ht), h3.size, h3.defers⟩, h4, h5⟩
theorem aqG {listed : Array Bool} {i j : Nat} (hi : i < listed.size) : (listed.setIfInBounds i true).getD j false = if j = i then true else listed.getD j false := by
 rw [zo, zo]
 by_cases h : j = i
 ·subst h
  rw [if_pos rfl, yo hi]
  rfl
 ·rw [if_neg h, yg (Ne.symm h)]
def aOp (l : List Oper) (m u : Nat) (listed : Array Bool) (t : Nat) : Prop := ∃ i o, i < m ∧ l[i]? = some o ∧ u.testBit i = true ∧ listed.getD i false = false ∧ o.dst = some t
theorem aGM (hG : acQ G) (hC : G C.w0) (hΓ : Γ.ok P G) {call : abP} (hcall : CallSat P G call) {Q : Exit → Act → World → Prop} {K : Fi → Prop} {l : List Oper} {m : Nat} (hops : ops.toList = l)
  (hed : acN l 0 = true) (htail : ahG m (abN l []) 0 = true) (hml : m ≤ l.length) (hchk : aLI (l.take m) (l.take m) 0 = true) {σ0 : St} {ρ0 : Nat → Nat} {w0 : World}
  (hQ : ∀ a' w', Reach C σ0 ρ0 w0 (fun σ' => K (.go σ')) a' w' → Q .normal a' w') (hP : ∀ ch a' w', Reach C σ0 ρ0 w0 (fun σ' => K (.pan ch σ')) a' w' → Q (.panic ch) a' w') (rnd : Option Nat) :
  ∀ (fuel : Nat) (listed : Array Bool) (k : Nat) (cb : Bool) (u dn : Nat) {ρ : Nat → Nat} {σ : St} {a b : Act} {w : World}, listed.size = ops.size → (∀ j, m ≤ j → listed.getD j false = false) → avH l (fun i => listed.getD i false) →
   (∀ i, i < m → u.testBit i = false → listed.getD i false = dn.testBit i) → (∀ j, dn.testBit j = true → j < m ∧ listed.getD j false = true) → apE (u ||| dn) (l.take m) 0 ≤ k →
   azQ P Γ call σ0.next (l.take m) (abN l []) (fun σ'' => aa7 P Γ call ops (l.drop m) σ'' K) k cb u dn σ → SRel C ρ σ b w → Agree (aOp l m u listed) a b → Fr C σ0.next ρ0 σ0.H w0 ρ σ.H w → σ0.next ≤ σ.next →
   ops.size ≤ axK (fun i => listed.getD i false) ops.size + fuel → wpAnyIn (aa1 rnd) 0 P .any ops Q fuel listed a w := by
 have hlen : l.length = ops.size := by rw [← hops]; simp
 intro fuel
 induction fuel with
 | zero =>
  intro listed k cb u dn ρ σ a b w hsz htl hcl hN hdn hk ex hs hag hF hnx hfu
  have hall : ∀ i, i < m → listed.getD i false = true := by
   intro i hi
   cases hb : listed.getD i false with
   | true => rfl
   | false => have := aw3 (ls := fun i => listed.getD i false) hb (show i < ops.size by omega); omega
  have hk0 : apE (u ||| dn) (l.take m) 0 = 0 := by
   refine asB fun i hi => ?_
   have him : i < m := by simp at hi; omega
   rw [zv, yx]
   cases hu : u.testBit i with
   | true => rfl
   | false => rw [← hN i him hu, hall i him]; rfl
  have hc := aeO (ls := fun i => listed.getD i false) hall htl (n := ops.size)
  exact apO hG hC hΓ hcall hops hed htail (l.drop m) m 0 listed rfl (zm _) (by rw [zS]; omega) hsz
   (fun i _ => by
    by_cases him : i < m
    ·rw [hall i him, zl him]
    ·rw [htl i zc, zk him])
   (hs.agree ⟨fun t _ => hag.tmps t (by rintro ⟨i, o, h1, _, _, h2, _⟩; rw [hall i h1] at h2; cases h2), hag.size, hag.defers⟩) (aCQ hk0 ex) (fun a' w' hr => hQ a' w' (hr.trans hF hnx)) (fun ch a' w' hr => hP ch a' w' (hr.trans hF hnx)) rnd
 | succ fuel ih =>
  intro listed k cb u dn ρ σ a b w hsz htl hcl hN hdn hk ex hs hag hF hnx hfu
  by_cases hall : ∀ i, i < m → listed.getD i false = true
  ·have hk0 : apE (u ||| dn) (l.take m) 0 = 0 := by
    refine asB fun i hi => ?_
    have him : i < m := by simp at hi; omega
    rw [zv, yx]
    cases hu : u.testBit i with
    | true => rfl
    | false => rw [← hN i him hu, hall i him]; rfl
   have hc := aeO (ls := fun i => listed.getD i false) hall htl (n := ops.size)
   exact apO hG hC hΓ hcall hops hed htail (l.drop m) m (fuel + 1) listed rfl (zm _) (by rw [zS]; omega) hsz
    (fun i _ => by
     by_cases him : i < m
     ·rw [hall i him, zl him]
     ·rw [htl i zc, zk him])
    (hs.agree ⟨fun t _ => hag.tmps t (by rintro ⟨i, o, h1, _, _, h2, _⟩; rw [hall i h1] at h2; cases h2), hag.size, hag.defers⟩) (aCQ hk0 ex) (fun a' w' hr => hQ a' w' (hr.trans hF hnx)) (fun ch a' w' hr => hP ch a' w' (hr.trans hF hnx)) rnd
  ·obtain ⟨i0, hi0, hl0, hbef⟩ := amP (ls := fun i => listed.getD i false) (m := m) (by
    apply Classical.byContradiction
    intro hn
    refine hall fun i hi => ?_
    cases hb : listed.getD i false with
    | true => rfl
    | false => exact absurd ⟨i, hi, hb⟩ hn)
   have gd : ∀ {i : Nat}, i < ops.size → listed.getD i true = listed.getD i false := by
    intro i hi
    rw [zo, zo, zO zc]
    rfl
   refine ⟨fun hnil => ?_, fun i hi => ?_⟩
   ·exfalso
    obtain ⟨o0, ho0⟩ : ∃ o, ops[i0]? = some o := ⟨_, zO (show i0 < ops.size by omega)⟩
    have h1 : l[i0]? = some o0 := by rw [← hops, zJ]; exact ho0
    have : i0 ∈ Region.ready .any ops listed := mem_ready.2 ⟨by rw [gd zc]; exact hl0, o0, ho0, fun e he hb => by
     have h2 := abO hed h1 e he hb
     rw [zv] at h2
     exact hbef _ h2⟩
    rw [hnil] at this
    cases this
   ·obtain ⟨h0, o, ho, hpred⟩ := mem_ready.1 hi
    have hil : l[i]? = some o := by rw [← hops, zJ]; exact ho
    have hio : i < ops.size := (yA.1 ho).1
    have hls : listed.getD i false = false := by rw [← gd hio]; exact h0
    have him : i < m := by
     apply Classical.byContradiction
     intro hge
     obtain ⟨x, hx⟩ : ∃ x, (abN l [])[i]? = some x := ⟨_, zH (by rw [(adP l []).2]; simp; omega)⟩
     have hxe := ag2 htail hx zc
     rw [zv] at hxe
     have := aiU hcl hed i o hil hpred x i0 hx (by rw [hxe, xg]; simp; omega)
     have hl0' : listed.getD i0 false = false := hl0
     rw [show listed.getD i0 false = true from this] at hl0'
     cases hl0'
    have hpo : (l.take m)[i]? = some o := by rw [zI, if_pos him]; exact hil
    obtain ⟨hg, hrd, hdst, hsel⟩ := aAb hchk hpo
    rw [zv] at hdst
    have h1sel : ∀ cs d, o.op ≠ .select cs d := fun cs d e => by simp [aiH, e] at hsel
    have h2def : ∀ c, o.op ≠ .defer c := fun c e => by simp [aiH, e] at hsel
    have opr : ∀ x ∈ o.op.operands, a.eval x = b.eval x := by
     intro x hx
     refine hag.eval fun t ht hlate => ?_
     subst ht
     obtain ⟨j, p, hjm, hp, _, hjl, hpd⟩ := hlate
     have := aAa (hrd t (akE (by simpa using hx))) (j := j) (p := p) (by rw [zI, if_pos hjm]; exact hp) hpd
     rw [zv] at this
     obtain ⟨e, he1, he2, he3⟩ := adR this
     have h3 := hpred e he1 he2
     rw [he3, hjl] at h3
     cases h3
    have hsz' : (listed.setIfInBounds i true).size = ops.size := by simpa using hsz
    have hil' : i < listed.size := zc
    have htl' : ∀ j, m ≤ j → (listed.setIfInBounds i true).getD j false = false := by
     intro j hj
     rw [aqG hil', if_neg zc]
     exact htl j hj
    have hcl' : avH l (fun j => (listed.setIfInBounds i true).getD j false) := by
     intro j p hp hj e he hb
     have hj' : (listed.setIfInBounds i true).getD j false = true := hj
     show (listed.setIfInBounds i true).getD e.on false = true
     rw [aqG hil'] at hj' ⊢
     by_cases hji : j = i
     ·subst hji
      rw [hil] at hp; injection hp with hp; subst hp
      rw [show listed.getD e.on false = true from hpred e he hb]
      split <;> rfl
     ·rw [if_neg hji] at hj'
      rw [show listed.getD e.on false = true from hcl j p hp hj' e he hb]
      split <;> rfl
    have hfu' : ops.size ≤ axK (fun j => (listed.setIfInBounds i true).getD j false) ops.size + fuel := by
     have e : (fun j => (listed.setIfInBounds i true).getD j false) = amZ (fun j => listed.getD j false) i := by
      funext j
      rw [aqG hil']
      unfold amZ
      rfl
     rw [e, apV hls hio]
     omega
    unfold wpOpIn
    rw [ho]
    simp only
    rw [if_pos (by simp [Region.wanted, hg])]
    cases hu : u.testBit i with
    | true =>
     have hnb : ag4 dn i (abN l []) 0 = false := by
      cases hb : ag4 dn i (abN l []) 0 with
      | false => rfl
      | true =>
       obtain ⟨j, x, h1, h2, h3⟩ := amW hb
       rw [zv] at h2
       obtain ⟨hjm, hjl⟩ := hdn j h2
       obtain ⟨p, hp⟩ : ∃ p, ops[j]? = some p := ⟨_, zO (show j < ops.size by omega)⟩
       have hjo : l[j]? = some p := by rw [← hops, zJ]; exact hp
       have := aiU hcl hed j _ hjo (fun e he hb => hcl j _ hjo hjl e he hb) x i h1 h3
       have h4 : listed.getD i false = true := this
       rw [hls] at h4; cases h4
     obtain ⟨d, r, hd, hleaf, hor⟩ : ∃ d r, o.dst = some d ∧ (evU P σ.H σ.eval o).Leaf r ∧ (acR σ.slots d = .no ∨ r = acR σ.slots d) := by
      cases k with
      | zero => exact akG ex hpo (by rw [zv]; exact hu) (by rw [zv]; exact hnb)
      | succ k => exact akG ex hpo (by rw [zv]; exact hu) (by rw [zv]; exact hnb)
     obtain ⟨v, hrun, hv⟩ := azR hs.m hleaf (fun x => hs.eval x)
     refine ⟨fun _ _ => trivial, ?_⟩
     rw [Oper.semAt_eq _ _ _ h2def, execOp_congr o h1sel opr, hrun]
     show wpAnyIn _ _ _ _ _ _ _ _ (a.put o.dst v) w
     have hvl : VR C ρ σ.H w (acR σ.slots d) v := by
      rcases hor with h | h
      ·rw [h]; exact .no
      ·rw [← h]; exact hv
     refine ih (listed.setIfInBounds i true) k cb u dn (ρ := ρ) (σ := σ) (b := b.put o.dst v) hsz' htl' hcl' (fun j hj huj => ?_) (fun j hj => ?_) hk ex ?_ ?_ hF hnx hfu'
     ·rw [aqG hil', if_neg (by rintro rfl; rw [hu] at huj; cases huj)]
      exact hN j hj huj
     ·obtain ⟨g1, g2⟩ := hdn j hj
      refine ⟨g1, ?_⟩
      rw [aqG hil', g2]
      split <;> rfl
     ·refine ⟨hs.m, fun t => ?_, by rw [aiD]; exact hs.size, by rw [adM]; exact hs.defers⟩
      rw [aiM]
      split
      ·rename_i hdt
       have : d = t := by have := hdt.1; rw [hd] at this; injection this
       subst this
       exact hvl
      ·exact hs.slots t
     ·refine ⟨fun t ht => ?_, by rw [aiD, aiD]; exact hag.size, by rw [adM, adM]; exact hag.defers⟩
      rw [aiM, aiM, hag.size]
      split
      ·rfl
      ·rename_i hnt
       by_cases htd : o.dst = some t
       ·have hge : ¬ t < b.tmps.size := fun h => hnt ⟨htd, h⟩
        rw [zo, zo, yJ (by rw [hag.size]; omega), yJ zc]
       ·refine hag.tmps t ?_
        rintro ⟨j, p, g1, g2, g3, g4, g5⟩
        refine ht ⟨j, p, g1, g2, g3, ?_, g5⟩
        rw [aqG hil', if_neg (by rintro rfl; rw [hil] at g2; injection g2 with g2; subst g2; exact htd g5)]
        exact g4
    | false =>
     have hdi : dn.testBit i = false := by rw [← hN i him hu]; exact hls
     have hv : (u ||| dn).testBit i = false := by rw [yx, hu, hdi]; rfl
     have hcnt := aCV (v := u ||| dn) (n := i) (l := l.take m) (k := 0) (i := i) zi zc hv
     obtain ⟨k', rfl⟩ : ∃ k', k = k' + 1 := ⟨k - 1, by omega⟩
     have hen : aJd o (u ||| dn) = true := by
      unfold aJd
      rw [yn]
      intro e he
      cases hb : ab6 e with
      | false => rfl
      | true =>
       have he' : e ∈ o.after := by simpa using he
       have h3 := hpred e he' hb
       have h4 := abO hed hil e he' hb
       rw [zv] at h4
       rw [yx]
       cases hue : u.testBit e.on with
       | true => rfl
       | false => rw [← hN _ zc hue, h3]; rfl
     have ex' := agD (show aeJ P (abN l []) u dn σ _ (l.take m) 0 from ex)
     rw [hcnt] at ex'
     have hf := aC1 (show aMP _ _ from ex') _ (azY (k := 0) hpo (by rw [zv]; exact hv) hen)
     rw [zv] at hf
     simp only [ahU] at hf
     have hw := ajP hG hC hΓ hcall hs hf (nx := fun b' w' => Reach C σ ρ w (fun σ' => aIk P (alD (dn ||| 2 ^ i) (l.take m) 0 u ^^^ u) (fun σ1 => azQ P Γ call σ0.next (l.take m) (abN l []) (fun σ'' => aa7 P Γ call ops (l.drop m) σ'' K) k' (cb || aGz (ar2 (u ||| dn) (l.take m) 0)) (alD (dn ||| 2 ^ i) (l.take m) 0 u) (dn ||| 2 ^ i) σ1) (l.take m) 0 (aNO (cb || aGz (ar2 (u ||| dn) (l.take m) 0)) σ0.next (l.take m).length i k' σ σ')) b' w') (Q := fun _ _ _ => False)
      (fun a' w' hr => hr) (fun ch a' w' ⟨_, _, hr, _⟩ => hr.elim) rnd
     refine aC5 hsel hag opr ?_ hw
     rintro a' b' w' hab ⟨ρ', σ', g1, g2, g3, g4⟩
     obtain ⟨ρ'', p2, p3, p4⟩ := aEt (cb || aGz (ar2 (u ||| dn) (l.take m) 0)) σ0.next (l.take m).length i k' σ σ' C ρ' b' w' g2
     obtain ⟨σ1, b1, e1, e2, e3, e4, e5⟩ := aj9 _ 0 p2 g1
     obtain ⟨gu1, gu2⟩ := anB (m := dn ||| 2 ^ i) (l := l.take m) (k := 0) (u := u)
     have hfr := (hF.trans hnx g3).trans (zm _) p3
     have hnw : ∀ j, j < m → (alD (dn ||| 2 ^ i) (l.take m) 0 u ^^^ u).testBit j = true → (alD (dn ||| 2 ^ i) (l.take m) 0 u).testBit j = true ∧ (listed.setIfInBounds i true).getD j false = false := by
      intro j hj hb
      rw [Nat.testBit_xor] at hb
      have hb2 : (alD (dn ||| 2 ^ i) (l.take m) 0 u).testBit j = true ∧ u.testBit j = false := by
       cases h1 : u.testBit j with
       | true => rw [h1, gu1 j h1] at hb; cases hb
       | false => rw [h1] at hb; simpa using hb
      refine ⟨hb2.1, ?_⟩
      rcases gu2 j hb2.1 with h | h
      ·rw [hb2.2] at h; cases h
      ·rw [apG, xw] at h
       rw [aqG hil', if_neg (by rintro rfl; simp at h), hN j hj hb2.2]
       exact h.1
     refine ih (listed.setIfInBounds i true) k' _ _ (dn ||| 2 ^ i) (ρ := ρ'') (σ := σ1) (b := b1) hsz' htl' hcl' (fun j hj huj => ?_) (fun j hj => ?_) ?_ e1 e2 ⟨fun t ht => (hab.tmps t ?_).trans (e3.tmps t ?_), hab.size.trans e3.size, hab.defers.trans e3.defers⟩ (by rw [e4]; exact hfr) (by rw [e5]; exact zF (zF hnx g4) p4) hfu'
     ·have huj' : u.testBit j = false := by
       cases h1 : u.testBit j with
       | false => rfl
       | true => rw [gu1 j h1] at huj; cases huj
      rw [aqG hil', apG]
      by_cases hji : j = i
      ·subst hji; simp
      ·rw [if_neg hji, hN j hj huj', zk (fun e => hji e.symm), Bool.or_false]
     ·rw [apG, yq, zC] at hj
      rcases hj with hj | hj
      ·obtain ⟨q1, q2⟩ := hdn j hj
       refine ⟨q1, ?_⟩
       rw [aqG hil', q2]
       split <;> rfl
      ·subst hj
       exact ⟨him, by rw [aqG hil', if_pos rfl]⟩
     ·have h1 : apE (alD (dn ||| 2 ^ i) (l.take m) 0 u ||| (dn ||| 2 ^ i)) (l.take m) 0 ≤ apE (u ||| dn ||| 2 ^ i) (l.take m) 0 := by
       refine az9 fun j hj => ?_
       rw [Nat.or_assoc, yx, yq] at hj
       rw [yx, yq]
       rcases hj with h | h
       ·exact Or.inl (gu1 j h)
       ·exact Or.inr h
      omega
     ·rintro ⟨j, p, q1, q2, q3, q4, q5⟩
      refine ht ⟨j, p, q1, q2, gu1 j q3, ?_, q5⟩
      rw [aqG hil', if_neg (by rintro rfl; rw [hu] at q3; cases q3)]
      exact q4
     ·rintro ⟨j, p, q1, q2, q3⟩
      rw [zv] at q2
      have hjm : j < m := by
       have := (zu.1 q1).1
       rw [zK] at this
       omega
      obtain ⟨n1, n2⟩ := hnw j hjm q2
      rw [zI, if_pos hjm] at q1
      exact ht ⟨j, p, hjm, q1, n1, n2, q3⟩
theorem arW (hG : acQ G) (hC : G C.w0) (hΓ : Γ.ok P G) {call : abP} (hcall : CallSat P G call) {Q : Exit → Act → World → Prop} {K : Fi → Prop} {ρ : Nat → Nat} {σ : St} {a : Act} {w : World}
  (hs : SRel C ρ σ a w) (h : aEf P Γ call ops σ K) (hQ : ∀ a' w', Reach C σ ρ w (fun σ' => K (.go σ')) a' w' → Q .normal a' w') (hP : ∀ ch a' w', Reach C σ ρ w (fun σ' => K (.pan ch σ')) a' w' → Q (.panic ch) a' w') (rnd : Option Nat) :
  wpAnyIn (aa1 rnd) 0 P .any ops Q ops.size (Array.replicate ops.size false) a { w with drawn := w.drawn + 1 } := by
 unfold aEf at h
 simp only [ahU] at h
 split at h
 ·rename_i hc
  simp only [zn] at hc
  obtain ⟨⟨⟨hchk, hed⟩, htail⟩, hml⟩ := hc
  have hml := Nat.le_of_ble_eq_true hml
  obtain ⟨hmd, hextd⟩ := hs.m.grow (w' := w.drew) ((Below.refl _ _).drew)
  have hs' : SRel C ρ σ a w.drew := ⟨hmd, fun t => hextd.vr (hs.slots t), hs.size, hs.defers.mono hextd.data hextd.size⟩
  obtain ⟨σ', b, h1, h2, h3, h4, h5⟩ := aj9 _ 0 hs' h
  have hrep : ∀ i, (Array.replicate ops.size false).getD i false = false := by
   intro i
   rw [zo]
   by_cases hi : i < ops.size
   ·rw [yW, if_pos hi]; rfl
   ·rw [yW, if_neg hi]; rfl
  refine aGM hG hC hΓ hcall (l := ops.toList) rfl hed htail hml hchk (σ0 := σ) (ρ0 := ρ) (w0 := w) hQ hP rnd ops.size (Array.replicate ops.size false) _ _ _ 0 ze (fun j _ => hrep j) (fun j o _ hj => by have hj' : (Array.replicate ops.size false).getD j false = true := hj; rw [hrep] at hj'; cases hj') (fun i _ _ => by rw [hrep, Nat.zero_testBit]) (fun j hj => by rw [Nat.zero_testBit] at hj; cases hj) (by rw [Nat.or_zero]; exact zm _) h1 h2
   ⟨fun t ht => h3.tmps t ?_, h3.size, h3.defers⟩ (by rw [h4]; exact hextd.fr (n := σ.next) (fun j _ hj => hj)) (by rw [h5]; exact zm _) zc
  rintro ⟨j, o, g1, g2, g3⟩
  rw [zv] at g2
  have hjm : j < abW (abN ops.toList []) := by
   have := (zu.1 g1).1
   rw [zK] at this
   omega
  rw [zI, if_pos hjm] at g1
  exact ht ⟨j, o, hjm, g1, g2, hrep j, g3⟩
 ·exact h.elim
theorem aE4 (hG : acQ G) (hmix : P.follows .mixedOrders = true) (hΓ : Γ.ok P G) {call : abP} (hcall : CallSat P G call) {rd : Option Nat} {id : Nat} {σ : St} {Q : Exit → St → Prop}
  (h : aEf P Γ call ops σ (axX Q)) : Sat P G rd (.region id ops true) σ Q :=
 fun _ hC _ _ _ hs rnd _ => wpIn_region_any hmix (arW hG hC hΓ hcall hs h (fun _ _ hr => hr) (fun _ _ _ hr => hr) rnd)
end
open Go Go.RowKit
def aNt (P : Program) (op : BinOp) (xt : TypeId) (a b : AV) : Option (Bool × Bool) :=
 match a, b with
 | .d (.sl u) l, .nsl => match P.underlying xt with
  | some (.slice _) => match op with
   | .eql => some (List.isEmpty (α := u.T) l, true)
   | .neq => some (List.isEmpty (α := u.T) l, false)
   | _ => none
  | _ => none
 | _, _ => none
def aqD (P : Program) (H : Heap) (t : TypeId) (k off len : Nat) (lo hi mx : Option AV) : T AV :=
 match P.underlying t with
 | some (.slice e) => match H.find k, abF P e with
  | some (.row _ u l), some m => match Nat.beq m u.size && Nat.ble 1 u.size with
   | true => match lo, hi with
    | some lo, some hi => match mx with
     | some mx => (ad7 (some mx) len 0).bind fun c => (ad7 (some hi) c 0).bind fun h => (ad7 (some lo) h 0).bind fun _ => .ok .no
     | none => (ad7 (some hi) (List.length (α := u.T) l - off) (List.length (α := u.T) l - off)).bind fun h => (ad7 (some lo) h 0).bind fun j => .ok (.own k (off + j) (h - j))
    | _, _ => .bad
   | false => .bad
  | _, _ => .bad
 | _ => .bad
def aBO (P : Program) (σ : St) (dst : Option Nat) (t : TypeId) (x : AV) : T St :=
 match P.underlying t with
 | some (.slice e) => match x with
  | .own k off len => match σ.H.find k with
   | some (.row e' u l) => match P.info? e, ab1 P e with
    | some i, some zs => match pack u zs with
     | some (y, []) => match Nat.beq i.size u.size && Nat.beq zs.length u.size with
      | true => .ok (({ σ with H := σ.H.up k (.row e' u (over l off (List.replicate len y))) } : St).put dst (.tup []))
      | false => .bad
     | _ => .bad
    | _, _ => .bad
   | _ => .bad
  | _ => .bad
 | _ => .bad
def opM (P : Program) (Γ : Cons) (call : abP) (o : Oper) (σ : St) (K : Fi → Prop) : Prop :=
 match o.op with
 | .slice t x lo hi mx => match (σ.eval x).soft with
  | .own k off len => (aqD P σ.H t k off len (lo.map σ.eval) (hi.map σ.eval) (mx.map σ.eval)).holds fun r => K (.go (σ.put o.dst r))
  | _ => opS P Γ call o σ K
 | .binOp op xt x y _ => match aNt P op xt (σ.eval x).soft (σ.eval y).soft with
  | some (b, r) => aoK b (Both (K (.go (σ.put o.dst (.d .bool r)))) (K (.go (σ.put o.dst (.d .bool (!r)))))) (K (.go (σ.put o.dst (.d .bool (!r)))))
  | none => opS P Γ call o σ K
 | .call { callee := .builtin .clear, args, argTypes } => match args.toList, argTypes.toList with
  | [x], [t] => (aBO P σ o.dst t (σ.eval x).soft).holds fun σ' => K (.go σ')
  | _, _ => False
 | _ => opS P Γ call o σ K
def aI9 (P : Program) (Γ : Cons) (call : abP) : List Oper → St → (Fi → Prop) → Prop
 | [], σ, K => K (.go σ)
 | o :: rest, σ, K => match o.guard with
  | none => opM P Γ call o σ (aKS (fun σ' => aI9 P Γ call rest σ' K) K)
  | some _ => False
section
variable {C : Ctx} {ρ : Nat → Nat} {H : Heap} {w : World} {P : Program} {G : World → Prop}
theorem azU {xt e : TypeId} (hu : P.underlying xt = some (.slice e)) (a : Option Addr) (n c : Nat) : (Op.equal xt (.slice a n c) (.slice none 0 0)).run P w = .ok a.isNone w := by
 have h : ∀ d, (Op.equalIn (d + 1) xt (.slice a n c) (.slice none 0 0)).run P w = .ok a.isNone w := fun d => by cases a <;> simp [Op.equalIn, run_underlying hu]
 exact h 9999
theorem aD2 {op : BinOp} {xt : TypeId} {a b : AV} {c r : Bool} {vx vy : Value} (ox oy : Operand) (h : aNt P op xt a b = some (c, r)) (hx : VR C ρ H w a vx) (hy : VR C ρ H w b vy) :
  ∃ z : Bool, (eqGuard op xt ox oy vx vy).run P w = .ok () w ∧ (binOp op xt vx vy).run P w = .ok (.bool z) w ∧ (z = r ∨ z = !r) ∧ (c = false → z = !r) := by
 unfold aNt at h
 split at h
 case h_2 => cases h
 rename_i u l
 split at h
 case h_2 => cases h
 rename_i e hu
 obtain ⟨a', cap, e1, h4, h5, h6⟩ := hx.datum.scalar rfl
 injection e1 with e1 _
 subst e1
 cases hy
 have hq := azU (P := P) (w := w) hu a' (List.length (α := u.T) l) cap
 have hne : List.isEmpty (α := u.T) l = false → a'.isNone = false := by
  intro hl
  have hne : l ≠ [] := fun e => by rw [e] at hl; cases hl
  obtain ⟨b, o, c, e', fr, ha', _⟩ := h6.resolve_left hne
  rw [ha']; rfl
 split at h
 ·injection h with h
  injection h with h1 h2
  subst h1; subst h2
  refine ⟨a'.isNone, by simp [eqGuard], ?_, by cases a'.isNone <;> simp, fun hc => by rw [hne hc]; rfl⟩
  show (do pure (Value.bool (← Op.equal xt _ _)) : Sem Value).run P w = _
  simp [hq]
 ·injection h with h
  injection h with h1 h2
  subst h1; subst h2
  refine ⟨!a'.isNone, by simp [eqGuard], ?_, by cases a'.isNone <;> simp, fun hc => by rw [hne hc]⟩
  show (do pure (Value.bool (!(← Op.equal xt _ _))) : Sem Value).run P w = _
  simp [hq]
 ·cases h
theorem aqC {next : Nat} (hm : MRel C ρ H next w) {t : TypeId} {r : AV} {v : Value} {k off len : Nat} {lo hi mx : Option AV} {vlo vhi vmx : Option Value} (h : (aqD P H t k off len lo hi mx).Leaf r)
  (ha : VR C ρ H w (.own k off len) v) (h1 : OVR C ρ H w hi vhi) (h2 : OVR C ρ H w lo vlo) (h3 : OVR C ρ H w mx vmx) :
  ∃ v', (Instr.sliceAt t v vlo vhi vmx).run P w = .ok v' w ∧ VR C ρ H w r v' := by
 unfold aqD at h
 split at h
 case h_2 => cases h
 rename_i e hu
 split at h
 case h_2 => cases h
 rename_i e2 u l m hf hs
 split at h
 case h_2 => cases h
 rename_i hb
 simp only [zn] at hb
 have hb1 := aaE hb.1
 have hpos := Nat.le_of_ble_eq_true hb.2
 subst hb1
 split at h
 case h_2 => cases h
 rename_i lo hi
 cases vhi with
 | none => exact h1.elim
 | some vhi =>
 cases vlo with
 | none => exact h2.elim
 | some vlo =>
 cases ha with
 | own hk' hl hc hmx hbk hsz ha =>
 rename_i a' cap c fr
 split at h
 ·rename_i mx
  cases vmx with
  | none => exact h3.elim
  | some vmx =>
  obtain ⟨cc, hb0, h⟩ := T.Leaf.bind h
  obtain ⟨hh, hb1, h⟩ := T.Leaf.bind h
  obtain ⟨kk, hb2, h⟩ := T.Leaf.bind h
  cases h
  obtain ⟨hr, hle1, hle2, hle3⟩ := ai0 (P := P) (b := true) (len0 := len) (cap := cap) hc hb0 hb1 hb2 h3 h1 h2
  refine ⟨.slice (if cc = kk then a' else a'.map (fun (x : Addr) => x.add (kk * u.size))) (hh - kk) (cc - kk), ?_, .no⟩
  ·simp only [Instr.sliceAt, Sem.run_bind, run_underlying hu, Result.andThen_ok, Instr.slice, hr, aaU hs, Sem.run_pure]
 ·cases vmx with
  | some _ => exact h3.elim
  | none =>
  obtain ⟨hh, hb1, h⟩ := T.Leaf.bind h
  obtain ⟨j, hb2, h⟩ := T.Leaf.bind h
  cases h
  have hk := Heap.find_mem hf
  have hu' := Heap.mem_unique hm.nodup hk hk'
  injection hu' with hu1 hu2 hu3
  subst hu1; subst hu2
  have hu3 := eq_of_heq hu3
  subst hu3
  obtain ⟨c0, d1, d2, d3, d4, d5⟩ := hm.mem k _ hk
  rw [hbk] at d1
  injection d1 with d1
  injection d1 with d1 d1' d1''
  subst d1; subst d1''
  have hcapl : l.length ≤ off + cap := by
   rw [← hsz] at d2
   exact Nat.le_of_mul_le_mul_right d2 hpos
  have hlc : List.length (α := u.T) l - off ≤ cap := zc
  have hb1' : (ad7 (some hi) (List.length (α := u.T) l - off) (List.length (α := u.T) l - off)).Leaf hh := hb1
  obtain ⟨hr, hle1, hle2⟩ := acB (P := P) (b := true) (len := List.length (α := u.T) l - off) (cap := cap) hlc hb1' hb2 (show OVR C ρ H w (some hi) (some vhi) from h1) (show OVR C ρ H w (some lo) (some vlo) from h2)
  have hr' : (Instr.sliceBounds true len cap (some vlo) (some vhi) none).run P w = .ok (j, hh, cap) w := hr
  refine ⟨.slice (if cap = j then a' else Option.map (fun (x : Addr) => x.add (j * u.size)) a') (hh - j) (cap - j), ?_, ?_⟩
  ·simp only [Instr.sliceAt, Sem.run_bind, run_underlying hu, Result.andThen_ok, Instr.slice, hr', aaU hs, Sem.run_pure]
  ·refine .own hk zc zc zc hbk (by rw [← hsz]; congr 1; omega) ?_
   by_cases hcj : cap = j
   ·simp only [hcj, if_true]
    by_cases hj : j = 0
    ·subst hj
     rcases ha with ha | ⟨_, ha⟩
     ·left; rw [ha]; simp
     ·right; exact ⟨by omega, by omega⟩
    ·right; exact ⟨by omega, by omega⟩
   ·have ha' := ha.resolve_right (fun h => by omega)
    left
    rw [ha', if_neg hcj]
    simp [ag5, zR]
theorem aw5 {σ σ' : St} {a : Act} {dst : Option Nat} {t ty : TypeId} {x : AV} {vx : Value} (h : (aBO P σ dst t x).Leaf σ') (hs : SRel C ρ σ a w) (hvx : VR C ρ σ.H w x vx) :
  ∃ v w', (Builtin.clear_ #[t] ty #[vx]).run P w = .ok v w' ∧ SRel C ρ σ' (a.put dst v) w' ∧ Fr C σ.next ρ σ.H w ρ σ'.H w' ∧ σ'.next = σ.next := by
 have hm := hs.m
 unfold aBO at h
 split at h
 case h_2 => cases h
 rename_i e hu
 split at h
 case h_2 => cases h
 rename_i k off len
 split at h
 case h_2 => cases h
 rename_i e' u l hf
 split at h
 case h_2 => cases h
 rename_i i zs hi hz
 split at h
 case h_2 => cases h
 rename_i y hp
 split at h
 case h_2 => cases h
 rename_i hc
 simp only [zn] at hc
 obtain ⟨hc1, hc2⟩ := hc
 have hc1 := aaE hc1
 have hc2 := aaE hc2
 cases h
 have hk := Heap.find_mem hf
 cases hvx with
 | own hk' hl hcp hmx hb hsz ha =>
 rename_i ad cap c fr
 have hun := Heap.mem_unique hm.nodup hk hk'
 injection hun with hu1 hu2 hu3
 subst hu1; subst hu2
 have hu3 := eq_of_heq hu3
 subst hu3
 obtain ⟨c0, d1, d2, d3, d4, d5⟩ := hm.mem k _ hk
 rw [hb] at d1
 injection d1 with d1
 injection d1 with d1 d1' d1''
 subst d1; subst d1''
 have htup : ∀ {H : Heap} {w : World}, VR C ρ H w (.tup []) (.tuple #[]) := .tup .nil
 by_cases hm0 : len = 0
 ·subst hm0
  have hrun : (Builtin.clear_ #[t] ty #[.slice ad 0 cap]).run P w = .ok (.tuple #[]) w := by
   cases ad <;> simp [Builtin.clear_, run_underlying hu]
  have hov : over l off (List.replicate 0 y) = l := by simp [over]
  have hup : σ.H.up k (.row e' u (over l off (List.replicate 0 y))) = σ.H := by rw [hov]; exact aCb hm.nodup hk
  refine ⟨_, w, hrun, ?_, ?_, by rw [St.put_next]⟩
  ·simp only [hup]
   exact hs.put htup
  ·rw [St.put_H]
   simp only [hup]
   exact Fr.refl _ _ _ _ _
 ·have ha' := ha.resolve_right (fun h => by omega)
  subst ha'
  obtain ⟨z, hz1, hz2, hz3⟩ := ap1 hi hz
  obtain ⟨z', hz1', hzr, hz3'⟩ := acL (C := C) (ρ := ρ) (H := σ.H) (w := w) hz
  have hlz : z.cells.toList.length = u.size := zi
  have hzv : (zeroValue e).run P w = .ok z w := by simp [zeroValue, typeInfo, hi, hz1]
  have hzz : RdL (Rd (Ok C ρ σ.H w) w u) (List.replicate len y) (aa3 z.cells.toList len) := by
   have : z' = z := by
    rw [hz1'] at hzv
    injection hzv
   subst this
   obtain ⟨c1, c2, e1, hl, h2⟩ := adO _ _ _ _ _ hp hzr
   cases h2
   simp only [yF] at e1
   rw [e1]
   exact RdL.replicate hl len
  have hlf : (aa3 z.cells.toList len).length = len * u.size := by rw [adF, hlz]
  have hmulm : (off + len) * u.size ≤ l.length * u.size := zE _ hl
  rw [zR] at hmulm
  have hfit : off * u.size + (aa3 z.cells.toList len).length ≤ c.size := by rw [hlf]; omega
  have hone : ∀ v ∈ aa3 z.cells.toList len, v.oneCell' = true := by
   intro v hv
   exact ac2 (n := len) hz3 v (by rw [ahA]; exact hv)
  have hst := af0 (P := P) (vs := aa3 z.cells.toList len) hb (o := off * u.size) hfit hone
  have hrun : (Builtin.clear_ #[t] ty #[.slice (some ⟨ρ k, off * u.size, none⟩) len cap]).run P w = .ok (.tuple #[]) (w.setRow (ρ k) ⟨over c.toList (off * u.size) (aa3 z.cells.toList len)⟩) := by
   obtain ⟨n, rfl⟩ : ∃ n, len = n + 1 := ⟨len - 1, by omega⟩
   simp [Builtin.clear_, run_underlying hu, hzv, ahA, hst]
  have hrl : (List.replicate len y).length = len := zN
  have hovl : (over l off (List.replicate len y)).length = l.length := aaY _ _ _ (by rw [hrl]; omega)
  obtain ⟨hm', hext⟩ := hm.write (nb := .row e' u (over l off (List.replicate len y))) (c' := ⟨over c.toList (off * u.size) (aa3 z.cells.toList len)⟩) hk hb (by show c.size = (over c.toList _ _).length; rw [aaY _ _ _ (by simpa using hfit)]; simp)
   (by intro e1 t1 l1 hh; injection hh with h1 h2 h3; subst h1; subst h2; have h3 := eq_of_heq h3; subst h3; exact ⟨_, rfl, by rw [hovl]; exact zm _⟩)
   (fun H' w' he hh => by
    refine ⟨_, hh, by rw [hovl]; show l.length * _ ≤ (over c.toList _ _).length; rw [aaY _ _ _ (by simpa using hfit)]; simpa using d2, by rw [hovl]; exact d3, ?_, fun v hv => ?_⟩
    ·rw [hovl]
     show RdL _ _ ((over c.toList _ _).take _)
     rw [(ajO c.toList (l.length * u.size) (off * u.size) (aa3 z.cells.toList len) (by rw [hlf]; omega)).resolve_right zi]
     exact RdL.over (fun x cs => Rd.length u x cs) _ _ _ _ _ (RdL.mono (fun x cs => Rd.mono he.data u x cs) _ _ d4) (RdL.mono (fun x cs => Rd.mono he.data u x cs) _ _ hzz)
    ·rcases agW hv with hv | hv
     ·exact d5 v hv
     ·exact hone v hv)
  have hfr := hext.fr (n := σ.next) (fun j _ hj => by rwa [Heap.keys_up] at hj)
  exact ⟨_, _, hrun, (hs.frame hm' hfr (fun j hj => by rwa [Heap.keys_up])).put htup, by rw [St.put_H]; exact hfr, by rw [St.put_next]⟩
theorem aFz (hG : acQ G) (hC : G C.w0) {Γ : Cons} (hΓ : Γ.ok P G) {call : abP} (hcall : CallSat P G call) {ρ : Nat → Nat} {σ : St} {a : Act} {w : World} {o : Oper} {K : Fi → Prop} {nx : Act → World → Prop} {Q : Exit → Act → World → Prop}
  (hs : SRel C ρ σ a w) (h : opM P Γ call o σ K) (hnx : ∀ a' w', Reach C σ ρ w (fun σ' => K (.go σ')) a' w' → nx a' w') (hP : ∀ ch a' w', Reach C σ ρ w (fun σ' => K (.pan ch σ')) a' w' → Q (.panic ch) a' w') (rnd : Option Nat) : o.wpIn (aa1 rnd) 0 P a w nx Q := by
 unfold opM at h
 split at h
 ·rename_i t x lo hi mx ho
  split at h
  ·rename_i k off len hx
   obtain ⟨r, h1, h2⟩ := T.leaf h
   have hvx := (hs.eval x).soft
   rw [hx] at hvx
   obtain ⟨v, h3, h4⟩ := aqC hs.m h1 hvx (OVR.ofMap (fun x => hs.eval x) hi) (OVR.ofMap (fun x => hs.eval x) lo) (OVR.ofMap (fun x => hs.eval x) mx)
   refine aaX (by rw [ho]; intro c hc; cases hc) ?_
   unfold Oper.wp
   rw [show (execOp a.eval o).run P w = .ok (.value v) w by simp [execOp, ho, h3]]
   exact hnx _ _ ⟨ρ, _, h2, hs.put h4, by rw [St.put_H]; exact Fr.refl _ _ _ _ _, by rw [St.put_next]; exact zm _⟩
  ·exact ajP hG hC hΓ hcall hs h hnx hP rnd
 ·rename_i op xt x y g ho
  split at h
  ·rename_i b r hq
   obtain ⟨z, h1, h2, h3, h4⟩ := aD2 x y hq (hs.eval x).soft (hs.eval y).soft
   have fin : K (.go (σ.put o.dst (.d .bool z))) := by
    cases b with
    | true =>
     have h : Both _ _ := h
     rcases h3 with e | e
     ·rw [e]; exact h.l
     ·rw [e]; exact h.r
    | false => rw [h4 rfl]; exact h
   refine aaX (by rw [ho]; intro c hc; cases hc) ?_
   unfold Oper.wp
   rw [show (execOp a.eval o).run P w = .ok (.value (.bool z)) w by simp [execOp, ho, h1, h2]]
   exact hnx _ _ ⟨ρ, _, fin, hs.put acA, by rw [St.put_H]; exact Fr.refl _ _ _ _ _, by rw [St.put_next]; exact zm _⟩
  ·exact ajP hG hC hΓ hcall hs h hnx hP rnd
 ·rename_i args ts ho
  split at h
  ·rename_i x t hargs hts
   obtain ⟨σ', h1, h2⟩ := T.leaf h
   have e1 : args.map a.eval = #[a.eval x] := by apply Array.ext'; simp [hargs]
   have e2 : ts = #[t] := by apply Array.ext'; simp [hts]
   obtain ⟨v, w', h3, h4, h5, h6⟩ := aw5 (ty := o.type) h1 hs (hs.eval x).soft
   refine aaX (by rw [ho]; intro c hc; cases hc) ?_
   unfold Oper.wp
   rw [show (execOp a.eval o).run P w = .ok (.value v) w' by subst e2; simp [execOp, ho, resolve, invoke, builtin, e1, h3]]
   exact hnx _ _ ⟨ρ, _, h2, h4, h5, by rw [h6]; exact zm _⟩
  ·exact h.elim
 ·exact ajP hG hC hΓ hcall hs h hnx hP rnd
theorem arV (hG : acQ G) (hC : G C.w0) {Γ : Cons} (hΓ : Γ.ok P G) {call : abP} (hcall : CallSat P G call) {ops : Array Oper} {Q : Exit → Act → World → Prop} {K : Fi → Prop} :
  ∀ (l : List Oper) {ρ : Nat → Nat} {σ : St} {a : Act} {w : World}, SRel C ρ σ a w → aI9 P Γ call l σ K → (∀ a' w', Reach C σ ρ w (fun σ' => K (.go σ')) a' w' → Q .normal a' w') → (∀ ch a' w', Reach C σ ρ w (fun σ' => K (.pan ch σ')) a' w' → Q (.panic ch) a' w') → ∀ rnd : Option Nat, wpListIn (aa1 rnd) 0 P ops Q l a w
 | [], ρ, σ, a, w, hs, h, hQ, hP, rnd => wpListIn_nil (hQ a w ⟨ρ, σ, h, hs, Fr.refl _ _ _ _ _, zm _⟩)
 | o :: rest, ρ, σ, a, w, hs, h, hQ, hP, rnd => by
  unfold wpListIn
  simp only [aI9] at h
  split at h
  ·rename_i hg
   rw [if_pos (by simp [Region.wanted, hg])]
   refine aFz hG hC hΓ hcall hs h ?_ hP rnd
   rintro a' w' ⟨ρ', σ', h2, h3, h4, h5⟩
   exact arV hG hC hΓ hcall rest h3 h2 (fun a'' w'' hr => hQ a'' w'' (hr.trans h4 h5)) (fun ch a'' w'' hr => hP ch a'' w'' (hr.trans h4 h5)) rnd
  ·exact h.elim
end
end Go.Vg
