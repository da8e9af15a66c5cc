/-
  An evaluator of Go code over plain data, proved sound against the model. Own work; no condition.
-/
import Derived.Test.YtgibnaibdcbmmaaGreatDoorClE4
set_option linter.unusedVariables false
set_option linter.unusedSimpArgs false
namespace Go.Vg
open Go Go.RowKit
def axM (o : Oper) : Option Operand :=
 match o.op, o.guard with
 | .defer { callee := .value f, args, .. }, none => match args.toList with
  | [] => some f
  | _ => none
 | _, _ => none
def aEC : List Oper → Option (Oper × Operand)
 | [] => none
 | [o] => match axM o with
  | some f => some (o, f)
  | none => none
 | _ :: r => aEC r
structure DefB where
 p : Nat
 ops0 : Array Oper
 ops1 : Array Oper
 o : Oper
 f : Operand
 rest : Code
def aCI (p : Nat) (ops0 : Array Oper) : Code → Option DefB
 | .seq (.region _ ops1 false) r => match aEC ops1.toList with
  | some x => some ⟨p, ops0, ops1, x.1, x.2, r⟩
  | none => none
 | _ => none
def akX : Code → Option DefB
 | .seq (.region _ ops0 false) (.scope c) => aCI 13 ops0 c
 | .seq (.region _ ops0 false) c => aCI 7 ops0 c
 | _ => none
structure ClosB where
 gn : Func
 ops : Array Oper
 o : Oper
 rest : List Oper
 B : Code
def anH : List Oper → Bool
 | [] => true
 | o :: r => agS o && anH r
def aDr (P : Program) (g : FuncId) : Option ClosB :=
 match P.funcs[g]? with
 | some gn => match gn.body with
  | some (.seq (.region _ ops false) B) => match ops.toList with
   | o :: r => match ahY o && anH r && Nat.beq gn.results.size 0 && acL P g with
    | true => some ⟨gn, ops, o, r, B⟩
    | false => none
   | [] => none
  | _ => none
 | none => none
def aMY (A : St → Prop) : Fi → Prop
 | .go σ => A σ
 | .pan _ _ => False
def apM (Y : aAS) (P : Program) (Γ : Cons) (call : abP) (g : FuncId) (caps : List AV) (Q : Exit → St → Prop) (x : AV) (σ : St) : Prop :=
 match aDr P g with
 | some c => Nat.ble caps.length c.gn.ntmps = true ∧
   aa8 P Γ call c.ops c.rest (({ slots := ab9 0 (AV.maps (abL σ.H) aeM caps), H := σ.H, next := σ.next + 1, n := c.gn.ntmps } : St).put c.o.dst x)
    (aNl Y σ.next c.B fun H' n' => Q .ret { slots := aa7 (abL H') aeM σ.slots, H := H', next := n', n := σ.n })
 | none => False
def aHe (Y : aAS) (P : Program) (Γ : Cons) (call : abP) (g : FuncId) (caps : List AV) (Q : Exit → St → Prop) : Exit → St → Prop
 | .normal, σ => apM Y P Γ call g caps Q .nili σ
 | .ret, σ => apM Y P Γ call g caps Q .nili σ
 | .panic ch, σ => am1 ch fun x => apM Y P Γ call g caps Q x σ
 | _, _ => False
abbrev aIp := Nat → Code → St → (Exit → St → Prop) → Prop
def aDN (X : aIp) (Y : aAS) (P : Program) (Γ : Cons) (call : abP) (d : DefB) (Q : Exit → St → Prop) (σ : St) : Prop :=
 match σ.eval d.f with
 | .fn g [] caps => X d.p d.rest (σ.put d.o.dst .und) (aHe Y P Γ call g caps Q)
 | _ => False
def aLZ (X : aIp) (Y : aAS) (P : Program) (Γ : Cons) (call : abP) (d : DefB) (σ : St) (Q : Exit → St → Prop) : Prop :=
 aa8 P Γ call d.ops0 d.ops0.toList σ (aMY fun σ => aa8 P Γ call d.ops1 d.ops1.toList.dropLast σ (aMY (aDN X Y P Γ call d Q)))
def aL0 (P : Program) (G : World → Prop) (Γ : Cons) (call : abP) (c : Code) (σ : St) (Q : Exit → St → Prop) : Prop :=
 exec P G Γ call none c σ Q ∨ ∃ d, akX c = some d ∧ aLZ (fun _ => exec P G Γ call none) (fun l => exec P G Γ call (some l)) P Γ call d σ Q
def aAF (XB : FuncId → Code → St → (Exit → St → Prop) → Prop) (XL : Nat → aIp) (P : Program) : abP := fun t args H next K => match t with
 | .fn f => match P.funcs[f]? with
  | some fn => match fn.body with
   | some code => acL P f = true ∧ Nat.ble args.length fn.ntmps = true ∧
     XB f code { slots := ab9 0 args, H := H, next := next, n := fn.ntmps } (aIu P fn (aJ4 K) (aNo K))
   | none => False
  | none => False
 | .yld l => match H.find l with
  | some (.loop r) => match Nat.beq args.length r.ps.size with
   | true => XL l 2 r.assign (ao1 { slots := r.slots, H := H, next := next, n := r.n } r.ps.toList args)
     (aMb l fun σ => XL l 3 r.body σ (aNL l K))
   | false => False
  | _ => False
def aCp (P : Program) (G : World → Prop) (Γ : Cons) (call : abP) : abP :=
 aAF (fun _ => aL0 P G Γ call) (fun l _ => exec P G Γ call (some l)) P
section
variable {C : Ctx} {P : Program} {G : World → Prop}
theorem Fr.wh {ρ ρ' : Nat → Nat} {H H' : Heap} {w w' : World} {m n : Nat} {hn : C.w0.heap.size ≤ n} {us : List Deferred} {ms : Option (List Nat)} (h : Fr (C.wh n hn us ms) m ρ H w ρ' H' w') : Fr C m ρ H w ρ' H' w' :=
 ⟨h.data, h.keys, h.rows, h.size⟩
theorem VR.un {ρ : Nat → Nat} {H : Heap} {w : World} {n : Nat} {hn : C.w0.heap.size ≤ n} {us : List Deferred} {ms : Option (List Nat)} {x : AV} {v : Value} (h : VR (C.wh n hn us ms) ρ H w x v) : VR C ρ H w x v :=
 VR.wh (C := C.wh n hn us ms) (n := C.lo) (hn := C.hlo) (us := C.us) (ms := C.mks) h
theorem VRs.un {ρ : Nat → Nat} {H : Heap} {w : World} {n : Nat} {hn : C.w0.heap.size ≤ n} {us : List Deferred} {ms : Option (List Nat)} {xs : List AV} {vs : List Value} (h : VRs (C.wh n hn us ms) ρ H w xs vs) : VRs C ρ H w xs vs :=
 VRs.wh (C := C.wh n hn us ms) (n := C.lo) (hn := C.hlo) (us := C.us) (ms := C.mks) h
theorem MRel.un {ρ : Nat → Nat} {H : Heap} {next : Nat} {w : World} {n : Nat} {hn : C.w0.heap.size ≤ n} {us : List Deferred} {ms : Option (List Nat)} (h : MRel (C.wh n hn us ms) ρ H next w) : MRel C ρ H next w :=
 MRel.wh (C := C.wh n hn us ms) (n := C.lo) (hn := C.hlo) (us := C.us) (ms := C.mks) h
theorem Fr.shut {ρ ρ' : Nat → Nat} {H H' : Heap} {w w' w'' : World} {n : Nat} (h : Fr C n ρ H w ρ' H' w') (h1 : ∀ b, b < w.heap.size → w''.heap[b]? = w'.heap[b]?) (h2 : ∀ k ∈ H'.keys, w''.heap[ρ' k]? = w'.heap[ρ' k]?) (h3 : w''.heap.size = w'.heap.size) : Fr C n ρ H w ρ' H' w'' := by
 refine ⟨fun b hb => ?_, h.keys, fun k e t l hk hk1 hk2 => ?_, by rw [h3]; exact h.size⟩
 ·obtain ⟨g1, g2⟩ := h.data b hb
  exact ⟨⟨g1.1, by rw [h3]; exact g1.2.1, g1.2.2⟩, (h1 b hb.2.1).trans g2⟩
 ·obtain ⟨l', g1, g2, g3⟩ := h.rows k e t l hk hk1 hk2
  refine ⟨l', g1, g2, fun c fr hc => ?_⟩
  obtain ⟨c', fr', g4, g5⟩ := g3 c fr hc
  exact ⟨c', fr', by rw [← (h.keys k hk hk2).2, h2 k hk2, (h.keys k hk hk2).2]; exact g4, g5⟩
theorem Fr.vr {ρ ρ' : Nat → Nat} {H H' : Heap} {next next' : Nat} {w w' : World} (hm : MRel C ρ H next' w) (hn : next' ≤ next) (h : Fr C next ρ H w ρ' H' w') {x : AV} {v : Value} (hx : VR C ρ H w x v) : VR C ρ' H' w' (x.map (abL H') aeM) v :=
 VR.map h.data (fun k hk hp => ⟨hasKey_iff.1 hp, (h.keys k (yh (hm.lt k hk) hn) (hasKey_iff.1 hp)).2⟩) (fun k e t l hk hp => h.rows k e t l (yh (hm.lt k (aaH hk)) hn) hk (hasKey_iff.1 hp)) (fun _ _ _ _ _ _ => .no) hx
def aKe (C : Ctx) (σ : St) (ρ : Nat → Nat) (w : World) (Kr : List AV → St → Prop) (Kp : List PanicEntry → St → Prop) (e : Ending) (w' : World) : Prop :=
 (∃ ρ' σ' l vs, Kr l σ' ∧ MRel C ρ' σ'.H σ'.next w' ∧ VRs C ρ' σ'.H w' l vs ∧ Fr C σ.next ρ σ.H w ρ' σ'.H w' ∧ σ.next ≤ σ'.next ∧ e = .returned (aIZ vs)) ∨
 ∃ ρ' σ' ch, Kp ch σ' ∧ MRel C ρ' σ'.H σ'.next w' ∧ Fr C σ.next ρ σ.H w ρ' σ'.H w' ∧ σ.next ≤ σ'.next ∧ e = .panicked ch
def aNR (P : Program) (G : World → Prop) (fn : Func) (code : Code) (σ : St) (Kr : List AV → St → Prop) (Kp : List PanicEntry → St → Prop) : Prop :=
 ∀ (C : Ctx), G C.w0 → ∀ (ρ : Nat → Nat) (a : Act) (w : World), SRel C ρ σ a w → C.us = [] → C.mks = none → C.lo = w.heap.size → a.defers = [] →
  code.wpIn (aa1 none) 0 P (bodyPostM (aa1 none) 0 P fn (aKe C σ ρ w Kr Kp)) a w
theorem avW {fn : Func} {code : Code} {σ : St} {Kr : List AV → St → Prop} {Kp : List PanicEntry → St → Prop}
  (h : Sat P G none code σ (aIu P fn Kr Kp)) (hC : G C.w0) {ρ : Nat → Nat} {a : Act} {w : World} (hs : SRel C ρ σ a w) (hu : C.us = []) (hmk : C.mks = none) (hlo : C.lo = w.heap.size) :
  code.wpIn (aa1 none) 0 P (bodyPostM (aa1 none) 0 P fn (aKe C σ ρ w Kr Kp)) a w := by
 refine wpIn_mono (h C hC ρ a w hs none ⟨rfl, hmk⟩) ?_
 rintro e a' w' ⟨ρ', σ', h1, h2, h3, h4⟩
 have fin : (aIv P σ' fn.results.toList).holds (fun l => Kr l σ') → LeavesInM (aa1 none) 0 P fn a'.tmps (aKe C σ ρ w Kr Kp) a'.defers .returning w' := fun hh =>
  aLB hu hmk h2 hh (fun l us w'' k1 k2 k3 k4 k5 k6 => Or.inl ⟨ρ', σ', l, us, k1, k2, k3, h3.shut (by rw [hlo] at k4; exact k4) k5 k6, h4, rfl⟩)
 have finP : ∀ ch, Kp ch σ' → LeavesInM (aa1 none) 0 P fn a'.tmps (aKe C σ ρ w Kr Kp) a'.defers (.panicking ch) w' := by
  intro ch hk
  obtain ⟨hlo', ds, e1, e2, e3, -⟩ := h2.defers
  rw [e1, hu]
  show LeavesInM _ _ _ _ _ _ (_ ++ []) _ _
  refine aiN zf ds w' h2.m e2 e3 (fun w'' k2 k3 k4 k5 k6 => ?_)
  exact Or.inr ⟨ρ', σ', ch, hk, k2, h3.shut (by rw [hlo] at k4; exact k4) k5 k6, h4, rfl⟩
 cases e with
 | normal => exact fin h1
 | ret => exact fin h1
 | panic ch => exact finP ch h1
 | _ => exact h1.elim
theorem avK : ∀ {l : List Oper} {o : Oper} {f : Operand}, aEC l = some (o, f) → l = l.dropLast ++ [o] ∧ axM o = some f
 | [], _, _, h => by cases h
 | [x], o, f, h => by
  simp only [aEC] at h
  split at h
  ·rename_i f' hf
   injection h with h; injection h with h1 h2; subst h1; subst h2
   exact ⟨rfl, hf⟩
  ·cases h
 | x :: y :: r, o, f, h => by
  obtain ⟨h1, h2⟩ := avK (l := y :: r) h
  refine ⟨?_, h2⟩
  rw [List.dropLast_cons_cons, xu, ← h1]
theorem aAr {o : Oper} {f : Operand} (h : axM o = some f) : (∃ ts, o.op = .defer { callee := .value f, args := #[], argTypes := ts }) ∧ o.guard = none := by
 unfold axM at h
 split at h
 ·rename_i f' args ts ho hg
  split at h
  ·rename_i ha
   injection h with h; subst h
   have : args = #[] := by apply Array.ext'; exact ha
   subst this
   exact ⟨⟨_, ho⟩, hg⟩
  ·cases h
 ·cases h
theorem aqS {p : Nat} {ops0 : Array Oper} {c : Code} {d : DefB} (h : aCI p ops0 c = some d) : d.ops0 = ops0 ∧ (∃ i, c = .seq (.region i d.ops1 false) d.rest) ∧ aEC d.ops1.toList = some (d.o, d.f) := by
 unfold aCI at h
 split at h
 ·split at h
  ·rename_i x hx
   injection h with h; subst h
   exact ⟨rfl, ⟨_, rfl⟩, hx⟩
  ·cases h
 ·cases h
theorem axN {c : Code} {d : DefB} (h : akX c = some d) : aEC d.ops1.toList = some (d.o, d.f) ∧ ∃ i j, c = .seq (.region i d.ops0 false) (.scope (.seq (.region j d.ops1 false) d.rest)) ∨ c = .seq (.region i d.ops0 false) (.seq (.region j d.ops1 false) d.rest) := by
 unfold akX at h
 split at h
 ·obtain ⟨rfl, ⟨i, rfl⟩, h3⟩ := aqS h
  exact ⟨h3, _, _, Or.inl rfl⟩
 ·obtain ⟨rfl, ⟨i, rfl⟩, h3⟩ := aqS h
  exact ⟨h3, _, _, Or.inr rfl⟩
 ·cases h
theorem aCj {g : FuncId} {c : ClosB} (h : aDr P g = some c) : P.funcs[g]? = some c.gn ∧ (∃ id, c.gn.body = some (.seq (.region id c.ops false) c.B)) ∧ c.ops.toList[0]? = some c.o ∧ c.ops.toList.drop 1 = c.rest ∧ ahY c.o = true ∧ (∀ x ∈ c.rest, agS x = true) ∧ c.gn.results = #[] ∧ acL P g = true := by
 unfold aDr at h
 split at h
 ·rename_i gn hg
  split at h
  ·rename_i id ops B hb
   split at h
   ·rename_i o r hl
    split at h
    ·rename_i hc
     injection h with h; subst h
     simp only [zn] at hc
     have hall : ∀ (l : List Oper), anH l = true → ∀ x ∈ l, agS x = true := by
      intro l
      induction l with
      | nil => intro _ x hx; cases hx
      | cons y r ih =>
       intro h x hx
       simp only [anH, zn] at h
       rcases zp.1 hx with rfl | hx
       ·exact h.1
       ·exact ih h.2 x hx
     refine ⟨hg, ⟨id, hb⟩, by simp [hl], by simp [hl], hc.1.1.1, hall _ hc.1.1.2, ?_, hc.2⟩
     exact Array.eq_empty_of_size_eq_zero (aaE hc.1.2)
    ·cases h
   ·cases h
  ·cases h
 ·cases h
theorem arV (p : Nat → Bool) (f : Nat → Nat → Nat → AV) : ∀ l : List AV, (AV.maps p f l).length = l.length
 | [] => rfl
 | _ :: r => congrArg Nat.succ (arV p f r)
theorem amB (hG : acS G) {Γ : Cons} (hΓ : Γ.ok P G) {call : abP} (hcall : CallSat P G call) {Y : aAS} (hY : ∀ l c σ Q, Y l c σ Q → Sat P G (some l) c σ Q) {fn : Func} {σ0 σ1 σ : St} {Kr : List AV → St → Prop} {Kp : List PanicEntry → St → Prop} {g : FuncId} {caps : List AV} {vc : List Value} {x : AV} {v : Value} {u u' : FrameMode}
  (hrec : Rec u v u') (hu : u ≠ .run) (hset : settle u' = .returning) (hC : G C.w0) {ρ0 ρ1 ρ : Nat → Nat} {a : Act} {w0 w1 w : World} (hlo : C.lo = w0.heap.size)
  (hm1 : MRel C ρ1 σ1.H σ1.next w1) (hcaps : VRs C ρ1 σ1.H w1 caps vc) (hf0 : Fr C σ0.next ρ0 σ0.H w0 ρ1 σ1.H w1) (hn0 : σ0.next ≤ σ1.next) (hf1 : Fr C σ1.next ρ1 σ1.H w1 ρ σ.H w) (hn1 : σ1.next ≤ σ.next)
  (hs : SRel (C.wh C.lo C.hlo [auB g vc] none) ρ σ a w) (hx : ∀ w', VR C ρ σ.H w' x v) (h : apM Y P Γ call g caps (aIu P fn Kr Kp) x σ) :
  LeavesInM (aa1 none) 0 P fn a.tmps (aKe C σ0 ρ0 w0 Kr Kp) a.defers u w := by
 unfold apM at h
 split at h
 case h_2 => exact h.elim
 rename_i c hc
 obtain ⟨g1, ⟨id, g2⟩, g3, g4, g5, g6, g7, g8⟩ := aCj hc
 obtain ⟨hble, hex⟩ := h
 obtain ⟨hlo', ds, e1, e2, e3, -⟩ := hs.defers
 rw [e1]
 show LeavesInM _ _ _ _ _ _ (_ ++ [auB g vc]) _ _
 refine aiN hu ds w hs.m e2 e3 (fun w2 k2 k3 k4 k5 k6 => ?_)
 have hcap2 : VRs C ρ σ.H w2 (AV.maps (abL σ.H) aeM caps) vc := VRs.map (fun y u hy => (k3 _ _ (Fr.vr hm1 (zm _) hf1 hy).wh).un) hcaps
 rw [← g4] at hex
 refine at9 hu g8 (aET (C := C) (u := u) (u' := u') hG hC hΓ hcall hY g1 g2 g3 g5 (by rw [g4]; exact g6) g7 k2.un hcap2 (by rw [arV]; exact hble) hrec (hx w2) hex) ?_
 rintro w3 ⟨ρ3, H3, n3, hK, hm3, hf3, hn3⟩
 rw [hset]
 have hf01 : Fr C σ0.next ρ0 σ0.H w0 ρ σ.H w := hf0.trans hn0 hf1
 have hf2 : Fr C σ0.next ρ0 σ0.H w0 ρ σ.H w2 := hf01.shut (fun b hb => k4 b (by show b < C.lo; rw [hlo]; exact hb)) k5 k6
 have hf3' : Fr C σ0.next ρ0 σ0.H w0 ρ3 H3 w3 := hf2.trans (zF hn0 hn1) hf3
 have hle : C.lo ≤ w3.heap.size := by rw [hlo]; exact hf3'.size
 have hs3 : SRel (C.wh C.lo C.hlo [] none) ρ3 { slots := aa7 (abL H3) aeM σ.slots, H := H3, next := n3, n := σ.n } { a with defers := [] } w3 :=
  ⟨hm3.wh, fun t => by rw [am5]; exact (Fr.vr k2.un (zm _) hf3 (k3 _ _ (hs.slots t)).un).wh, hs.size, Dfs.nil hle rfl rfl⟩
 obtain ⟨l, hl1, hl2⟩ := T.leaf (show (aIv P _ fn.results.toList).holds _ from hK)
 obtain ⟨us, q1, q2⟩ := akJ (P := P) hs3 _ _ hl1
 exact ⟨_, aqY q1, Or.inl ⟨ρ3, _, l, us, hl2, hm3, q2.un, hf3', zF hn0 (zF hn1 hn3), rfl⟩⟩
theorem avX (hG : acS G) {Γ : Cons} (hΓ : Γ.ok P G) {call : abP} (hcall : CallSat P G call) {X : aIp} (hX : ∀ p c σ Q, X p c σ Q → Sat P G none c σ Q) {Y : aAS} (hY : ∀ l c σ Q, Y l c σ Q → Sat P G (some l) c σ Q) {fn : Func} {code : Code} {d : DefB} (hd : akX code = some d) {σ : St} {Kr : List AV → St → Prop} {Kp : List PanicEntry → St → Prop}
  (h : aLZ X Y P Γ call d σ (aIu P fn Kr Kp)) (hC : G C.w0) {ρ : Nat → Nat} {a : Act} {w : World} (hs : SRel C ρ σ a w) (hlo : C.lo = w.heap.size) (hds : a.defers = []) :
  code.wpIn (aa1 none) 0 P (bodyPostM (aa1 none) 0 P fn (aKe C σ ρ w Kr Kp)) a w := by
 obtain ⟨hlast, i, j, hcode⟩ := axN hd
 obtain ⟨hl, hdo⟩ := avK hlast
 obtain ⟨⟨ts, ho⟩, hg⟩ := aAr hdo
 have hs0 : SRel (C.wh C.lo C.hlo [] (some [])) ρ σ a w := ⟨hs.m.wh, fun t => (hs.slots t).wh, hs.size, by show C.lo ≤ _; rw [hlo]; exact zm _, [], by rw [hds]; rfl, xc, fun _ h => (by cases h), fun x hx => Option.some.inj hx⟩
 have main : ∀ (ρ1 : Nat → Nat) (σ1 : St) (a1 : Act) (w1 : World), aa8 P Γ call d.ops1 d.ops1.toList.dropLast σ1 (aMY (aDN X Y P Γ call d (aIu P fn Kr Kp))) → SRel (C.wh C.lo C.hlo [] (some [])) ρ1 σ1 a1 w1 → Fr C σ.next ρ σ.H w ρ1 σ1.H w1 → σ.next ≤ σ1.next →
   (Code.seq (.region j d.ops1 false) d.rest).wpIn (aa1 none) 0 P (aK0 (bodyPostM (aa1 none) 0 P fn (aKe C σ ρ w Kr Kp))) a1 w1 := by
  intro ρ1 σ1 a1 w1 hx hs1 hf1 hn1
  refine wpIn_seq (wpIn_region_list ?_)
  rw [hl]
  refine amA _ _ _ (ac3 (C := C.wh C.lo C.hlo [] (some [])) hG hC hΓ hcall _ hs1 hx (fun a2 w2 hr => ?_) (fun ch a2 w2 hr => ?_) none)
  ·obtain ⟨ρ2, σ2, hq, hs2, hf2, hn2⟩ := hr
   simp only [aMY, aDN] at hq
   split at hq
   case h_2 => exact hq.elim
   rename_i g caps hfv
   have hev := hs2.eval d.f
   rw [hfv] at hev
   generalize hvf : a2.eval d.f = vf at hev
   cases hev with
   | @fn _ _ _ vff vc hh1 hh2 =>
    cases hh1
    refine aEy ho hg hvf ?_
    have hd2 : a2.defers = [] := by
     obtain ⟨-, ds, e1, -, -, e2⟩ := hs2.defers
     have : ds = [] := e2 [] rfl
     subst this
     exact e1
    have hlo2 : C.lo ≤ w2.heap.size := hs2.defers.1
    have hs3 : SRel (C.wh C.lo C.hlo [auB g vc] none) ρ2 σ2 { a2 with defers := auB g vc :: a2.defers } w2 :=
     ⟨hs2.m.un.wh, fun t => (hs2.slots t).un.wh, hs2.size, hlo2, [], by rw [hd2]; rfl, xc, fun _ h => (by cases h), fun x hx => (by cases hx)⟩
    have hs4 := hs3.put (dst := d.o.dst) .und
    have hf12 : Fr C σ.next ρ σ.H w ρ2 (σ2.put d.o.dst .und).H w2 := by rw [St.put_H]; exact hf1.trans hn1 hf2.wh
    have hn12 : σ.next ≤ (σ2.put d.o.dst .und).next := by rw [St.put_next]; exact zF hn1 hn2
    refine wpIn_mono (hX _ _ _ _ hq (C.wh C.lo C.hlo [auB g vc] none) hC ρ2 _ w2 hs4 none ⟨rfl, rfl⟩) ?_
    rintro e a3 w3 ⟨ρ3, σ3, h3, h4, h5, h6⟩
    have hm1 : MRel C ρ2 (σ2.put d.o.dst .und).H (σ2.put d.o.dst .und).next w2 := hs4.m.un
    have hcp : VRs C ρ2 (σ2.put d.o.dst .und).H w2 caps vc := by rw [St.put_H]; exact hh2.un
    cases e with
    | normal => exact amB hG hΓ hcall hY .none zf rfl hC hlo hm1 hcp hf12 hn12 h5.wh h6 h4 (fun _ => .nili) h3
    | ret => exact amB hG hΓ hcall hY .none zf rfl hC hlo hm1 hcp hf12 hn12 h5.wh h6 h4 (fun _ => .nili) h3
    | panic ch =>
     ·simp only [aHe] at h3
      obtain ⟨x, hx, h7⟩ := arL h3
      clear h3
      obtain ⟨v, rfl, -⟩ := au3 (C := C) (ρ := ρ3) (H := σ3.H) (w := w3) hx
      refine amB hG hΓ hcall hY (.some v []) zf rfl hC hlo hm1 hcp hf12 hn12 h5.wh h6 h4 (fun w' => ?_) h7
      obtain ⟨v', e', hv'⟩ := au3 (C := C) (ρ := ρ3) (H := σ3.H) (w := w') hx
      injection e' with e' _
      injection e' with e' _
      rw [e']
      exact hv'
    | _ => exact h3.elim
  ·obtain ⟨_, _, hq, _⟩ := hr
   exact hq.elim
 have first : (∀ {B : Code}, (∀ (ρ1 : Nat → Nat) (σ1 : St) (a1 : Act) (w1 : World), aa8 P Γ call d.ops1 d.ops1.toList.dropLast σ1 (aMY (aDN X Y P Γ call d (aIu P fn Kr Kp))) → SRel (C.wh C.lo C.hlo [] (some [])) ρ1 σ1 a1 w1 → Fr C σ.next ρ σ.H w ρ1 σ1.H w1 → σ.next ≤ σ1.next →
   B.wpIn (aa1 none) 0 P (bodyPostM (aa1 none) 0 P fn (aKe C σ ρ w Kr Kp)) a1 w1) → (Code.seq (.region i d.ops0 false) B).wpIn (aa1 none) 0 P (bodyPostM (aa1 none) 0 P fn (aKe C σ ρ w Kr Kp)) a w) := by
  intro B hB
  refine wpIn_seq (wpIn_region_list (ac3 (C := C.wh C.lo C.hlo [] (some [])) hG hC hΓ hcall _ hs0 h (fun a1 w1 hr => ?_) (fun ch a1 w1 hr => ?_) none))
  ·obtain ⟨ρ1, σ1, hq, hs1, hf1, hn1⟩ := hr
   exact hB ρ1 σ1 a1 w1 hq hs1 hf1.wh hn1
  ·obtain ⟨_, _, hq, _⟩ := hr
   exact hq.elim
 rcases hcode with rfl | rfl
 ·exact first fun ρ1 σ1 a1 w1 h1 h2 h3 h4 => anN (main ρ1 σ1 a1 w1 h1 h2 h3 h4)
 ·refine first fun ρ1 σ1 a1 w1 h1 h2 h3 h4 => wpIn_mono (main ρ1 σ1 a1 w1 h1 h2 h3 h4) ?_
  intro e a2 w2 hq
  cases e <;> first | exact hq | exact hq.elim
theorem avV (hG : acS G) (hmix : P.follows .mixedOrders = true) {Γ : Cons} (hΓ : Γ.ok P G) {call : abP} (hcall : CallSat P G call) {fn : Func} {code : Code} {σ : St} {Kr : List AV → St → Prop} {Kp : List PanicEntry → St → Prop}
  (h : aL0 P G Γ call code σ (aIu P fn Kr Kp)) : aNR P G fn code σ Kr Kp := by
 intro C hC ρ a w hs hu hmk hlo hds
 rcases h with h | ⟨d, hd, h⟩
 ·exact avW (ab4 hG hmix hΓ hcall code _ _ h) hC hs hu hmk hlo
 ·exact avX hG hΓ hcall (fun _ c σ Q => ab4 hG hmix hΓ hcall c σ Q) (fun _ c σ Q => ab4 hG hmix hΓ hcall c σ Q) hd h hC hs hlo hds
theorem aAE {XB : FuncId → Code → St → (Exit → St → Prop) → Prop} {XL : Nat → aIp} (hB : ∀ f fn code σ Kr Kp, XB f code σ (aIu P fn Kr Kp) → aNR P G fn code σ Kr Kp) (hL : ∀ l q c σ Q, XL l q c σ Q → Sat P G (some l) c σ Q) : CallSat P G (aAF XB XL P) := by
  refine ⟨fun f args H next K h C ρ w vs hC hm hv => ?_, fun l args H next K h C ρ w vs hC hm hv => ?_⟩
  ·simp only [aAF] at h
   split at h
   ·rename_i fn hf
    split at h
    ·rename_i code hb
     obtain ⟨he, hle, hex⟩ := h
     have hw0 : C.w0.heap.size ≤ w.heap.size := hm.below.size
     refine ⟨he, (callsIn_wideR (r := none) (n := 0)).1 (CallsIn.mono (callsIn_of_wp_marks (F := aa1 none) (n := 0) hf hb trivial (hB _ _ _ _ _ _ hex (C.at w.heap.size hw0) hC _ _ _ (asF rfl rfl hm.at (zm _) hv.at (Nat.le_of_ble_eq_true hle)) rfl rfl rfl rfl)) ?_)⟩
     rintro e w' (⟨ρ', σ', l, us, k1, k2, k3, k4, k5, rfl⟩ | ⟨ρ', σ', ch, k1, k2, k4, k5, rfl⟩)
     ·unfold aJ4 at k1
      split at k1
      ·rename_i hpn
       exact ⟨ρ', _, _, _, k1, k2.back, k4.back, k5, Or.inl ⟨_, rfl, hpn, (aqZ k3).back⟩⟩
      ·exact k1.elim
     ·simp only [aNo] at k1
      obtain ⟨x, hx, k1⟩ := arL k1
      exact ⟨ρ', _, _, _, k1, k2.back, k4.back, k5, Or.inr ⟨x, ch, rfl, aw0 hx, rfl⟩⟩
    ·exact h.elim
   ·exact h.elim
  ·simp only [aAF] at h
   split at h
   ·rename_i r hfind
    split at h
    ·rename_i hlen
     have hlen := aaE hlen
     have hkey := aaH (Heap.find_mem hfind)
     have hlt := hm.lt l hkey
     obtain ⟨fn, tmps, dd, g1, g2, g3⟩ := hm.mem _ _ (Heap.find_mem hfind)
     have hvl := hv.length
     have hw0 : C.w0.heap.size ≤ w.heap.size := hm.below.size
     refine ⟨fn, _, r.assign, r.body, run_yield g1 zi, roundIn_of_wpIn trivial ?_⟩
     have hs0 : SRel (C.at w.heap.size hw0) ρ { slots := r.slots, H := H, next := next, n := r.n } { tmps := tmps, defers := [] } w := ⟨hm.at, fun t => (g3 t).at, g2, Dfs.nil (zm _) rfl rfl⟩
     obtain ⟨hs1, hH1, hn1⟩ := aAI r.ps.toList args vs _ _ hs0 hv.at
     have htm : (r.ps.zip (⟨vs⟩ : Array Value)).foldl (fun t (x : Nat × Value) => t.setIfInBounds x.1 x.2) tmps = (r.ps.toList.zip vs).foldl (fun t x => t.setIfInBounds x.1 x.2) tmps := by
      rw [← Array.foldl_toList, Array.toList_zip]
     have hs1' : SRel (C.at w.heap.size hw0) ρ (ao1 { slots := r.slots, H := H, next := next, n := r.n } r.ps.toList args) { tmps := (r.ps.zip (⟨vs⟩ : Array Value)).foldl (fun t (x : Nat × Value) => t.setIfInBounds x.1 x.2) tmps, defers := [] } w := by
      rw [htm]; exact hs1
     refine wpIn_mono (hL _ _ _ _ _ h (C.at w.heap.size hw0) hC ρ _ w hs1' (some (ρ l)) ⟨by rw [hn1]; exact hlt, fun _ => rfl⟩) ?_
     rintro e a1 w1 ⟨ρ1, σ1, k1, k2, k3, k4⟩
     rw [hH1, hn1] at k3
     rw [hn1] at k4
     cases e with
     | normal =>
      simp only [aMb] at k1
      split at k1
      ·rename_i r1 hf1
       split at k1
       ·rename_i hst
        have hkey1 := aaH (Heap.find_mem hf1)
        have hρ1 := (k3.keys l hlt hkey1).2
        obtain ⟨fn1, tmps1, d1, b1, b2, b3⟩ := k2.m.mem _ _ (Heap.find_mem hf1)
        have hbr := run_beginRound (P := P) b1 hst
        obtain ⟨hm2, hext2⟩ := k2.m.turn hf1 .busy r1.pend b1 b2 b3
        rw [hρ1] at hbr hm2 hext2
        refine ⟨_, hbr, ?_⟩
        have hfr2 := hext2.fr (n := σ1.next) (fun k _ hk => by rwa [Heap.keys_up] at hk)
        have hs2 := k2.frame (next' := σ1.next) hm2 hfr2 (fun k hk => by rw [Heap.keys_up]; exact hk)
        refine wpIn_mono (hL _ _ _ _ _ k1 (C.at w.heap.size hw0) hC ρ1 _ _ hs2 (some (ρ l)) ⟨yh hlt k4, fun _ => by rw [hρ1]⟩) ?_
        rintro e a3 w3 ⟨ρ3, σ3, m1, m2, m3, m4⟩
        unfold aNL at m1
        split at m1
        ·rename_i j hj
         split at m1
         ·rename_i r3 hf3
          have hkey3 := aaH (Heap.find_mem hf3)
          have hρ3 : ρ3 l = ρ l := (m3.keys l (yh hlt k4) hkey3).2.trans hρ1
          obtain ⟨fn3, tmps3, d3, c1, c2, c3⟩ := m2.m.mem _ _ (Heap.find_mem hf3)
          have hend := run_endRound (P := P) j c1
          have hrs : ap9 j = (if j.isNone then .ready else .done) := by cases j <;> rfl
          obtain ⟨hm4, hext4⟩ := m2.m.turn hf3 (ap9 j) j c1 c2 c3
          rw [hρ3] at hend hm4 hext4
          rw [hrs] at hm4 hext4 m1
          have f2 : Fr (C.at w.heap.size hw0) σ1.next ρ1 σ1.H w1 ρ3 σ3.H w3 := hfr2.trans (zm _) m3
          have f3 := hext4.fr (n := σ3.next) (fun k _ hk => by rwa [Heap.keys_up] at hk)
          have hfr := ((k3.trans k4 f2).trans (n' := σ3.next) (zF k4 m4) f3).back
          generalize w3.putObj (ρ l) (.loop { state := if j.isNone then .ready else .done, pending := j, fn := fn3, tmps := tmps3, params := r3.ps, assign := r3.assign, body := r3.body, defers := d3 }) = W4 at hend hm4 hfr
          have hce : CallEnd C ρ H next w K (.returned (.bool j.isNone)) W4 := ⟨ρ3, _, _, _, m1, hm4.back, hfr, zF k4 m4, Or.inl ⟨_, rfl, rfl, acC⟩⟩
          cases e with
          | normal => injection hj with hj; subst hj; exact ⟨_, _, hend, hce⟩
          | ret => injection hj with hj; subst hj; exact ⟨_, _, hend, hce⟩
          | exit id => injection hj with hj; subst hj; exact ⟨_, _, hend, hce⟩
          | _ => cases hj
         ·exact m1.elim
        ·exact m1.elim
       ·exact k1.elim
      ·exact k1.elim
     | _ => exact k1.elim
    ·exact h.elim
   ·exact h.elim
theorem aH6 (hG : acS G) (hmix : P.follows .mixedOrders = true) {Γ : Cons} (hΓ : Γ.ok P G) {call : abP} (hcall : CallSat P G call) : CallSat P G (aCp P G Γ call) :=
 aAE (fun _ _ _ _ _ _ h => avV hG hmix hΓ hcall h) (fun _ _ c σ Q h => ab4 hG hmix hΓ hcall c σ Q h)
theorem asR {f : FuncId} {fn : Func} {code : Code} (hf : P.funcs[f]? = some fn) (hb : fn.body = some code) (he : acL P f = true)
  (c : Con) (hce : c.err = false) (hn : ∀ x, c.pre x → Nat.ble (akA c.args x).length fn.ntmps = true)
  (hex : ∀ x : c.args.T, Wf c.args x → c.pre x → aNR P G fn code { slots := ab9 0 (akA c.args x), H := [], next := 0, n := fn.ntmps } (aM7 c.res (c.fn x)) fun _ _ => False) : c.ok P G f := by
 refine Con.ok_plain hce ⟨he, fun w ok vs x hGw hok hvs hp => (callsIn_wideR (r := none) (n := 0)).1 ?_⟩
 generalize hC : ({ w0 := w, okA := ok, lt := hok, lo := w.heap.size, hlo := zm _ } : Ctx) = C
 have hCw : C.w0 = w := by rw [← hC]
 have hCu : C.us = [] := by rw [← hC]
 have hCm : C.mks = none := by rw [← hC]
 have hClo : C.lo = w.heap.size := by rw [← hC]
 have hokA : C.okA = ok := by rw [← hC]
 have hm : MRel C (fun _ => 0) [] 0 w := ⟨by rw [hCw]; exact Below.refl _ _, xc, (by intro k hk; cases hk), (by intro k hk; cases hk), (by intro k hk; cases hk), (by intro k b hk; cases hk)⟩
 have hkk : ∀ b, ok b → Ok C (fun _ => 0) [] w b := fun b hb => ⟨Or.inl (by rw [hokA]; exact hb), hok b hb, (by intro k hk; cases hk)⟩
 refine CallsIn.mono (callsIn_of_wp_marks (F := aa1 none) (n := 0) hf hb trivial (hex x hvs.wf hp C (by rw [hCw]; exact hGw) _ _ _ (asF hCu hCm hm (by rw [hClo]; exact zm _) (RdVs.args hkk _ _ _ hvs) (Nat.le_of_ble_eq_true (hn x hp))) hCu hCm hClo rfl)) ?_
 rintro e w'' (⟨ρ', σ', l, us, k1, k2, k3, k4, k5, rfl⟩ | ⟨_, _, _, k1, _⟩)
 ·refine ⟨us, rfl, ?_, by have := k2.below; rw [hCw] at this; exact this⟩
  unfold aM7 at k1
  split at k1
  ·rename_i z hz
   subst k1
   have h5 := aqM _ _ _ _ hz (VRs.map (fun x v hx => aJB k2 hx) k3)
   have mono : ∀ (t : Ty) (x : t.T) (vs : List Value), RdVs (Ok C ρ' [] w'') w'' t x vs → RdVs (aGO ok w w'') w'' t x vs := by
    intro t
    induction t with
    | unit => intro x vs h; exact h
    | pair t u _ ihu =>
     rintro x vs ⟨v, us, e, h6, h7⟩
     refine ⟨v, us, e, h6.mono (fun b hb => ⟨?_, rfl⟩), ihu _ _ h7⟩
     rcases hb.1 with h | h
     ·exact Or.inl (by rw [hokA] at h; exact h)
     ·exact Or.inr ⟨by rw [hCw] at h; exact h, hb.2.1⟩
    | _ => intro x vs h; exact h.elim
   exact mono _ _ _ h5
  ·exact k1.elim
 ·exact k1.elim
end
open Go Go.RowKit
def rn (k k' j : Nat) : Nat := match Nat.beq j k with | true => k' | false => j
mutual
def AV.ren (k k' : Nat) : AV → AV
 | .ptr j off => .ptr (rn k k' j) off
 | .eptr j i => .eptr (rn k k' j) i
 | .efp j i f => .efp (rn k k' j) i f
 | .own j off len => .own (rn k k' j) off len
 | .ox j off len => .ox (rn k k' j) off len
 | .sv j n => .sv (rn k k' j) n
 | .fn g first caps => .fn g (AV.rens k k' first) (AV.rens k k' caps)
 | .yld l => .yld (rn k k' l)
 | .mp j => .mp (rn k k' j)
 | .ag cells => .ag (AV.rens k k' cells)
 | .tup l => .tup (AV.rens k k' l)
 | .d t x => .d t x
 | .dptr t x => .dptr t x
 | .nsl => .nsl
 | .nilp => .nilp
 | .nili => .nili
 | .nni => .nni
 | .ifc k t x => .ifc k t x
 | .und => .und
 | .no => .no
def AV.rens (k k' : Nat) : List AV → List AV
 | [] => []
 | a :: as => a.ren k k' :: AV.rens k k' as
end
def akK (k k' : Nat) : List (Nat × AV) → List (Nat × AV)
 | [] => []
 | (t, a) :: r => (t, a.ren k k') :: akK k k' r
def aFP (k k' : Nat) : List (DK × AV) → List (DK × AV)
 | [] => []
 | (n, v) :: r => (n, v.ren k k') :: aFP k k' r
def Bk.ren (k k' : Nat) : Bk → Bk
 | .vars e cells => .vars e (AV.rens k k' cells)
 | .row e t l => .row e t l
 | .loop r => .loop { r with slots := akK k k' r.slots }
 | .dic j l => .dic j (aFP k k' l)
 | .any => .any
def Heap.ren (k k' : Nat) : Heap → Heap
 | [] => []
 | (j, b) :: r => (rn k k' j, b.ren k k') :: Heap.ren k k' r
def St.rekey (σ : St) (k k' : Nat) : St := { σ with slots := akK k k' σ.slots, H := Heap.ren k k' σ.H, next := Nat.max σ.next (k' + 1) }
section
variable {C : Ctx} {ρ : Nat → Nat} {H : Heap} {w : World} {k k' : Nat}
theorem awE : rn k k' k = k' := by simp [rn]
theorem aFK {j : Nat} (h : j ≠ k) : rn k k' j = j := by simp [rn, arU h]
theorem afX (hk' : k' ∉ H.keys) {j : Nat} (hj : j ∈ H.keys) : upd ρ k' (ρ k) (rn k k' j) = ρ j := by
 by_cases h : j = k
 ·subst h; rw [awE, aa2]
 ·rw [aFK h, ac7]; intro e; subst e; exact hk' hj
theorem ag2 : (Heap.ren k k' H).keys = H.keys.map (rn k k') := by
 induction H with
 | nil => rfl
 | cons x r ih =>
  obtain ⟨j, b⟩ := x
  show rn k k' j :: (Heap.ren k k' r).keys = rn k k' j :: ((Heap.keys r).map (rn k k'))
  rw [ih]
theorem mem_ren {j : Nat} {b : Bk} : (j, b) ∈ Heap.ren k k' H ↔ ∃ i c, (i, c) ∈ H ∧ j = rn k k' i ∧ b = c.ren k k' := by
 induction H with
 | nil => exact ⟨fun h => (by cases h), fun ⟨_, _, h, _⟩ => (by cases h)⟩
 | cons x r ih =>
  obtain ⟨i, c⟩ := x
  simp only [Heap.ren, zp, Prod.mk.injEq]
  constructor
  ·rintro (⟨h1, h2⟩ | h)
   ·exact ⟨i, c, Or.inl ⟨rfl, rfl⟩, h1, h2⟩
   ·obtain ⟨i', c', h1, h2⟩ := ih.1 h
    exact ⟨i', c', Or.inr h1, h2⟩
  ·rintro ⟨i', c', ⟨rfl, rfl⟩ | h1, h2, h3⟩
   ·exact Or.inl ⟨h2, h3⟩
   ·exact Or.inr (ih.2 ⟨i', c', h1, h2, h3⟩)
theorem Ok.ren (hk' : k' ∉ H.keys) {b : Nat} (h : Ok C ρ H w b) : Ok C (upd ρ k' (ρ k)) (Heap.ren k k' H) w b := by
 refine ⟨h.1, h.2.1, ?_⟩
 intro j hj
 rw [ag2] at hj
 obtain ⟨i, hi, rfl⟩ := zD.1 hj
 rw [afX hk' hi]
 exact h.2.2 i hi
theorem VR.ren (hk' : k' ∉ H.keys) {x : AV} {v : Value} (h : VR C ρ H w x v) : VR C (upd ρ k' (ρ k)) (Heap.ren k k' H) w (x.ren k k') v := by
 have hd : ∀ b, Ok C ρ H w b → Ok C (upd ρ k' (ρ k)) (Heap.ren k k' H) w b ∧ w.heap[b]? = w.heap[b]? := fun b h => ⟨h.ren hk', rfl⟩
 have hkey : ∀ j, j ∈ H.keys → rn k k' j ∈ (Heap.ren k k' H).keys := fun j hj => by rw [ag2]; exact zD.2 ⟨j, hj, rfl⟩
 have hrow : ∀ j e t l, (j, Bk.row e t l) ∈ H → (rn k k' j, Bk.row e t l) ∈ Heap.ren k k' H := fun j e t l hj => mem_ren.2 ⟨j, _, hj, rfl, rfl⟩
 refine VR.rec (motive_1 := fun x v _ => VR C (upd ρ k' (ρ k)) (Heap.ren k k' H) w (x.ren k k') v) (motive_2 := fun xs vs _ => VRs C (upd ρ k' (ρ k)) (Heap.ren k k' H) w (AV.rens k k' xs) vs)
  ?_ ?_ ?_ ?_ ?_ ?_ ?_ ?_ ?_ ?_ ?_ ?_ ?_ ?_ ?_ ?_ ?_ ?_ ?_ ?_ ?_ ?_ h
 ·intro t x v h; exact .d (RdV.mono hd h)
 ·intro j off h
  rw [← afX (ρ := ρ) (k := k) hk' h]
  exact .ptr (hkey j h)
 ·intro j i e t l h hi
  rw [← afX (ρ := ρ) (k := k) hk' (aaH h)]
  exact .eptr (hrow j e t l h) hi
 ·intro j i f o u e t l h hi ho
  rw [← afX (ρ := ρ) (k := k) hk' (aaH h)]
  exact .efp (hrow j e t l h) hi ho
 ·intro t x b o c e fr hb hc ho h
  exact .dptr (hd b hb).1 hc ho (Rd.mono hd _ _ _ h)
 ·intro j off len e t l a cap c fr h hl hc hm hb hs ha
  have e1 := afX (ρ := ρ) (k := k) hk' (aaH h)
  exact .own (hrow j e t l h) hl hc hm (by rw [e1]; exact hb) hs (by rw [e1]; exact ha)
 ·intro j off len e t l a c fr h hl hm hb hs ha
  have e1 := afX (ρ := ρ) (k := k) hk' (aaH h)
  exact .ox (hrow j e t l h) hl hm (by rw [e1]; exact hb) hs (by rw [e1]; exact ha)
 ·intro j n cap h hn hc
  rw [← afX (ρ := ρ) (k := k) hk' h]
  exact .sv (hkey j h) hn hc
 ·exact .nsl
 ·exact .nilp
 ·exact .nili
 ·exact .nni
 ·intro k t x v h; exact .ifc (RdV.mono hd h)
 ·intro g first caps vf vc _ _ h1 h2; exact .fn h1 h2
 ·intro l h
  rw [← afX (ρ := ρ) (k := k) hk' h]
  exact .yld (hkey l h)
 ·intro j h
  rw [← afX (ρ := ρ) (k := k) hk' h]
  exact .mp (hkey j h)
 ·intro cells vs _ h1 h; exact .ag h h1
 ·intro l vs _ h; exact .tup h
 ·exact .und
 ·intro v; exact .no
 ·exact .nil
 ·intro a v as vs _ _ h hs; exact .cons h hs
theorem VRs.ren (hk' : k' ∉ H.keys) : ∀ {xs : List AV} {vs : List Value}, VRs C ρ H w xs vs → VRs C (upd ρ k' (ρ k)) (Heap.ren k k' H) w (AV.rens k k' xs) vs
 | _, _, .nil => .nil
 | _, _, .cons h1 h2 => .cons (h1.ren hk') (VRs.ren hk' h2)
theorem MapR.ren {R R' : AV → Value → Prop} {k k' : Nat} {j : KK} (h : ∀ x v, R x v → R' (x.ren k k') v) : ∀ {l : List (DK × AV)} {es : List MapEntry}, MapR R j l es → MapR R' j (aFP k k' l) es
 | [], [], _ => trivial
 | _ :: _, _ :: _, ⟨h1, h2, h3⟩ => ⟨h1, h _ _ h2, MapR.ren h h3⟩
 | [], _ :: _, h => h.elim
 | _ :: _, [], h => h.elim
theorem aC6 (s : List (Nat × AV)) (t : Nat) : acT (akK k k' s) t = (acT s t).ren k k' := by
 induction s with
 | nil => rfl
 | cons x r ih =>
  obtain ⟨j, a⟩ := x
  simp only [akK, acT]
  cases Nat.beq j t <;> simp [ih]
theorem SRel.rekey {σ : St} {a : Act} (hs : SRel C ρ σ a w) (hk' : k' ∉ σ.H.keys) : SRel C (upd ρ k' (ρ k)) (σ.rekey k k') a w := by
 have hm := hs.m
 have hd : ∀ b, Ok C ρ σ.H w b → Ok C (upd ρ k' (ρ k)) (Heap.ren k k' σ.H) w b ∧ w.heap[b]? = w.heap[b]? := fun b h => ⟨h.ren hk', rfl⟩
 refine ⟨⟨hm.below, ?_, ?_, ?_, ?_, ?_⟩, fun t => ?_, hs.size, hs.defers.mono hd (zm _)⟩
 ·show (Heap.ren k k' σ.H).keys.Nodup
  rw [ag2]
  refine List.nodup_iff_pairwise_ne.2 (List.pairwise_map.2 (List.Pairwise.imp_of_mem ?_ (List.nodup_iff_pairwise_ne.1 hm.nodup)))
  intro i j hi hj hne e
  apply hne
  have h1 := afX (ρ := fun x => x) (k := k) hk' hi
  have h2 := afX (ρ := fun x => x) (k := k) hk' hj
  rw [e] at h1
  exact h1.symm.trans h2
 ·intro j hj
  have hj' : j ∈ (Heap.ren k k' σ.H).keys := hj
  rw [ag2] at hj'
  obtain ⟨i, hi, rfl⟩ := zD.1 hj'
  by_cases h : i = k
  ·subst h; rw [awE]; exact yh (yd _) (Nat.le_max_right _ _)
  ·rw [aFK h]; exact yh (hm.lt i hi) (Nat.le_max_left _ _)
 ·intro j hj i hi e
  have hj' : j ∈ (Heap.ren k k' σ.H).keys := hj
  have hi' : i ∈ (Heap.ren k k' σ.H).keys := hi
  rw [ag2] at hj' hi'
  obtain ⟨j0, hj0, rfl⟩ := zD.1 hj'
  obtain ⟨i0, hi0, rfl⟩ := zD.1 hi'
  rw [afX hk' hj0, afX hk' hi0] at e
  rw [hm.inj _ hj0 _ hi0 e]
 ·intro j hj
  have hj' : j ∈ (Heap.ren k k' σ.H).keys := hj
  rw [ag2] at hj'
  obtain ⟨j0, hj0, rfl⟩ := zD.1 hj'
  rw [afX hk' hj0]
  exact hm.low _ hj0
 ·intro j b hb
  obtain ⟨i, c, h1, rfl, rfl⟩ := mem_ren.1 hb
  rw [afX hk' (aaH h1)]
  have hbr := hm.mem i c h1
  cases c with
  | vars e cells =>
   obtain ⟨c, g1, g2, g3⟩ := hbr
   exact ⟨c, g1, g2.ren hk', g3⟩
  | row e t l =>
   obtain ⟨c, g1, g2, g3, g4, g5⟩ := hbr
   exact ⟨c, g1, g2, g3, RdL.mono (fun x cs => Rd.mono hd t x cs) _ _ g4, g5⟩
  | loop r =>
   obtain ⟨fn, tmps, d, g1, g2, g3⟩ := hbr
   exact ⟨fn, tmps, d, g1, g2, fun t => by rw [aC6]; exact (g3 t).ren hk'⟩
  | dic j l =>
   obtain ⟨es, n, g1, g2⟩ := hbr
   exact ⟨es, n, g1, g2.ren (fun x v h => VR.ren hk' h)⟩
  | any => exact hbr
 ·show VR C _ (Heap.ren k k' σ.H) w (acT (akK k k' σ.slots) t) _
  rw [aC6]
  exact (hs.slots t).ren hk'
theorem Fr.rekey {n : Nat} (hk' : k' ∉ H.keys) (h1 : n ≤ k') : Fr C n ρ H w (upd ρ k' (ρ k)) (Heap.ren k k' H) w := by
 refine ⟨fun b h => ⟨h.ren hk', rfl⟩, fun j hj hjm => ?_, fun j e t l hj hjm hj' => ⟨l, mem_ren.2 ⟨j, _, hjm, (aFK ?_).symm, rfl⟩, zm _, fun c fr hc => ⟨c, fr, hc, rfl⟩⟩, zm _⟩
 rotate_left
 ·rintro rfl
  rw [ag2] at hj'
  obtain ⟨i, hi, e⟩ := zD.1 hj'
  by_cases h : i = j
  ·subst h; rw [awE] at e; subst e; exact hk' hi
  ·rw [aFK h] at e; exact h e
 rw [ag2] at hjm
 obtain ⟨i, hi, rfl⟩ := zD.1 hjm
 by_cases h : i = k
 ·subst h; rw [awE] at hj; omega
 ·rw [aFK h] at hj ⊢
  exact ⟨hi, ac7 ρ zc⟩
end
section
variable {P : Program} {G : World → Prop}
end
def asT (α : Type) (x : α) : α := x
def len {α : Type} (l : List α) : Int := (l.length : Int)
def gi {α : Type} (l : List α) (i : Int) (d : α) : α := l.getD i.toNat d
def w64 (x : Int) : Int := IntKind.wrap .i64 x
def aOA (x : Int) : Int := IntKind.wrap .u64 x
def aOB (x : Int) : Int := IntKind.wrap .u32 x
def wu8 (x : Int) : Int := IntKind.wrap .u8 x
def inb (a b : Int) : Prop := 0 ≤ a ∧ a < b
def inc (a b : Int) : Prop := 0 ≤ a ∧ a ≤ b
def ai9 (fn : Func) : Code := fn.body.getD .skip
def atP : Code → List Nat → Code
 | c, [] => c
 | .seq a _, 0 :: r => atP a r
 | .seq _ b, _ :: r => atP b r
 | .cond _ a _, 0 :: r => atP a r
 | .cond _ _ b, _ :: r => atP b r
 | .block _ a, _ :: r => atP a r
 | .loop a, _ :: r => atP a r
 | .scope a, _ :: r => atP a r
 | .rangeFunc _ _ a _, 0 :: r => atP a r
 | .rangeFunc _ _ _ b, _ :: r => atP b r
 | _, _ => .skip
open Go Go.RowKit
def amL (m : Nat) : List Edge → Bool
 | [] => true
 | e :: r => match ab8 e with
  | true => match Nat.testBit m e.on with
   | true => amL m r
   | false => false
  | false => amL m r
def aFc (n : Nat) (σ σ' : St) : Prop := ∀ (C : Ctx) (ρ : Nat → Nat) (a : Act) (w : World), SRel C ρ σ a w → ∃ ρ', SRel C ρ' σ' a w ∧ Fr C n ρ σ.H w ρ' σ'.H w ∧ σ.next ≤ σ'.next
def aoI (P : Program) (Γ : Cons) (call : abP) (ops : Array Oper) (b : Nat) : Nat → Nat → St → (Fi → Prop) → Prop
 | 0, _, σ, K => K (.go σ)
 | n + 1, m, σ, K => ∀ i o, ops[i]? = some o → Nat.testBit m i = false → amL m o.after.toList = true → aa8 P Γ call ops [o] σ (aLz (fun σ1 => ∃ σ', aFc b σ1 σ' ∧ aoI P Γ call ops b n (m ||| 2 ^ i) σ' K) K)
theorem aoR {m : Nat} : ∀ {l : List Edge}, (∀ e ∈ l, ab8 e = true → Nat.testBit m e.on = true) → amL m l = true
 | [], _ => rfl
 | e :: r, h => by
  simp only [amL]
  cases hb : ab8 e with
  | false => exact aoR fun e he => h e (zt _ he)
  | true => simp only [h e (zy ..) hb]; exact aoR fun e he => h e (zt _ he)
section
variable {C : Ctx} {P : Program} {G : World → Prop} {Γ : Cons} {ops : Array Oper}
def aLh (C : Ctx) (b : Nat) (ρ : Nat → Nat) (H : Heap) (w : World) (K : St → Prop) (a' : Act) (w' : World) : Prop :=
 ∃ ρ' σ', K σ' ∧ SRel C ρ' σ' a' w' ∧ Fr C b ρ H w ρ' σ'.H w' ∧ b ≤ σ'.next
theorem aIh (hG : acS G) (hC : G C.w0) (hΓ : Γ.ok P G) {call : abP} (hcall : CallSat P G call) {Q : Exit → Act → World → Prop} {K : Fi → Prop} (hed : acP ops.toList 0 = true) (rnd : Option Nat) {b : Nat} :
  ∀ (n m : Nat) (listed : Array Bool) {ρ : Nat → Nat} {σ : St} {a : Act} {w : World}, SRel C ρ σ a w → b ≤ σ.next → aoI P Γ call ops b n m σ K → listed.size = ops.size → (∀ j, j < ops.size → listed.getD j false = Nat.testBit m j) →
   ax7 (fun i => listed.getD i false) ops.size + n = ops.size → (∀ a' w', aLh C b ρ σ.H w (fun σ' => K (.go σ')) a' w' → Q .normal a' w') → (∀ ch a' w', aLh C b ρ σ.H w (fun σ' => K (.pan ch σ')) a' w' → Q (.panic ch) a' w') → wpAnyIn (aa1 rnd) 0 P .any ops Q n listed a w := by
 intro n
 induction n with
 | zero =>
  intro m listed ρ σ a w hs hb h hsz hl hcnt hQ hP
  refine ⟨yZ.2 fun i hi => ?_, hQ a w ⟨ρ, σ, h, hs, Fr.refl _ _ _ _ _, hb⟩⟩
  unfold Region.ready at hi
  rw [yO] at hi
  obtain ⟨h1, h2⟩ := hi
  have hio : i < ops.size := by simpa using h1
  simp only [zn, zT] at h2
  have h3 : listed.getD i false = false := by
   have := h2.1
   rw [zo, zN zc] at this ⊢
   exact this
  have := axR (ls := fun i => listed.getD i false) h3 (n := ops.size) hio
  omega
 | succ n ih =>
  intro m listed ρ σ a w hs hb h hsz hl hcnt hQ hP
  have hlt : ∀ i, i < ops.size → listed.getD i true = listed.getD i false := by
   intro i hi
   rw [zo, zo, zN zc]
   rfl
  refine ⟨fun hnil => ?_, fun i hi => ?_⟩
  ·exfalso
   have hex : ∃ i, i < ops.size ∧ listed.getD i false = false := by
    refine Classical.byContradiction fun hno => ?_
    have hall : ∀ i, i < ops.size → listed.getD i false = true := fun i hi => by
     cases hb : listed.getD i false with
     | true => rfl
     | false => exact absurd ⟨i, hi, hb⟩ hno
    have := aeP (ls := fun i => listed.getD i false) (m := ops.size) hall (fun i hi => by
     show listed.getD i false = false
     rw [zo, yG zc]; rfl) (n := ops.size)
    omega
   obtain ⟨i, hi1, hi2, hi3⟩ := am7 (ls := fun i => listed.getD i false) hex
   have hil : ops.toList[i]? = some ops[i] := by simp [hi1]
   have : i ∈ Region.ready .any ops listed := by
    unfold Region.ready
    rw [yO]
    refine ⟨by simpa using hi1, ?_⟩
    rw [hlt i hi1, show listed.getD i false = false from hi2, zN hi1]
    simp only [yL, yR, Bool.not_false, Bool.true_and]
    rw [ye]
    intro e he
    cases hb : Region.binds .any e with
    | false => rfl
    | true =>
     have := abO hed hil e he hb
     rw [zw] at this
     have h3 : listed.getD e.on false = true := hi3 e.on this
     simp [h3]
   rw [hnil] at this
   cases this
  ·unfold Region.ready at hi
   rw [yO] at hi
   obtain ⟨h1, h2⟩ := hi
   have hio : i < ops.size := by simpa using h1
   have hoi : ops[i]? = some ops[i] := zN hio
   rw [hlt i hio, hoi] at h2
   simp only [zn, zT, yL, yR, ye] at h2
   obtain ⟨h3, h4⟩ := h2
   have hmem : Nat.testBit m i = false := by rw [← hl i hio]; exact h3
   have hedge : amL m ops[i].after.toList = true := aoR fun e he hb => by
    have he' : e ∈ ops[i].after := by simpa using he
    have := h4 e he'
    unfold ab8 at hb
    rw [hb] at this
    have hlt' := abO hed (show ops.toList[i]? = some ops[i] by simp [hio]) e he' hb
    rw [zw] at hlt'
    rw [← hl e.on zc]
    simpa using this
   have hstep := h i ops[i] hoi hmem hedge
   unfold wpOpIn
   rw [hoi]
   simp only
   refine aj6 hG hC hΓ hcall hs hstep ?_ (fun ch a' w' hr => by
    obtain ⟨ρ1, σ1, q1, q2, q3, q4⟩ := hr
    exact hP ch a' w' ⟨ρ1, σ1, q1, q2, (Fr.refl C b ρ σ.H w).trans hb q3, zF hb q4⟩) rnd
   rintro a' w' ⟨ρ1, σ1, ⟨σ', g1, g2⟩, g3, g4, g5⟩
   obtain ⟨ρ', k1, k2, k3⟩ := g1 C ρ1 a' w' g3
   have hset : ∀ j, (listed.setIfInBounds i true).getD j false = if j = i then true else listed.getD j false := by
    intro j
    by_cases hj : j = i
    ·subst hj
     rw [if_pos rfl, zo, yp zc]
     rfl
    ·rw [if_neg hj, zo, yg (Ne.symm hj), ← zo]
   have hfun : (fun j => (listed.setIfInBounds i true).getD j false) = anI (fun j => listed.getD j false) i := by
    funext j; rw [hset]; rfl
   refine ih (m ||| 2 ^ i) _ k1 (zF hb (zF g5 k3)) g2 (by simp [hsz]) (fun j hj => ?_) ?_ (fun a'' w'' hr => ?_) (fun ch a'' w'' hr => ?_)
   ·rw [hset, yy, Nat.testBit_two_pow]
    by_cases hji : j = i
    ·subst hji; simp
    ·rw [if_neg hji, hl j hj]; simp [Ne.symm hji]
   ·rw [hfun, aqD h3 hio]
    omega
   ·obtain ⟨ρ2, σ2, q1, q2, q3, q4⟩ := hr
    refine hQ a'' w'' ⟨ρ2, σ2, q1, q2, ?_, q4⟩
    have f1 : Fr C b ρ σ.H w ρ1 σ1.H w' := (Fr.refl C b ρ σ.H w).trans hb g4
    exact (f1.trans (zm _) k2).trans (zm _) q3
   ·obtain ⟨ρ2, σ2, q1, q2, q3, q4⟩ := hr
    refine hP ch a'' w'' ⟨ρ2, σ2, q1, q2, ?_, q4⟩
    have f1 : Fr C b ρ σ.H w ρ1 σ1.H w' := (Fr.refl C b ρ σ.H w).trans hb g4
    exact (f1.trans (zm _) k2).trans (zm _) q3
theorem aLA (hG : acS G) (hmix : P.follows .mixedOrders = true) (hΓ : Γ.ok P G) {call : abP} (hcall : CallSat P G call) {rd : Option Nat} {id : Nat} {σ : St} {Q : Exit → St → Prop} (hed : acP ops.toList 0 = true)
  (h : aoI P Γ call ops σ.next ops.size 0 σ (ayK Q)) : Sat P G rd (.region id ops true) σ Q := by
 intro C hC ρ a w hs rnd hrd
 obtain ⟨hmd, hextd⟩ := hs.m.grow (w' := w.drew) ((Below.refl _ _).drew)
 have hfr := hextd.fr (n := σ.next) (fun k _ hk => hk)
 have hs' : SRel C ρ σ a w.drew := hs.frame hmd hfr (fun k hk => hk)
 refine wpIn_region_any hmix (aIh hG hC hΓ hcall hed rnd ops.size 0 (Array.replicate ops.size false) hs' (zm _) h zf (fun j hj => ?_) ?_ (fun a' w' hr => ?_) (fun ch a' w' hr => ?_))
 ·rw [zo, yS, if_pos hj, Nat.zero_testBit]; rfl
 ·have := aeP (ls := fun i => (Array.replicate ops.size false).getD i false) (m := 0) (fun i hi => absurd hi (Nat.not_lt_zero _)) (fun i _ => by
   show (Array.replicate ops.size false).getD i false = false
   rw [zo, yS]; split <;> rfl) (n := ops.size)
  omega
 ·obtain ⟨ρ1, σ1, h1, h2, h3, h4⟩ := hr
  exact ⟨ρ1, σ1, h1, h2, hfr.trans (zm _) h3, h4⟩
 ·obtain ⟨ρ1, σ1, h1, h2, h3, h4⟩ := hr
  exact ⟨ρ1, σ1, h1, h2, hfr.trans (zm _) h3, h4⟩
def St.rekeysK (n : Nat) (σ : St) : List (Nat × Nat) → St
 | [] => σ
 | (K, k') :: r => match abL σ.H k', abL σ.H K, Nat.ble n k' with
  | false, true, true => (σ.rekey K k').rekeysK n r
  | _, _, _ => σ.rekeysK n r
theorem SRel.rekeysK {n : Nat} {w : World} : ∀ (r : List (Nat × Nat)) {ρ : Nat → Nat} {σ : St} {a : Act}, SRel C ρ σ a w → ∃ ρ', SRel C ρ' (σ.rekeysK n r) a w ∧ Fr C n ρ σ.H w ρ' (σ.rekeysK n r).H w
 | [], ρ, σ, a, hs => ⟨ρ, hs, Fr.refl _ _ _ _ _⟩
 | (K, k') :: r, ρ, σ, a, hs => by
  simp only [St.rekeysK]
  split
  ·rename_i h1 h2 h3
   have hk' : k' ∉ σ.H.keys := fun h => by rw [hasKey_iff.2 h] at h1; cases h1
   obtain ⟨ρ', g1, g2⟩ := SRel.rekeysK (n := n) r (hs.rekey hk')
   exact ⟨ρ', g1, (Fr.rekey hk' (Nat.le_of_ble_eq_true h3)).trans (zm _) g2⟩
  ·exact SRel.rekeysK r hs
def St.raise (σ : St) (n : Nat) : St := { σ with next := Nat.max σ.next n }
theorem SRel.raise {ρ : Nat → Nat} {σ : St} {a : Act} {w : World} (hs : SRel C ρ σ a w) (n : Nat) : SRel C ρ (σ.raise n) a w := ⟨hs.m.mono (Nat.le_max_left _ _), hs.slots, hs.size, hs.defers⟩
theorem aBR (n k : Nat) (σ : St) (r : List (Nat × Nat)) (hn : σ.next ≤ ((σ.rekeysK n r).raise k).next) : aFc n σ ((σ.rekeysK n r).raise k) := by
 intro C ρ a w hs
 obtain ⟨ρ', h1, h2⟩ := SRel.rekeysK (n := n) r hs
 exact ⟨ρ', h1.raise k, h2, hn⟩
def eqT : (t : Ty) → t.T → t.T → Bool
 | .int _, x, y => eqD.eqI x y
 | .bool, x, y => eqD.eqB x y
 | .str, x, y => eqD.eqS x y
 | .unit, _, _ => true
 | .pair t u, x, y => match eqT t x.1 y.1 with
  | true => eqT u x.2 y.2
  | false => false
 | .arr _ t, x, y => eqD.eqL (eqT t) x y
 | .sl t, x, y => eqD.eqL (eqT t) x y
theorem aHF {α : Type} {f : α → α → Bool} (hf : ∀ x y, f x y = true → x = y) : ∀ (l m : List α), eqD.eqL f l m = true → l = m
 | [], [], _ => rfl
 | [], _ :: _, h => by cases h
 | _ :: _, [], h => by cases h
 | x :: l, y :: m, h => by
  simp only [eqD.eqL] at h
  cases hb : f x y with
  | false => rw [hb] at h; cases h
  | true => rw [hb] at h; rw [hf _ _ hb, aHF hf l m h]
theorem aNg {x y : Int} (h : eqD.eqI x y = true) : x = y := eq_of_beq h
theorem aNh {x y : Bool} (h : eqD.eqB x y = true) : x = y := eq_of_beq h
theorem aNf {x y : List UInt8} (h : eqD.eqS x y = true) : x = y := eq_of_beq h
theorem aAm : ∀ (t : Ty) (x y : t.T), eqT t x y = true → x = y
 | .int _, _, _, h => aNg h
 | .bool, _, _, h => aNh h
 | .str, _, _, h => aNf h
 | .unit, x, y, _ => rfl
 | .pair t u, x, y, h => by
  simp only [eqT] at h
  cases hb : eqT t x.1 y.1 with
  | false => rw [hb] at h; cases h
  | true => rw [hb] at h; exact Prod.ext (aAm t _ _ hb) (aAm u _ _ h)
 | .arr _ t, x, y, h => aHF (aAm t) x y h
 | .sl t, x, y, h => aHF (aAm t) x y h
mutual
def avB (p : Nat → Bool) : AV → AV → Bool
 | .no, _ => true
 | .d u y, .d t x => match t.as u x with
  | some x' => eqT u x' y
  | none => false
 | .dptr u y, .dptr t x => match t.as u x with
  | some x' => eqT u x' y
  | none => false
 | .nsl, .nsl => true
 | .nilp, .nilp => true
 | .nili, .nili => true
 | .nni, .nni => true
 | .ifc k u y, .ifc k' t x => Nat.beq k' k && match t.as u x with
  | some x' => eqT u x' y
  | none => false
 | .und, .und => true
 | .ptr k i, .ptr k' i' => Nat.beq k' k && Nat.beq i' i && p k
 | .eptr k i, .eptr k' i' => Nat.beq k' k && Nat.beq i' i && p k
 | .own k o n, .own k' o' n' => Nat.beq k' k && Nat.beq o' o && Nat.beq n' n && p k
 | .ox k o n, .ox k' o' n' => Nat.beq k' k && Nat.beq o' o && Nat.beq n' n && p k
 | .sv k n, .sv k' n' => Nat.beq k' k && Nat.beq n' n && p k
 | .mp k, .mp k' => Nat.beq k' k && p k
 | .fn f x y, .fn f' x' y' => Nat.beq f' f && aMq p x x' && aMq p y y'
 | .ag l, .ag l' => aMq p l l'
 | .tup l, .tup l' => aMq p l l'
 | _, _ => false
def aMq (p : Nat → Bool) : List AV → List AV → Bool
 | [], [] => true
 | b :: bs, a :: as => avB p b a && aMq p bs as
 | _, _ => false
end
def aMx (p : Nat → Bool) (s : List (Nat × AV)) : List (Nat × AV) → Bool
 | [] => true
 | (t, b) :: r => avB p b (acT s t) && aMx p s r
def bkB (p : Nat → Bool) : Bk → Bk → Bool
 | .any, .any => true
 | .vars e cells, .vars e' cells' => Nat.beq e' e && aMq p cells cells'
 | .row e t l, .row e' t' l' => Nat.beq e' e && match (t'.sl).as (.sl t) l' with
  | some z => eqT (.sl t) z l
  | none => false
 | _, _ => false
def aOm (p : Nat → Bool) (H : Heap) (n : Nat) : Heap → Bool
 | [] => true
 | (k, b) :: r => (match H.find k with
  | some b' => bkB p b b'
  | none => false) && Nat.blt k n && aOm p H n r
mutual
def avE : AV → AV → Bool
 | .no, .no => true
 | .d u y, .d t x => match t.as u x with
  | some x' => eqT u y x'
  | none => false
 | .dptr u y, .dptr t x => match t.as u x with
  | some x' => eqT u y x'
  | none => false
 | .nsl, .nsl => true
 | .nilp, .nilp => true
 | .nili, .nili => true
 | .nni, .nni => true
 | .und, .und => true
 | .ptr k i, .ptr k' i' => Nat.beq k k' && Nat.beq i i'
 | .eptr k i, .eptr k' i' => Nat.beq k k' && Nat.beq i i'
 | .own k o n, .own k' o' n' => Nat.beq k k' && Nat.beq o o' && Nat.beq n n'
 | .ox k o n, .ox k' o' n' => Nat.beq k k' && Nat.beq o o' && Nat.beq n n'
 | .sv k n, .sv k' n' => Nat.beq k k' && Nat.beq n n'
 | .mp k, .mp k' => Nat.beq k k'
 | .fn f x y, .fn f' x' y' => Nat.beq f f' && aLd x x' && aLd y y'
 | .ag l, .ag l' => aLd l l'
 | .tup l, .tup l' => aLd l l'
 | _, _ => false
def aLd : List AV → List AV → Bool
 | [], [] => true
 | b :: bs, a :: as => avE b a && aLd bs as
 | _, _ => false
end
theorem aIe {t u : Ty} {x : t.T} {y x' : u.T} (h : t.as u x = some x') (e : eqT u y x' = true) : (⟨u, y⟩ : (t : Ty) × t.T) = ⟨t, x⟩ := by
 obtain ⟨e1, e2⟩ := Ty.as_some h
 subst e1
 have := aAm _ _ _ e
 subst this
 have e2 : x = y := e2
 rw [e2]
mutual
theorem as9 : ∀ (b a : AV), avE b a = true → b = a
 | .no, .no, _ => rfl
 | .d u y, .d t x, h => by
  simp only [avE] at h
  split at h
  ·rename_i x' hx
   have := aIe hx h
   injection this with h1 h2
   subst h1
   rw [eq_of_heq h2]
  ·cases h
 | .dptr u y, .dptr t x, h => by
  simp only [avE] at h
  split at h
  ·rename_i x' hx
   have := aIe hx h
   injection this with h1 h2
   subst h1
   rw [eq_of_heq h2]
  ·cases h
 | .nsl, .nsl, _ => rfl
 | .nilp, .nilp, _ => rfl
 | .nili, .nili, _ => rfl
 | .nni, .nni, _ => rfl
 | .und, .und, _ => rfl
 | .ptr k i, .ptr k' i', h => by
  simp only [avE, zn] at h
  rw [Nat.eq_of_beq_eq_true h.1, Nat.eq_of_beq_eq_true h.2]
 | .eptr k i, .eptr k' i', h => by
  simp only [avE, zn] at h
  rw [Nat.eq_of_beq_eq_true h.1, Nat.eq_of_beq_eq_true h.2]
 | .own k o n, .own k' o' n', h => by
  simp only [avE, zn] at h
  rw [Nat.eq_of_beq_eq_true h.1.1, Nat.eq_of_beq_eq_true h.1.2, Nat.eq_of_beq_eq_true h.2]
 | .ox k o n, .ox k' o' n', h => by
  simp only [avE, zn] at h
  rw [Nat.eq_of_beq_eq_true h.1.1, Nat.eq_of_beq_eq_true h.1.2, Nat.eq_of_beq_eq_true h.2]
 | .sv k n, .sv k' n', h => by
  simp only [avE, zn] at h
  rw [Nat.eq_of_beq_eq_true h.1, Nat.eq_of_beq_eq_true h.2]
 | .mp k, .mp k', h => by
  simp only [avE] at h
  rw [Nat.eq_of_beq_eq_true h]
 | .fn f x y, .fn f' x' y', h => by
  simp only [avE, zn] at h
  rw [Nat.eq_of_beq_eq_true h.1.1, ao3 _ _ h.1.2, ao3 _ _ h.2]
 | .ag l, .ag l', h => by rw [ao3 l l' h]
 | .tup l, .tup l', h => by rw [ao3 l l' h]
theorem ao3 : ∀ (bs as : List AV), aLd bs as = true → bs = as
 | [], [], _ => rfl
 | b :: bs, a :: as, h => by
  simp only [aLd, zn] at h
  rw [as9 b a h.1, ao3 bs as h.2]
 | [], _ :: _, h => by cases h
 | _ :: _, [], h => by cases h
end
def aCJ : List (Nat × AV) → List (Nat × AV) → Bool
 | [], [] => true
 | (t, b) :: r, (t', b') :: r' => match Nat.beq t t' with
  | true => match avE b b' with
   | true => aCJ r r'
   | false => false
  | false => false
 | _, _ => false
theorem ayB : ∀ {l l' : List (Nat × AV)}, aCJ l l' = true → l = l'
 | [], [], _ => rfl
 | [], _ :: _, h => by cases h
 | _ :: _, [], h => by cases h
 | (t, b) :: r, (t', b') :: r', h => by
  simp only [aCJ] at h
  split at h
  ·rename_i h1
   split at h
   ·rename_i h2
    rw [Nat.eq_of_beq_eq_true h1, as9 _ _ h2, ayB h]
   ·cases h
  ·cases h
def aNN : List (DK × AV) → List (DK × AV) → Bool
 | [], [] => true
 | (t, b) :: r, (t', b') :: r' => match eqK t t' with
  | true => match avE b b' with
   | true => aNN r r'
   | false => false
  | false => false
 | _, _ => false
theorem aHS : ∀ {l l' : List (DK × AV)}, aNN l l' = true → l = l'
 | [], [], _ => rfl
 | [], _ :: _, h => by cases h
 | _ :: _, [], h => by cases h
 | (t, b) :: r, (t', b') :: r', h => by
  simp only [aNN] at h
  split at h
  ·rename_i h1
   split at h
   ·rename_i h2
    rw [aK8 h1, as9 _ _ h2, aHS h]
   ·cases h
  ·cases h
def bkE : Bk → Bk → Bool
 | .any, .any => true
 | .dic k l, .dic k' l' => match decide (k = k') with
  | true => aNN l l'
  | false => false
 | .vars e cells, .vars e' cells' => Nat.beq e e' && aLd cells cells'
 | .row e t l, .row e' t' l' => Nat.beq e e' && match (t'.sl).as (.sl t) l' with
  | some z => eqT (.sl t) l z
  | none => false
 | _, _ => false
theorem aNp : ∀ (b a : Bk), bkE b a = true → b = a
 | .any, .any, _ => rfl
 | .dic k l, .dic k' l', h => by
  simp only [bkE] at h
  split at h
  ·rename_i h1
   rw [of_decide_eq_true h1, aHS h]
  ·cases h
 | .vars e cells, .vars e' cells', h => by
  simp only [bkE, zn] at h
  rw [Nat.eq_of_beq_eq_true h.1, ao3 _ _ h.2]
 | .row e t l, .row e' t' l', h => by
  simp only [bkE, zn] at h
  have h2 := h.2
  split at h2
  ·rename_i z hz
   have := aIe hz h2
   injection this with g1 g2
   injection g1 with g1
   subst g1
   rw [Nat.eq_of_beq_eq_true h.1, eq_of_heq g2]
  ·cases h2
def aJJ : Heap → Heap → Bool
 | [], [] => true
 | (t, b) :: r, (t', b') :: r' => match Nat.beq t t' with
  | true => match bkE b b' with
   | true => aJJ r r'
   | false => false
  | false => false
 | _, _ => false
theorem aDf : ∀ {l l' : Heap}, aJJ l l' = true → l = l'
 | [], [], _ => rfl
 | [], _ :: _, h => by cases h
 | _ :: _, [], h => by cases h
 | (t, b) :: r, (t', b') :: r', h => by
  simp only [aJJ] at h
  split at h
  ·rename_i h1
   split at h
   ·rename_i h2
    rw [Nat.eq_of_beq_eq_true h1, aNp _ _ h2, aDf h]
   ·cases h
  ·cases h
def stE (σ σ' : St) : Bool := Nat.beq σ.n σ'.n && Nat.beq σ.next σ'.next && aCJ σ.slots σ'.slots && aJJ σ.H σ'.H
theorem aMw {σ σ' : St} (h : stE σ σ' = true) : σ = σ' := by
 simp only [stE, zn] at h
 obtain ⟨⟨⟨h1, h2⟩, h3⟩, h4⟩ := h
 cases σ; cases σ'
 simp only at h1 h2 h3 h4
 rw [Nat.eq_of_beq_eq_true h1, Nat.eq_of_beq_eq_true h2, ayB h3, aDf h4]
def aNI : Nat → Nat → AV → List (Nat × AV) → List (Nat × AV)
 | 0, t, v, l => (t, v) :: l
 | _ + 1, t, v, [] => [(t, v)]
 | n + 1, t, v, (k, a) :: r => match Nat.blt k t with
  | true => (k, a) :: aNI n t v r
  | false => (t, v) :: (k, a) :: r
theorem azU (u : Nat) : ∀ (n t : Nat) (v : AV) (l : List (Nat × AV)), acT (aNI n t v l) u = acT ((t, v) :: l) u
 | 0, _, _, _ => rfl
 | _ + 1, _, _, [] => rfl
 | n + 1, t, v, (k, a) :: r => by
  simp only [aNI]
  cases hb : Nat.blt k t with
  | false => rfl
  | true =>
   have hlt : k < t := Nat.le_of_ble_eq_true hb
   have ih := azU u n t v r
   simp only [acT] at ih ⊢
   cases h1 : Nat.beq k u with
   | true =>
    have := Nat.eq_of_beq_eq_true h1
    subst this
    have h2 : Nat.beq t k = false := arU zc
    simp only [h2]
   | false => simp only; exact ih
def aNJ (lo : Nat) (k : Nat) (b : Bk) : Heap → Heap
 | [] => [(k, b)]
 | (j, c) :: r => match Nat.blt lo j && Nat.blt j k with
  | true => (j, c) :: aNJ lo k b r
  | false => (k, b) :: (j, c) :: r
theorem azY (lo k : Nat) (b : Bk) : ∀ l : Heap, (aNJ lo k b l).Perm ((k, b) :: l)
 | [] => .refl _
 | (j, c) :: r => by
  simp only [aNJ]
  split
  ·exact ((azY lo k b r).cons _).trans (.swap _ _ _)
  ·exact .refl _
def aLt (n : Nat) : List (Nat × AV) → List (Nat × AV)
 | [] => []
 | (t, v) :: r => aNI n t v r
def aIN (lo : Nat) : Heap → Heap
 | [] => []
 | (k, b) :: r => aNJ lo k b r
def St.sort (n lo : Nat) (σ : St) : St := { σ with slots := aLt n σ.slots, H := aIN lo σ.H }
theorem aDC (lo : Nat) : ∀ l : Heap, (aIN lo l).Perm l
 | [] => .refl _
 | (_, _) :: _ => azY ..
theorem aEx (n u : Nat) : ∀ l : List (Nat × AV), acT (aLt n l) u = acT l u
 | [] => rfl
 | (_, _) :: _ => azU ..
theorem SRel.sort {ρ : Nat → Nat} {σ : St} {a : Act} {w : World} (hs : SRel C ρ σ a w) (n lo : Nat) : SRel C ρ (σ.sort n lo) a w ∧ ∀ m, Fr C m ρ σ.H w ρ (σ.sort n lo).H w := by
 have hp := aDC lo σ.H
 obtain ⟨h1, h2⟩ := hs.m.perm (H' := aIN lo σ.H) (fun x => hp.mem_iff.symm) ((hp.map _).nodup_iff.2 hs.m.nodup)
 refine ⟨⟨h1, fun t => ?_, hs.size, hs.defers.mono h2.data h2.size⟩, fun m => h2.fr (fun k _ hk => ((hp.map _).mem_iff).1 hk)⟩
 show VR C ρ (aIN lo σ.H) w (acT (aLt n σ.slots) t) _
 rw [aEx]
 exact h2.vr (hs.slots t)
def aB6 : Bk → Bk
 | .loop r => match r.st with
  | .exhausted => .any
  | _ => .loop r
 | b => b
def ar6 : Heap → Heap
 | [] => []
 | (k, b) :: r => (k, aB6 b) :: ar6 r
def St.forget (σ : St) : St := { σ with H := ar6 σ.H }
theorem apP : ∀ H : Heap, (ar6 H).keys = H.keys
 | [] => rfl
 | (k, _) :: r => congrArg (k :: ·) (apP r)
theorem ar5 : ∀ {H : Heap} {k : Nat} {b : Bk}, (k, b) ∈ ar6 H → ∃ c, (k, c) ∈ H ∧ b = aB6 c
 | (j, c) :: r, k, b, h => by
  rcases zp.1 h with e | h
  ·injection e with e1 e2; subst e1; exact ⟨c, zy, e2⟩
  ·obtain ⟨d, h1, h2⟩ := ar5 h; exact ⟨d, zt _ h1, h2⟩
theorem ar4 : ∀ {H : Heap} {k : Nat} {e : TypeId} {t : Ty} {l : List t.T}, (k, Bk.row e t l) ∈ H → (k, Bk.row e t l) ∈ ar6 H
 | (j, c) :: r, k, e, t, l, h => by
  rcases zp.1 h with h | h
  ·rw [← h]; exact zy
  ·exact zt _ (ar4 h)
theorem SRel.forget {ρ : Nat → Nat} {σ : St} {a : Act} {w : World} (hs : SRel C ρ σ a w) : SRel C ρ σ.forget a w ∧ ∀ m, Fr C m ρ σ.H w ρ σ.forget.H w := by
 have hk : σ.forget.H.keys = σ.H.keys := apP σ.H
 have h2 : Ext C ρ σ.H w ρ σ.forget.H w := ⟨fun b hb => ⟨⟨hb.1, hb.2.1, fun k h => hb.2.2 k (hk ▸ h)⟩, rfl⟩, fun k h => ⟨by rw [hk]; exact h, rfl⟩, fun k e t l h => ⟨l, ar4 h, zm _, fun c fr hc => ⟨c, fr, hc, rfl⟩⟩, zm _⟩
 refine ⟨⟨⟨hs.m.below, by rw [hk]; exact hs.m.nodup, fun k h => hs.m.lt k (hk ▸ h), fun k h k' h' => hs.m.inj k (hk ▸ h) k' (hk ▸ h'), fun k h => hs.m.low k (hk ▸ h), fun k b hb => ?_⟩, fun t => h2.vr (hs.slots t), hs.size, hs.defers.mono h2.data h2.size⟩, fun m => h2.fr (fun k _ h => hk ▸ h)⟩
 obtain ⟨c, hc, rfl⟩ := ar5 hb
 have hr := hs.m.mem k c hc
 cases c with
 | loop r =>
  unfold aB6
  cases hst : r.st <;> simp only [hst] <;> first | exact BkR.ext h2 rfl hr | exact hr.block
 | _ => exact BkR.ext h2 rfl hr
theorem aBT (n k p lo : Nat) (σ : St) (r : List (Nat × Nat)) (hn : σ.next ≤ (((σ.rekeysK n r).sort p lo).forget.raise k).next) : aFc n σ (((σ.rekeysK n r).sort p lo).forget.raise k) := by
 intro C ρ a w hs
 obtain ⟨ρ', h1, h2⟩ := SRel.rekeysK (n := n) r hs
 obtain ⟨h3, h4⟩ := h1.sort p lo
 obtain ⟨h5, h6⟩ := h3.forget
 exact ⟨ρ', h5.raise k, (h2.trans (zm _) (h4 n)).trans (zm _) (h6 n), hn⟩
end
open Go Go.RowKit
def aG0 (a : AV) (K : AV → Prop) : Prop := match a with
 | .d t x => K (.d t x)
 | .ptr k o => K (.ptr k o)
 | .eptr k i => K (.eptr k i)
 | .efp k i f => K (.efp k i f)
 | .dptr t x => K (.dptr t x)
 | .own k o n => K (.own k o n)
 | .ox k o n => K (.ox k o n)
 | .sv k n => K (.sv k n)
 | .nsl => K (.nsl)
 | .nilp => K (.nilp)
 | .nili => K (.nili)
 | .nni => K (.nni)
 | .ifc k t x => K (.ifc k t x)
 | .fn f a b => K (.fn f a b)
 | .yld l => K (.yld l)
 | .mp k => K (.mp k)
 | .ag l => K (.ag l)
 | .tup l => K (.tup l)
 | .und => K (.und)
 | .no => K (.no)
theorem azQ (a : AV) (K : AV → Prop) : aG0 a K = K a := by cases a <;> rfl
def arT : List AV → (List AV → Prop) → Prop
 | [], K => K []
 | a :: r, K => aG0 a fun a' => arT r fun r' => K (a' :: r')
theorem azP : ∀ (l : List AV) (K : List AV → Prop), arT l K = K l
 | [], _ => rfl
 | a :: r, K => by simp only [arT, azQ, azP r]
def aJs (a : AV) (K : AV → Prop) : Prop := match a with
 | .fn f x y => arT x fun x' => arT y fun y' => K (.fn f x' y')
 | .ag l => arT l fun l' => K (.ag l')
 | .tup l => arT l fun l' => K (.tup l')
 | a => aG0 a K
theorem aC5 (a : AV) (K : AV → Prop) : aJs a K = K a := by
 cases a <;> simp only [aJs, azP, azQ]
def aJp : List AV → (List AV → Prop) → Prop
 | [], K => K []
 | a :: r, K => aJs a fun a' => aJp r fun r' => K (a' :: r')
theorem aC3 : ∀ (l : List AV) (K : List AV → Prop), aJp l K = K l
 | [], _ => rfl
 | a :: r, K => by simp only [aJp, aC5, aC3 r]
def aC2 : List (Nat × AV) → (List (Nat × AV) → Prop) → Prop
 | [], K => K []
 | (t, a) :: r, K => aJs a fun a' => aC2 r fun r' => K ((t, a') :: r')
theorem azO : ∀ (l : List (Nat × AV)) (K : List (Nat × AV) → Prop), aC2 l K = K l
 | [], _ => rfl
 | (t, a) :: r, K => by simp only [aC2, aC5, azO r]
def aLK (b : Bk) (K : Bk → Prop) : Prop := match b with
 | .vars e l => aJp l fun l' => K (.vars e l')
 | b => K b
theorem aJr (b : Bk) (K : Bk → Prop) : aLK b K = K b := by cases b <;> simp only [aLK, aC3]
def aJq : Heap → (Heap → Prop) → Prop
 | [], K => K []
 | (k, b) :: r, K => aLK b fun b' => aJq r fun r' => K ((k, b') :: r')
theorem aC4 : ∀ (H : Heap) (K : Heap → Prop), aJq H K = K H
 | [], _ => rfl
 | (k, b) :: r, K => by simp only [aJq, aJr, aC4 r]
def avC (σ : St) (K : St → Prop) : Prop := aC2 σ.slots fun s => aJq σ.H fun h => K { slots := s, H := h, next := σ.next, n := σ.n }
theorem ahW (σ : St) (K : St → Prop) : avC σ K = K σ := by simp only [avC, azO, aC4]
def aKX (o : Oper) : Bool :=
 match o.guard with
 | some _ => false
 | none => match o.dst with
  | none => false
  | some _ => match o.op with
   | .move _ => true
   | .load _ _ => true
   | .fieldAddr _ _ _ => true
   | .field _ _ _ => true
   | .indexAddr _ _ _ => true
   | .index _ _ _ => true
   | .extract _ _ => true
   | .convert _ _ _ => true
   | .build _ _ => true
   | .binOp _ _ _ _ _ => true
   | .unOp _ _ _ => true
   | _ => false
def evU (P : Program) (H : Heap) (arg : Operand → AV) (o : Oper) : T AV :=
 match o.op with
 | .load t a => apL P H t (arg a)
 | _ => evP P H arg o
def aID : List Oper → Nat → Nat → Nat
 | [], _, u => u
 | o :: r, i, u => match aKX o && o.after.toList.all (fun e => !ab8 e || u.testBit e.on) with
  | true => aID r (i + 1) (u ||| 2 ^ i)
  | false => aID r (i + 1) u
def aNn (o : Oper) (t : Nat) : List Oper → Nat → Bool
 | [], _ => true
 | p :: r, j => (match p.dst with
  | some d => match Nat.beq d t with
   | true => ac6 o j
   | false => true
  | none => true) && aNn o t r (j + 1)
def aiK (o : Oper) : Bool := match o.op with
 | .select _ _ => false
 | .defer _ => false
 | _ => true
def aMp (pre : List Oper) : List Oper → Nat → Bool
 | [], _ => true
 | o :: r, i => (match o.guard with | none => true | some _ => false) && ((ajD o.op.operands.toList).all (fun t => aNn o t pre 0) && ((match o.dst with | some d => asZ i d pre 0 | none => true) && (aiK o && aMp pre r (i + 1))))
def ag7 (m i : Nat) : List Nat → Nat → Bool
 | [], _ => false
 | x :: r, j => (m.testBit j && x.testBit i) || ag7 m i r (j + 1)
def auQ (a b : AV) : Prop := a = b
def aFH (r y : AV) (K : Prop) : Prop := match y with
 | .ptr _ _ => (match avE r y with | true => K | false => False)
 | .nsl => (match avE r y with | true => K | false => False)
 | .own _ _ _ => (match avE r y with | true => K | false => False)
 | _ => auQ r y ∧ K
theorem ayG {r y : AV} {K : Prop} (h : aFH r y K) : r = y ∧ K := by
 unfold aFH at h
 split at h
 ·split at h
  ·rename_i h1; exact ⟨as9 _ _ h1, h⟩
  ·exact h.elim
 ·split at h
  ·rename_i h1; exact ⟨as9 _ _ h1, h⟩
  ·exact h.elim
 ·split at h
  ·rename_i h1; exact ⟨as9 _ _ h1, h⟩
  ·exact h.elim
 ·exact h
def aNF (c n : Nat) : Heap → List (Nat × Nat)
 | [] => []
 | (k, _) :: r => match Nat.ble n k with
  | true => (k, c + (k - n)) :: aNF c n r
  | false => aNF c n r
def aOt (b L i k : Nat) (σ σ1 : St) : St :=
 match Nat.ble σ1.next ((σ1.rekeysK b (aNF (b + 1000 * (i + 1)) σ.next σ1.H)).raise (b + 1000 * (L + 2) + 1000 * (L - k))).next with
 | true => (σ1.rekeysK b (aNF (b + 1000 * (i + 1)) σ.next σ1.H)).raise (b + 1000 * (L + 2) + 1000 * (L - k))
 | false => σ1
theorem aEY (b L i k : Nat) (σ σ1 : St) : aFc b σ1 (aOt b L i k σ σ1) := by
 unfold aOt
 split
 ·rename_i h; exact aBR _ _ _ _ (Nat.le_of_ble_eq_true h)
 ·exact fun C ρ a w hs => ⟨ρ, hs, Fr.refl _ _ _ _ _, zm _⟩
def obU (P : Program) (σ : St) (o : Oper) (K : Prop) : Prop :=
 match o.dst with
 | none => False
 | some d => (evU P σ.H σ.eval o).holds fun r => match acT σ.slots d with
  | .no => K
  | y => aFH r y K
def aeK (P : Program) (ms : List Nat) (u m : Nat) (σ : St) (K : Prop) : List Oper → Nat → Prop
 | [], _ => K
 | o :: r, i => match u.testBit i && !ag7 m i ms 0 with
  | true => obU P σ o (aeK P ms u m σ K r (i + 1))
  | false => aeK P ms u m σ K r (i + 1)
def aIX (P : Program) (u : Nat) (K : St → Prop) : List Oper → Nat → St → Prop
 | [], _, σ => K σ
 | o :: r, i, σ => match u.testBit i with
  | true => (evU P σ.H σ.eval o).holds fun x => aIX P u K r (i + 1) (σ.put o.dst x)
  | false => aIX P u K r (i + 1) σ
def aJT (o : Oper) (v : Nat) : Bool := o.after.toList.all fun e => !ab8 e || v.testBit e.on
def asI (v : Nat) : List Oper → Nat → List (Nat × Oper)
 | [], _ => []
 | o :: r, i => match !(v.testBit i) && aJT o v with
  | true => (i, o) :: asI v r (i + 1)
  | false => asI v r (i + 1)
structure Both (p q : Prop) : Prop where
 l : p
 r : q
def aNu (f : Nat × Oper → Prop) : List (Nat × Oper) → Prop
 | [] => False
 | [x] => f x
 | x :: y :: r => Both (f x) (aNu f (y :: r))
theorem aDv {f : Nat × Oper → Prop} : ∀ {l : List (Nat × Oper)}, aNu f l → ∀ x ∈ l, f x
 | [x], h, y, hy => by
  rcases zp.1 hy with rfl | hy
  ·exact h
  ·cases hy
 | x :: z :: r, h, y, hy => by
  rcases zp.1 hy with rfl | hy
  ·exact h.l
  ·exact aDv h.r y hy
def goQ (K : St → Prop) : Fi → Prop
 | .go σ => K σ
 | .pan _ _ => False
def apW (v : Nat) : List Oper → Nat → Nat
 | [], _ => 0
 | _ :: r, i => match v.testBit i with
  | true => apW v r (i + 1)
  | false => apW v r (i + 1) + 1
def alQ (m : Nat) : List Oper → Nat → Nat → Nat
 | [], _, u => u
 | o :: r, i, u => match !((u ||| m).testBit i) && (aKX o && o.after.toList.all (fun e => !ab8 e || (u ||| m).testBit e.on)) with
  | true => alQ m r (i + 1) (u ||| 2 ^ i)
  | false => alQ m r (i + 1) u
def aOK (c : Nat) (t s : Prop) : Prop := match c with
 | 0 => t
 | _ + 1 => s
def aG8 {α : Type} : List α → Bool
 | _ :: _ :: _ => true
 | _ => false
def aOu (c : Bool) (b L i k : Nat) (σ σ1 : St) : St := match c with
 | true => aOt b L i k σ σ1
 | false => σ1
theorem aEZ (c : Bool) (b L i k : Nat) (σ σ1 : St) : aFc b σ1 (aOu c b L i k σ σ1) := by
 cases c with
 | true => exact aEY b L i k σ σ1
 | false => exact fun C ρ a w hs => ⟨ρ, hs, Fr.refl _ _ _ _ _, zm _⟩
def aAe (P : Program) (Γ : Cons) (call : abP) (b : Nat) (pre : List Oper) (ms : List Nat) (tl : St → Prop) : Nat → Bool → Nat → Nat → St → Prop
 | 0, _, u, m, σ => aeK P ms u m σ (aOK (apW (u ||| m) pre 0) (tl σ) False) pre 0
 | k + 1, c, u, m, σ => aeK P ms u m σ (aOK (apW (u ||| m) pre 0) (tl σ) (aNu (fun x => opS P Γ call x.2 σ (goQ fun σ' => avC (aOu (c || aG8 (asI (u ||| m) pre 0)) b pre.length x.1 k σ σ') fun σ2 => aIX P (alQ (m ||| 2 ^ x.1) pre 0 u ^^^ u) (fun σ1 => aAe P Γ call b pre ms tl k (c || aG8 (asI (u ||| m) pre 0)) (alQ (m ||| 2 ^ x.1) pre 0 u) (m ||| 2 ^ x.1) σ1) pre 0 σ2)) (asI (u ||| m) pre 0))) pre 0
def aEK (P : Program) (Γ : Cons) (call : abP) (ops : Array Oper) (σ : St) (K : Fi → Prop) : Prop :=
 let l := ops.toList
 let ms := abN l []
 let m := abX ms
 let pre := l.take m
 let u := aID pre 0 0
 match aMp pre pre 0 && acP l 0 && ahH m ms 0 && Nat.ble m l.length with
 | true => avC σ fun σ => aIX P u (fun σ' => aAe P Γ call σ.next pre ms (fun σ'' => aa8 P Γ call ops (l.drop m) σ'' K) (apW u pre 0) false u 0 σ') pre 0 σ
 | false => False
theorem MRel.keepP {C : Ctx} {ρ : Nat → Nat} {H : Heap} {next : Nat} {w : World} (hm : MRel C ρ H next w) (p : Nat → Bool) :
  MRel C ρ (H.keep p aeM) next w ∧ (∀ x v, VR C ρ H w x v → VR C ρ (H.keep p aeM) w (x.map p aeM) v) ∧ ∀ n, Fr C n ρ H w ρ (H.keep p aeM) w := by
 have hv : ∀ x v, VR C ρ H w x v → VR C ρ (H.keep p aeM) w (x.map p aeM) v := fun x v h =>
  VR.map (fun b hb => ⟨hb.keep, rfl⟩) (fun k hk hp => ⟨Heap.keys_keep.2 ⟨hp, hk⟩, rfl⟩) (fun k e t l hk hp => ⟨l, Heap.mem_keep.2 ⟨hp, _, hk, rfl⟩, zm _, fun c fr hc => ⟨c, fr, hc, rfl⟩⟩) (fun _ _ _ _ _ _ => .no) h
 have hd : ∀ b, Ok C ρ H w b → Ok C ρ (H.keep p aeM) w b ∧ w.heap[b]? = w.heap[b]? := fun b hb => ⟨hb.keep, rfl⟩
 refine ⟨⟨hm.below, Heap.nodup_keep hm.nodup, fun k hk => hm.lt k (Heap.keys_keep.1 hk).2, fun k hk k' hk' => hm.inj k (Heap.keys_keep.1 hk).2 k' (Heap.keys_keep.1 hk').2, fun k hk => hm.low k (Heap.keys_keep.1 hk).2, fun k b hb => ?_⟩, hv,
  fun n => ⟨hd, fun k _ hk => ⟨(Heap.keys_keep.1 hk).2, rfl⟩, fun k e t l _ hkm hk => ⟨l, Heap.mem_keep.2 ⟨(Heap.keys_keep.1 hk).1, _, hkm, rfl⟩, zm _, fun c fr hc => ⟨c, fr, hc, rfl⟩⟩, zm _⟩⟩
 obtain ⟨_, b', hb', rfl⟩ := Heap.mem_keep.1 hb
 have hbr := hm.mem k b' hb'
 cases b' with
 | vars e cells =>
  obtain ⟨c, g1, g2, g3⟩ := hbr
  exact ⟨c, g1, VRs.map hv g2, g3⟩
 | row e t l =>
  obtain ⟨c, g1, g2, g3, g4, g5⟩ := hbr
  exact ⟨c, g1, g2, g3, RdL.mono (fun x cs => Rd.mono hd t x cs) _ _ g4, g5⟩
 | loop r =>
  obtain ⟨fn, tmps, d, g1, g2, g3⟩ := hbr
  exact ⟨fn, tmps, d, g1, g2, fun t => by show VR C ρ _ w (acT (aa7 _ _ r.slots) t) _; rw [am5]; exact hv _ _ (g3 t)⟩
 | dic k l => obtain ⟨es, n, g1, g2⟩ := hbr; exact ⟨es, n, g1, g2.map hv⟩
 | any => exact hbr
section
variable {C : Ctx} {P : Program} {G : World → Prop} {Γ : Cons} {ops : Array Oper}
theorem aAg {ρ : Nat → Nat} {H : Heap} {next : Nat} {w : World} (hm : MRel C ρ H next w) {arg : Operand → AV} {val : Operand → Value} {o : Oper} {r : AV} (h : (evU P H arg o).Leaf r)
  (hv : ∀ x, VR C ρ H w (arg x) (val x)) : ∃ v, (execOp val o).run P w = .ok (.value v) w ∧ VR C ρ H w r v := by
 unfold evU at h
 split at h
 ·rename_i t a ho
  obtain ⟨v', h1, h2⟩ := aj1 (fun _ h => h) hm h (hv a)
  exact ⟨v', by simp [execOp, ho, h1], h2⟩
 ·exact aAh (fun _ h => h) hm h hv
theorem aAz {o : Oper} {t : Nat} : ∀ {l : List Oper} {k : Nat}, aNn o t l k = true → ∀ {j : Nat} {p : Oper}, l[j]? = some p → p.dst = some t → ac6 o (k + j) = true
 | [], _, _, j, p, hp, _ => by simp at hp
 | q :: r, k, h, j, p, hp, hd => by
  simp only [aNn, zn] at h
  cases j with
  | zero =>
   simp at hp; subst hp
   have h1 := h.1
   rw [hd] at h1
   simp only [show Nat.beq t t = true from Nat.beq_refl t] at h1
   simpa using h1
  | succ j =>
   have := aAz h.2 (j := j) (by simpa using hp) hd
   rwa [show k + 1 + j = k + (j + 1) by omega] at this
theorem aAA {pre : List Oper} : ∀ {l : List Oper} {k : Nat}, aMp pre l k = true → ∀ {i : Nat} {o : Oper}, l[i]? = some o →
  o.guard = none ∧ (∀ t ∈ ajD o.op.operands.toList, aNn o t pre 0 = true) ∧ (∀ d, o.dst = some d → asZ (k + i) d pre 0 = true) ∧ aiK o = true
 | [], _, _, i, o, ho => by simp at ho
 | q :: r, k, h, i, o, ho => by
  simp only [aMp, zn, yo] at h
  cases i with
  | zero =>
   simp at ho; subst ho
   obtain ⟨h1, h2, h3, h4, _⟩ := h
   refine ⟨?_, h2, fun d hd => ?_, h4⟩
   ·cases hg : q.guard with
    | none => rfl
    | some x => rw [hg] at h1; cases h1
   ·rw [hd] at h3; exact h3
  | succ i =>
   obtain ⟨h1, h2, h3, h4⟩ := aAA h.2.2.2.2 (i := i) (o := o) (by simpa using ho)
   refine ⟨h1, h2, fun d hd => ?_, h4⟩
   have := h3 d hd
   rwa [show k + 1 + i = k + (i + 1) by omega] at this
theorem anF {m i : Nat} : ∀ {l : List Nat} {k : Nat}, ag7 m i l k = true → ∃ j x, l[j]? = some x ∧ m.testBit (k + j) = true ∧ x.testBit i = true
 | [], _, h => by cases h
 | x :: r, k, h => by
  simp only [ag7, yr, zn] at h
  rcases h with h | h
  ·exact ⟨0, x, rfl, h.1, h.2⟩
  ·obtain ⟨j, y, h1, h2, h3⟩ := anF h
   exact ⟨j + 1, y, by simpa using h1, by rwa [show k + (j + 1) = k + 1 + j by omega], h3⟩
theorem aw1 {σ : St} {o : Oper} {K : Prop} (h : obU P σ o K) : (∃ d r, o.dst = some d ∧ (evU P σ.H σ.eval o).Leaf r ∧ (acT σ.slots d = .no ∨ r = acT σ.slots d)) ∧ K := by
 unfold obU at h
 split at h
 ·exact h.elim
 ·rename_i d hd
  obtain ⟨r, h1, h2⟩ := T.leaf h
  split at h2
  ·rename_i hl; exact ⟨⟨d, r, hd, h1, Or.inl hl⟩, h2⟩
  ·exact ⟨⟨d, r, hd, h1, Or.inr (ayG h2).1⟩, (ayG h2).2⟩
theorem af8 {ms : List Nat} {u m : Nat} {σ : St} {K : Prop} : ∀ {l : List Oper} {k : Nat}, aeK P ms u m σ K l k → K
 | [], _, h => h
 | o :: r, k, h => by
  simp only [aeK] at h
  split at h
  ·exact af8 (aw1 h).2
  ·exact af8 h
theorem akP {ms : List Nat} {u m : Nat} {σ : St} {K : Prop} : ∀ {l : List Oper} {k : Nat}, aeK P ms u m σ K l k → ∀ {i : Nat} {o : Oper}, l[i]? = some o → u.testBit (k + i) = true → ag7 m (k + i) ms 0 = false →
  ∃ d r, o.dst = some d ∧ (evU P σ.H σ.eval o).Leaf r ∧ (acT σ.slots d = .no ∨ r = acT σ.slots d)
 | [], _, _, i, o, ho, _, _ => by simp at ho
 | q :: r, k, h, i, o, ho, hu, hb => by
  simp only [aeK] at h
  cases i with
  | zero =>
   simp at ho; subst ho
   rw [xm] at hu hb
   rw [hu, hb] at h
   exact (aw1 h).1
  | succ i =>
   have e : k + (i + 1) = k + 1 + i := zc
   rw [e] at hu hb
   split at h
   ·exact akP (aw1 h).2 (by simpa using ho) hu hb
   ·exact akP h (by simpa using ho) hu hb
theorem aAn {v : Nat} : ∀ {l : List Oper} {k i : Nat} {o : Oper}, l[i]? = some o → v.testBit (k + i) = false → aJT o v = true → (k + i, o) ∈ asI v l k
 | [], _, i, o, ho, _, _ => by simp at ho
 | q :: r, k, i, o, ho, hv, he => by
  simp only [asI]
  cases i with
  | zero =>
   simp at ho; subst ho
   rw [xm] at hv ⊢
   rw [hv, he]
   exact zy
  | succ i =>
   have e : k + (i + 1) = k + 1 + i := zc
   rw [e] at hv ⊢
   have := aAn (k := k + 1) (by simpa using ho) hv he
   split
   ·exact zt _ this
   ·exact this
theorem asS {v : Nat} : ∀ {l : List Oper} {k : Nat}, (∀ i, i < l.length → v.testBit (k + i) = true) → apW v l k = 0
 | [], _, _ => rfl
 | q :: r, k, h => by
  simp only [apW]
  rw [show v.testBit k = true by have := h 0 zf; rwa [xm] at this]
  exact asS fun i hi => by have := h (i + 1) zi; rwa [show k + 1 + i = k + (i + 1) by omega]
theorem apY {m i j : Nat} : (m ||| 2 ^ i).testBit j = (m.testBit j || decide (i = j)) := by
 rw [yy, Nat.testBit_two_pow]
theorem aHZ {v n : Nat} : ∀ {l : List Oper} {k : Nat}, (∀ i, i < l.length → k + i ≠ n) → apW (v ||| 2 ^ n) l k = apW v l k
 | [], _, _ => rfl
 | q :: r, k, h => by
  have hk : n ≠ k := fun e => h 0 zf zc
  have ih := aHZ (v := v) (n := n) (l := r) (k := k + 1) fun i hi => by have := h (i + 1) zi; omega
  simp only [apW, apY, zk hk, Bool.or_false, ih]
theorem aDq {v n : Nat} : ∀ {l : List Oper} {k i : Nat}, i < l.length → n = k + i → v.testBit n = false → apW v l k = apW (v ||| 2 ^ n) l k + 1
 | q :: r, k, 0, _, hn, hv => by
  rw [xm] at hn
  subst hn
  have := aHZ (v := v) (n := n) (l := r) (k := n + 1) fun i _ => by omega
  simp only [apW, apY, hv, decide_true, Bool.or_true, this]
 | q :: r, k, i + 1, hi, hn, hv => by
  have ih := aDq (l := r) (k := k + 1) (i := i) (by simpa using hi) zc hv
  have hk : n ≠ k := zc
  simp only [apW, apY, zk hk, Bool.or_false]
  split
  ·exact ih
  ·omega
theorem aAy {v v' : Nat} (h : ∀ i, v.testBit i = true → v'.testBit i = true) : ∀ {l : List Oper} {k : Nat}, apW v' l k ≤ apW v l k
 | [], _ => zm _
 | q :: r, k => by
  have ih := aAy h (l := r) (k := k + 1)
  simp only [apW]
  cases h1 : v.testBit k with
  | true => rw [h k h1]; exact ih
  | false =>
   cases v'.testBit k with
   | true => exact Nat.le_succ_of_le ih
   | false => exact Nat.succ_le_succ ih
theorem anP {m : Nat} : ∀ {l : List Oper} {k u : Nat}, (∀ j, u.testBit j = true → (alQ m l k u).testBit j = true) ∧ ∀ j, (alQ m l k u).testBit j = true → u.testBit j = true ∨ m.testBit j = false
 | [], _, _ => ⟨fun _ h => h, fun _ h => Or.inl h⟩
 | o :: r, k, u => by
  simp only [alQ]
  split
  ·rename_i hc
   rw [zn] at hc
   obtain ⟨h1, h2⟩ := anP (m := m) (l := r) (k := k + 1) (u := u ||| 2 ^ k)
   refine ⟨fun j hj => h1 j (by rw [apY, hj]; rfl), fun j hj => ?_⟩
   rcases h2 j hj with h | h
   ·rw [apY, yr, zC] at h
    rcases h with h | rfl
    ·exact Or.inl h
    ·have h3 := hc.1
     rw [yy] at h3
     simp only [zT, xw] at h3
     exact Or.inr h3.2
   ·exact Or.inr h
  ·exact anP
theorem aDl {P : Program} {Γ : Cons} {call : abP} {b : Nat} {pre : List Oper} {ms : List Nat} {tl : St → Prop} {k u m : Nat} {c : Bool} {σ : St} (hc : apW (u ||| m) pre 0 = 0) (h : aAe P Γ call b pre ms tl k c u m σ) : tl σ := by
 cases k with
 | zero => have h := af8 (show aeK P ms u m σ _ pre 0 from h); rw [hc] at h; exact h
 | succ k => have h := af8 (show aeK P ms u m σ _ pre 0 from h); rw [hc] at h; exact h
structure Agree (L : Nat → Prop) (a b : Act) : Prop where
 tmps : ∀ t, ¬ L t → a.tmps.getD t undef = b.tmps.getD t undef
 size : a.tmps.size = b.tmps.size
 defers : a.defers = b.defers
theorem Agree.put {L : Nat → Prop} {a b : Act} (h : Agree L a b) (dst : Option Nat) (v : Value) : Agree L (a.put dst v) (b.put dst v) := by
 refine ⟨fun t ht => ?_, by rw [aiG, aiG]; exact h.size, by rw [adL, adL]; exact h.defers⟩
 rw [aiP, aiP, h.size, h.tmps t ht]
theorem Agree.eval {L : Nat → Prop} {a b : Act} (h : Agree L a b) {x : Operand} (hx : ∀ t, x = .tmp t → ¬ L t) : a.eval x = b.eval x := by
 cases x with
 | tmp t => exact h.tmps t (hx t rfl)
 | _ => rfl
theorem SRel.agree {ρ : Nat → Nat} {σ : St} {a b : Act} {w : World} (hs : SRel C ρ σ b w) (h : Agree (fun _ => False) a b) : SRel C ρ σ a w :=
 ⟨hs.m, fun t => by rw [h.tmps t (fun h => h)]; exact hs.slots t, by rw [h.size]; exact hs.size, by rw [h.defers]; exact hs.defers⟩
theorem aDy {L : Nat → Prop} {a b : Act} {w : World} {o : Oper} {r : Option Nat} {Ka Kb : Act → World → Prop} {Q : Exit → Act → World → Prop} (hsel : aiK o = true) (ha : Agree L a b) (he : ∀ x ∈ o.op.operands, a.eval x = b.eval x)
  (hK : ∀ a' b' w', Agree L a' b' → Kb b' w' → Ka a' w') (h : o.wpIn (aa1 r) 0 P b w Kb (fun _ _ _ => False)) : o.wpIn (aa1 r) 0 P a w Ka Q := by
 have h1 : ∀ cs d, o.op ≠ .select cs d := fun cs d e => by simp [aiK, e] at hsel
 have h2 : ∀ c, o.op ≠ .defer c := fun c e => by simp [aiK, e] at hsel
 unfold Oper.wpIn at h ⊢
 refine ⟨fun _ _ => trivial, ?_⟩
 have h := h.2
 rw [Oper.semAt_eq _ _ _ h2] at h ⊢
 rw [execOp_congr o h1 he]
 generalize (execOp b.eval o).run P w = res at h
 cases res with
 | ok x w' =>
  cases x <;> simp only [Oper.uponIn] at h ⊢
  case value u => exact hK _ _ _ (ha.put _ _) h
  case skip => exact hK _ _ _ (ha.put _ _) h
  case defer d => exact hK _ _ _ (Agree.put (a := { a with defers := d :: a.defers }) (b := { b with defers := d :: b.defers }) ⟨ha.tmps, ha.size, congrArg (d :: ·) ha.defers⟩ _ _) h
  case enter f args =>
   refine ⟨h.1, CallsIn.mono h.2 fun e w'' he => ?_⟩
   cases e with
   | returned u => exact hK _ _ _ (ha.put _ _) he
   | panicked c => exact he.elim
   | outgrown => obtain ⟨_, _, he⟩ := he; exact he.elim
  case row row args => exact ⟨h.1, RowsIn.mono h.2 fun u w'' he => hK _ _ _ (ha.put _ _) he⟩
  case round l f tmps assign body =>
   refine ⟨h.1, RoundIn.mono h.2 fun e w'' he => ?_⟩
   cases e with
   | returned u => exact hK _ _ _ (ha.put _ _) he
   | panicked c => exact he.elim
   | outgrown => obtain ⟨_, _, he⟩ := he; exact he.elim
 | halt x w' =>
  cases x <;> simp only [Oper.uponIn] at h
theorem akI {u : Nat} {Kf : St → Prop} {w : World} : ∀ (l : List Oper) (k : Nat) {ρ : Nat → Nat} {σ : St} {b : Act}, SRel C ρ σ b w → aIX P u Kf l k σ →
  ∃ σ' b', Kf σ' ∧ SRel C ρ σ' b' w ∧ Agree (fun t => ∃ j o, l[j]? = some o ∧ u.testBit (k + j) = true ∧ o.dst = some t) b b' ∧ σ'.H = σ.H ∧ σ'.next = σ.next
 | [], k, ρ, σ, b, hs, h => ⟨σ, b, h, hs, ⟨fun _ _ => rfl, rfl, rfl⟩, rfl, rfl⟩
 | o :: r, k, ρ, σ, b, hs, h => by
  simp only [aIX] at h
  have up : ∀ {t : Nat}, ¬ (∃ j o', (o :: r)[j]? = some o' ∧ u.testBit (k + j) = true ∧ o'.dst = some t) → ¬ ∃ j o', r[j]? = some o' ∧ u.testBit (k + 1 + j) = true ∧ o'.dst = some t := by
   rintro t hn ⟨j, o', h1, h2, h3⟩
   exact hn ⟨j + 1, o', by simpa using h1, by rwa [show k + (j + 1) = k + 1 + j by omega], h3⟩
  split at h
  ·rename_i hb
   obtain ⟨x, hx, h⟩ := T.leaf h
   obtain ⟨v, _, hv⟩ := aAg hs.m hx (fun y => hs.eval y)
   obtain ⟨σ', b', h1, h2, h3, h4, h5⟩ := akI r (k + 1) (hs.put (dst := o.dst) hv) h
   refine ⟨σ', b', h1, h2, ⟨fun t ht => ?_, by rw [← h3.size, aiG], by rw [← h3.defers, adL]⟩, by rw [h4, St.put_H], by rw [h5, St.put_next]⟩
   rw [← h3.tmps t (up ht), aiP, if_neg]
   rintro ⟨hd, _⟩
   exact ht ⟨0, o, rfl, hb, hd⟩
  ·obtain ⟨σ', b', h1, h2, h3, h4, h5⟩ := akI r (k + 1) hs h
   exact ⟨σ', b', h1, h2, ⟨fun t ht => h3.tmps t (up ht), h3.size, h3.defers⟩, h4, h5⟩
theorem aqX {listed : Array Bool} {i j : Nat} (hi : i < listed.size) : (listed.setIfInBounds i true).getD j false = if j = i then true else listed.getD j false := by
 rw [zo, zo]
 by_cases h : j = i
 ·subst h
  rw [if_pos rfl, yp hi]
  rfl
 ·rw [if_neg h, yg (Ne.symm h)]
def aO6 (l : List Oper) (m u : Nat) (listed : Array Bool) (t : Nat) : Prop := ∃ i o, i < m ∧ l[i]? = some o ∧ u.testBit i = true ∧ listed.getD i false = false ∧ o.dst = some t
theorem aHl (hG : acS G) (hC : G C.w0) (hΓ : Γ.ok P G) {call : abP} (hcall : CallSat P G call) {Q : Exit → Act → World → Prop} {K : Fi → Prop} {l : List Oper} {m : Nat} (hops : ops.toList = l)
  (hed : acP l 0 = true) (htail : ahH m (abN l []) 0 = true) (hml : m ≤ l.length) (hchk : aMp (l.take m) (l.take m) 0 = true) {σ0 : St} {ρ0 : Nat → Nat} {w0 : World}
  (hQ : ∀ a' w', Reach C σ0 ρ0 w0 (fun σ' => K (.go σ')) a' w' → Q .normal a' w') (hP : ∀ ch a' w', Reach C σ0 ρ0 w0 (fun σ' => K (.pan ch σ')) a' w' → Q (.panic ch) a' w') (rnd : Option Nat) :
  ∀ (fuel : Nat) (listed : Array Bool) (k : Nat) (cb : Bool) (u dn : Nat) {ρ : Nat → Nat} {σ : St} {a b : Act} {w : World}, listed.size = ops.size → (∀ j, m ≤ j → listed.getD j false = false) → av1 l (fun i => listed.getD i false) →
   (∀ i, i < m → u.testBit i = false → listed.getD i false = dn.testBit i) → (∀ j, dn.testBit j = true → j < m ∧ listed.getD j false = true) → apW (u ||| dn) (l.take m) 0 ≤ k →
   aAe P Γ call σ0.next (l.take m) (abN l []) (fun σ'' => aa8 P Γ call ops (l.drop m) σ'' K) k cb u dn σ → SRel C ρ σ b w → Agree (aO6 l m u listed) a b → Fr C σ0.next ρ0 σ0.H w0 ρ σ.H w → σ0.next ≤ σ.next →
   ops.size ≤ ax7 (fun i => listed.getD i false) ops.size + fuel → wpAnyIn (aa1 rnd) 0 P .any ops Q fuel listed a w := by
 have hlen : l.length = ops.size := by rw [← hops]; simp
 intro fuel
 induction fuel with
 | zero =>
  intro listed k cb u dn ρ σ a b w hsz htl hcl hN hdn hk ex hs hag hF hnx hfu
  have hall : ∀ i, i < m → listed.getD i false = true := by
   intro i hi
   cases hb : listed.getD i false with
   | true => rfl
   | false => have := axR (ls := fun i => listed.getD i false) hb (show i < ops.size by omega); omega
  have hk0 : apW (u ||| dn) (l.take m) 0 = 0 := by
   refine asS fun i hi => ?_
   have him : i < m := by simp at hi; omega
   rw [zw, yy]
   cases hu : u.testBit i with
   | true => rfl
   | false => rw [← hN i him hu, hall i him]; rfl
  have hc := aeP (ls := fun i => listed.getD i false) hall htl (n := ops.size)
  exact ap6 hG hC hΓ hcall hops hed htail (l.drop m) m 0 listed rfl (zm _) (by rw [zW]; omega) hsz
   (fun i _ => by
    by_cases him : i < m
    ·rw [hall i him, zl him]
    ·rw [htl i zc, zk him])
   (hs.agree ⟨fun t _ => hag.tmps t (by rintro ⟨i, o, h1, _, _, h2, _⟩; rw [hall i h1] at h2; cases h2), hag.size, hag.defers⟩) (aDl hk0 ex) (fun a' w' hr => hQ a' w' (hr.trans hF hnx)) (fun ch a' w' hr => hP ch a' w' (hr.trans hF hnx)) rnd
 | succ fuel ih =>
  intro listed k cb u dn ρ σ a b w hsz htl hcl hN hdn hk ex hs hag hF hnx hfu
  by_cases hall : ∀ i, i < m → listed.getD i false = true
  ·have hk0 : apW (u ||| dn) (l.take m) 0 = 0 := by
    refine asS fun i hi => ?_
    have him : i < m := by simp at hi; omega
    rw [zw, yy]
    cases hu : u.testBit i with
    | true => rfl
    | false => rw [← hN i him hu, hall i him]; rfl
   have hc := aeP (ls := fun i => listed.getD i false) hall htl (n := ops.size)
   exact ap6 hG hC hΓ hcall hops hed htail (l.drop m) m (fuel + 1) listed rfl (zm _) (by rw [zW]; omega) hsz
    (fun i _ => by
     by_cases him : i < m
     ·rw [hall i him, zl him]
     ·rw [htl i zc, zk him])
    (hs.agree ⟨fun t _ => hag.tmps t (by rintro ⟨i, o, h1, _, _, h2, _⟩; rw [hall i h1] at h2; cases h2), hag.size, hag.defers⟩) (aDl hk0 ex) (fun a' w' hr => hQ a' w' (hr.trans hF hnx)) (fun ch a' w' hr => hP ch a' w' (hr.trans hF hnx)) rnd
  ·obtain ⟨i0, hi0, hl0, hbef⟩ := am7 (ls := fun i => listed.getD i false) (m := m) (by
    apply Classical.byContradiction
    intro hn
    refine hall fun i hi => ?_
    cases hb : listed.getD i false with
    | true => rfl
    | false => exact absurd ⟨i, hi, hb⟩ hn)
   have gd : ∀ {i : Nat}, i < ops.size → listed.getD i true = listed.getD i false := by
    intro i hi
    rw [zo, zo, zN zc]
    rfl
   refine ⟨fun hnil => ?_, fun i hi => ?_⟩
   ·exfalso
    obtain ⟨o0, ho0⟩ : ∃ o, ops[i0]? = some o := ⟨_, zN (show i0 < ops.size by omega)⟩
    have h1 : l[i0]? = some o0 := by rw [← hops, zK]; exact ho0
    have : i0 ∈ Region.ready .any ops listed := mem_ready.2 ⟨by rw [gd zc]; exact hl0, o0, ho0, fun e he hb => by
     have h2 := abO hed h1 e he hb
     rw [zw] at h2
     exact hbef _ h2⟩
    rw [hnil] at this
    cases this
   ·obtain ⟨h0, o, ho, hpred⟩ := mem_ready.1 hi
    have hil : l[i]? = some o := by rw [← hops, zK]; exact ho
    have hio : i < ops.size := (yA.1 ho).1
    have hls : listed.getD i false = false := by rw [← gd hio]; exact h0
    have him : i < m := by
     apply Classical.byContradiction
     intro hge
     obtain ⟨x, hx⟩ : ∃ x, (abN l [])[i]? = some x := ⟨_, zI (by rw [(adO l []).2]; simp; omega)⟩
     have hxe := ag5 htail hx zc
     rw [zw] at hxe
     have := aiY hcl hed i o hil hpred x i0 hx (by rw [hxe, xe]; simp; omega)
     have hl0' : listed.getD i0 false = false := hl0
     rw [show listed.getD i0 false = true from this] at hl0'
     cases hl0'
    have hpo : (l.take m)[i]? = some o := by rw [zJ, if_pos him]; exact hil
    obtain ⟨hg, hrd, hdst, hsel⟩ := aAA hchk hpo
    rw [zw] at hdst
    have h1sel : ∀ cs d, o.op ≠ .select cs d := fun cs d e => by simp [aiK, e] at hsel
    have h2def : ∀ c, o.op ≠ .defer c := fun c e => by simp [aiK, e] at hsel
    have opr : ∀ x ∈ o.op.operands, a.eval x = b.eval x := by
     intro x hx
     refine hag.eval fun t ht hlate => ?_
     subst ht
     obtain ⟨j, p, hjm, hp, _, hjl, hpd⟩ := hlate
     have := aAz (hrd t (akN (by simpa using hx))) (j := j) (p := p) (by rw [zJ, if_pos hjm]; exact hp) hpd
     rw [zw] at this
     obtain ⟨e, he1, he2, he3⟩ := adQ this
     have h3 := hpred e he1 he2
     rw [he3, hjl] at h3
     cases h3
    have hsz' : (listed.setIfInBounds i true).size = ops.size := by simpa using hsz
    have hil' : i < listed.size := zc
    have htl' : ∀ j, m ≤ j → (listed.setIfInBounds i true).getD j false = false := by
     intro j hj
     rw [aqX hil', if_neg zc]
     exact htl j hj
    have hcl' : av1 l (fun j => (listed.setIfInBounds i true).getD j false) := by
     intro j p hp hj e he hb
     have hj' : (listed.setIfInBounds i true).getD j false = true := hj
     show (listed.setIfInBounds i true).getD e.on false = true
     rw [aqX hil'] at hj' ⊢
     by_cases hji : j = i
     ·subst hji
      rw [hil] at hp; injection hp with hp; subst hp
      rw [show listed.getD e.on false = true from hpred e he hb]
      split <;> rfl
     ·rw [if_neg hji] at hj'
      rw [show listed.getD e.on false = true from hcl j p hp hj' e he hb]
      split <;> rfl
    have hfu' : ops.size ≤ ax7 (fun j => (listed.setIfInBounds i true).getD j false) ops.size + fuel := by
     have e : (fun j => (listed.setIfInBounds i true).getD j false) = anI (fun j => listed.getD j false) i := by
      funext j
      rw [aqX hil']
      unfold anI
      rfl
     rw [e, aqD hls hio]
     omega
    unfold wpOpIn
    rw [ho]
    simp only
    rw [if_pos (by simp [Region.wanted, hg])]
    cases hu : u.testBit i with
    | true =>
     have hnb : ag7 dn i (abN l []) 0 = false := by
      cases hb : ag7 dn i (abN l []) 0 with
      | false => rfl
      | true =>
       obtain ⟨j, x, h1, h2, h3⟩ := anF hb
       rw [zw] at h2
       obtain ⟨hjm, hjl⟩ := hdn j h2
       obtain ⟨p, hp⟩ : ∃ p, ops[j]? = some p := ⟨_, zN (show j < ops.size by omega)⟩
       have hjo : l[j]? = some p := by rw [← hops, zK]; exact hp
       have := aiY hcl hed j _ hjo (fun e he hb => hcl j _ hjo hjl e he hb) x i h1 h3
       have h4 : listed.getD i false = true := this
       rw [hls] at h4; cases h4
     obtain ⟨d, r, hd, hleaf, hor⟩ : ∃ d r, o.dst = some d ∧ (evU P σ.H σ.eval o).Leaf r ∧ (acT σ.slots d = .no ∨ r = acT σ.slots d) := by
      cases k with
      | zero => exact akP ex hpo (by rw [zw]; exact hu) (by rw [zw]; exact hnb)
      | succ k => exact akP ex hpo (by rw [zw]; exact hu) (by rw [zw]; exact hnb)
     obtain ⟨v, hrun, hv⟩ := aAg hs.m hleaf (fun x => hs.eval x)
     refine ⟨fun _ _ => trivial, ?_⟩
     rw [Oper.semAt_eq _ _ _ h2def, execOp_congr o h1sel opr, hrun]
     show wpAnyIn _ _ _ _ _ _ _ _ (a.put o.dst v) w
     have hvl : VR C ρ σ.H w (acT σ.slots d) v := by
      rcases hor with h | h
      ·rw [h]; exact .no
      ·rw [← h]; exact hv
     refine ih (listed.setIfInBounds i true) k cb u dn (ρ := ρ) (σ := σ) (b := b.put o.dst v) hsz' htl' hcl' (fun j hj huj => ?_) (fun j hj => ?_) hk ex ?_ ?_ hF hnx hfu'
     ·rw [aqX hil', if_neg (by rintro rfl; rw [hu] at huj; cases huj)]
      exact hN j hj huj
     ·obtain ⟨g1, g2⟩ := hdn j hj
      refine ⟨g1, ?_⟩
      rw [aqX hil', g2]
      split <;> rfl
     ·refine ⟨hs.m, fun t => ?_, by rw [aiG]; exact hs.size, by rw [adL]; exact hs.defers⟩
      rw [aiP]
      split
      ·rename_i hdt
       have : d = t := by have := hdt.1; rw [hd] at this; injection this
       subst this
       exact hvl
      ·exact hs.slots t
     ·refine ⟨fun t ht => ?_, by rw [aiG, aiG]; exact hag.size, by rw [adL, adL]; exact hag.defers⟩
      rw [aiP, aiP, hag.size]
      split
      ·rfl
      ·rename_i hnt
       by_cases htd : o.dst = some t
       ·have hge : ¬ t < b.tmps.size := fun h => hnt ⟨htd, h⟩
        rw [zo, zo, yG (by rw [hag.size]; omega), yG zc]
       ·refine hag.tmps t ?_
        rintro ⟨j, p, g1, g2, g3, g4, g5⟩
        refine ht ⟨j, p, g1, g2, g3, ?_, g5⟩
        rw [aqX hil', if_neg (by rintro rfl; rw [hil] at g2; injection g2 with g2; subst g2; exact htd g5)]
        exact g4
    | false =>
     have hdi : dn.testBit i = false := by rw [← hN i him hu]; exact hls
     have hv : (u ||| dn).testBit i = false := by rw [yy, hu, hdi]; rfl
     have hcnt := aDq (v := u ||| dn) (n := i) (l := l.take m) (k := 0) (i := i) zi zc hv
     obtain ⟨k', rfl⟩ : ∃ k', k = k' + 1 := ⟨k - 1, by omega⟩
     have hen : aJT o (u ||| dn) = true := by
      unfold aJT
      rw [yo]
      intro e he
      cases hb : ab8 e with
      | false => rfl
      | true =>
       have he' : e ∈ o.after := by simpa using he
       have h3 := hpred e he' hb
       have h4 := abO hed hil e he' hb
       rw [zw] at h4
       rw [yy]
       cases hue : u.testBit e.on with
       | true => rfl
       | false => rw [← hN _ zc hue, h3]; rfl
     have ex' := af8 (show aeK P (abN l []) u dn σ _ (l.take m) 0 from ex)
     rw [hcnt] at ex'
     have hf := aDv (show aNu _ _ from ex') _ (aAn (k := 0) hpo (by rw [zw]; exact hv) hen)
     rw [zw] at hf
     simp only [ahW] at hf
     have hw := ajZ hG hC hΓ hcall hs hf (nx := fun b' w' => Reach C σ ρ w (fun σ' => aIX P (alQ (dn ||| 2 ^ i) (l.take m) 0 u ^^^ u) (fun σ1 => aAe P Γ call σ0.next (l.take m) (abN l []) (fun σ'' => aa8 P Γ call ops (l.drop m) σ'' K) k' (cb || aG8 (asI (u ||| dn) (l.take m) 0)) (alQ (dn ||| 2 ^ i) (l.take m) 0 u) (dn ||| 2 ^ i) σ1) (l.take m) 0 (aOu (cb || aG8 (asI (u ||| dn) (l.take m) 0)) σ0.next (l.take m).length i k' σ σ')) b' w') (Q := fun _ _ _ => False)
      (fun a' w' hr => hr) (fun ch a' w' ⟨_, _, hr, _⟩ => hr.elim) rnd
     refine aDy hsel hag opr ?_ hw
     rintro a' b' w' hab ⟨ρ', σ', g1, g2, g3, g4⟩
     obtain ⟨ρ'', p2, p3, p4⟩ := aEZ (cb || aG8 (asI (u ||| dn) (l.take m) 0)) σ0.next (l.take m).length i k' σ σ' C ρ' b' w' g2
     obtain ⟨σ1, b1, e1, e2, e3, e4, e5⟩ := akI _ 0 p2 g1
     obtain ⟨gu1, gu2⟩ := anP (m := dn ||| 2 ^ i) (l := l.take m) (k := 0) (u := u)
     have hfr := (hF.trans hnx g3).trans (zm _) p3
     have hnw : ∀ j, j < m → (alQ (dn ||| 2 ^ i) (l.take m) 0 u ^^^ u).testBit j = true → (alQ (dn ||| 2 ^ i) (l.take m) 0 u).testBit j = true ∧ (listed.setIfInBounds i true).getD j false = false := by
      intro j hj hb
      rw [Nat.testBit_xor] at hb
      have hb2 : (alQ (dn ||| 2 ^ i) (l.take m) 0 u).testBit j = true ∧ u.testBit j = false := by
       cases h1 : u.testBit j with
       | true => rw [h1, gu1 j h1] at hb; cases hb
       | false => rw [h1] at hb; simpa using hb
      refine ⟨hb2.1, ?_⟩
      rcases gu2 j hb2.1 with h | h
      ·rw [hb2.2] at h; cases h
      ·rw [apY, xw] at h
       rw [aqX hil', if_neg (by rintro rfl; simp at h), hN j hj hb2.2]
       exact h.1
     refine ih (listed.setIfInBounds i true) k' _ _ (dn ||| 2 ^ i) (ρ := ρ'') (σ := σ1) (b := b1) hsz' htl' hcl' (fun j hj huj => ?_) (fun j hj => ?_) ?_ e1 e2 ⟨fun t ht => (hab.tmps t ?_).trans (e3.tmps t ?_), hab.size.trans e3.size, hab.defers.trans e3.defers⟩ (by rw [e4]; exact hfr) (by rw [e5]; exact zF (zF hnx g4) p4) hfu'
     ·have huj' : u.testBit j = false := by
       cases h1 : u.testBit j with
       | false => rfl
       | true => rw [gu1 j h1] at huj; cases huj
      rw [aqX hil', apY]
      by_cases hji : j = i
      ·subst hji; simp
      ·rw [if_neg hji, hN j hj huj', zk (fun e => hji e.symm), Bool.or_false]
     ·rw [apY, yr, zC] at hj
      rcases hj with hj | hj
      ·obtain ⟨q1, q2⟩ := hdn j hj
       refine ⟨q1, ?_⟩
       rw [aqX hil', q2]
       split <;> rfl
      ·subst hj
       exact ⟨him, by rw [aqX hil', if_pos rfl]⟩
     ·have h1 : apW (alQ (dn ||| 2 ^ i) (l.take m) 0 u ||| (dn ||| 2 ^ i)) (l.take m) 0 ≤ apW (u ||| dn ||| 2 ^ i) (l.take m) 0 := by
       refine aAy fun j hj => ?_
       rw [Nat.or_assoc, yy, yr] at hj
       rw [yy, yr]
       rcases hj with h | h
       ·exact Or.inl (gu1 j h)
       ·exact Or.inr h
      omega
     ·rintro ⟨j, p, q1, q2, q3, q4, q5⟩
      refine ht ⟨j, p, q1, q2, gu1 j q3, ?_, q5⟩
      rw [aqX hil', if_neg (by rintro rfl; rw [hu] at q3; cases q3)]
      exact q4
     ·rintro ⟨j, p, q1, q2, q3⟩
      rw [zw] at q2
      have hjm : j < m := by
       have := (zv.1 q1).1
       rw [zQ] at this
       omega
      obtain ⟨n1, n2⟩ := hnw j hjm q2
      rw [zJ, if_pos hjm] at q1
      exact ht ⟨j, p, hjm, q1, n1, n2, q3⟩
theorem asB (hG : acS G) (hC : G C.w0) (hΓ : Γ.ok P G) {call : abP} (hcall : CallSat P G call) {Q : Exit → Act → World → Prop} {K : Fi → Prop} {ρ : Nat → Nat} {σ : St} {a : Act} {w : World}
  (hs : SRel C ρ σ a w) (h : aEK P Γ call ops σ K) (hQ : ∀ a' w', Reach C σ ρ w (fun σ' => K (.go σ')) a' w' → Q .normal a' w') (hP : ∀ ch a' w', Reach C σ ρ w (fun σ' => K (.pan ch σ')) a' w' → Q (.panic ch) a' w') (rnd : Option Nat) :
  wpAnyIn (aa1 rnd) 0 P .any ops Q ops.size (Array.replicate ops.size false) a { w with drawn := w.drawn + 1 } := by
 unfold aEK at h
 simp only [ahW] at h
 split at h
 ·rename_i hc
  simp only [zn] at hc
  obtain ⟨⟨⟨hchk, hed⟩, htail⟩, hml⟩ := hc
  have hml := Nat.le_of_ble_eq_true hml
  obtain ⟨hmd, hextd⟩ := hs.m.grow (w' := w.drew) ((Below.refl _ _).drew)
  have hs' : SRel C ρ σ a w.drew := ⟨hmd, fun t => hextd.vr (hs.slots t), hs.size, hs.defers.mono hextd.data hextd.size⟩
  obtain ⟨σ', b, h1, h2, h3, h4, h5⟩ := akI _ 0 hs' h
  have hrep : ∀ i, (Array.replicate ops.size false).getD i false = false := by
   intro i
   rw [zo]
   by_cases hi : i < ops.size
   ·rw [yS, if_pos hi]; rfl
   ·rw [yS, if_neg hi]; rfl
  refine aHl hG hC hΓ hcall (l := ops.toList) rfl hed htail hml hchk (σ0 := σ) (ρ0 := ρ) (w0 := w) hQ hP rnd ops.size (Array.replicate ops.size false) _ _ _ 0 zf (fun j _ => hrep j) (fun j o _ hj => by have hj' : (Array.replicate ops.size false).getD j false = true := hj; rw [hrep] at hj'; cases hj') (fun i _ _ => by rw [hrep, Nat.zero_testBit]) (fun j hj => by rw [Nat.zero_testBit] at hj; cases hj) (by rw [Nat.or_zero]; exact zm _) h1 h2
   ⟨fun t ht => h3.tmps t ?_, h3.size, h3.defers⟩ (by rw [h4]; exact hextd.fr (n := σ.next) (fun j _ hj => hj)) (by rw [h5]; exact zm _) zc
  rintro ⟨j, o, g1, g2, g3⟩
  rw [zw] at g2
  have hjm : j < abX (abN ops.toList []) := by
   have := (zv.1 g1).1
   rw [zQ] at this
   omega
  rw [zJ, if_pos hjm] at g1
  exact ht ⟨j, o, hjm, g1, g2, hrep j, g3⟩
 ·exact h.elim
theorem aFF (hG : acS G) (hmix : P.follows .mixedOrders = true) (hΓ : Γ.ok P G) {call : abP} (hcall : CallSat P G call) {rd : Option Nat} {id : Nat} {σ : St} {Q : Exit → St → Prop}
  (h : aEK P Γ call ops σ (ayK Q)) : Sat P G rd (.region id ops true) σ Q :=
 fun _ hC _ _ _ hs rnd _ => wpIn_region_any hmix (asB hG hC hΓ hcall hs h (fun _ _ hr => hr) (fun _ _ _ hr => hr) rnd)
end
open Go Go.RowKit
def aOb (P : Program) (op : BinOp) (xt : TypeId) (a b : AV) : Option (Bool × Bool) :=
 match a, b with
 | .d (.sl u) l, .nsl => match P.underlying xt with
  | some (.slice _) => match op with
   | .eql => some (List.isEmpty (α := u.T) l, true)
   | .neq => some (List.isEmpty (α := u.T) l, false)
   | _ => none
  | _ => none
 | _, _ => none
def aqU (P : Program) (H : Heap) (t : TypeId) (k off len : Nat) (lo hi mx : Option AV) : T AV :=
 match P.underlying t with
 | some (.slice e) => match H.find k, abG P e with
  | some (.row _ u l), some m => match Nat.beq m u.size && Nat.ble 1 u.size with
   | true => match lo, hi with
    | some lo, some hi => match mx with
     | some mx => (ad7 (some mx) len 0).bind fun c => (ad7 (some hi) c 0).bind fun h => (ad7 (some lo) h 0).bind fun _ => .ok .no
     | none => (ad7 (some hi) (List.length (α := u.T) l - off) (List.length (α := u.T) l - off)).bind fun h => (ad7 (some lo) h 0).bind fun j => .ok (.own k (off + j) (h - j))
    | _, _ => .bad
   | false => .bad
  | _, _ => .bad
 | _ => .bad
def aCk (P : Program) (σ : St) (dst : Option Nat) (t : TypeId) (x : AV) : T St :=
 match P.underlying t with
 | some (.slice e) => match x with
  | .own k off len => match σ.H.find k with
   | some (.row e' u l) => match P.info? e, ab3 P e with
    | some i, some zs => match pack u zs with
     | some (y, []) => match Nat.beq i.size u.size && Nat.beq zs.length u.size with
      | true => .ok (({ σ with H := σ.H.up k (.row e' u (over l off (List.replicate len y))) } : St).put dst (.tup []))
      | false => .bad
     | _ => .bad
    | _, _ => .bad
   | _ => .bad
  | _ => .bad
 | _ => .bad
def opM (P : Program) (Γ : Cons) (call : abP) (o : Oper) (σ : St) (K : Fi → Prop) : Prop :=
 match o.op with
 | .slice t x lo hi mx => match (σ.eval x).soft with
  | .own k off len => (aqU P σ.H t k off len (lo.map σ.eval) (hi.map σ.eval) (mx.map σ.eval)).holds fun r => K (.go (σ.put o.dst r))
  | _ => opS P Γ call o σ K
 | .binOp op xt x y _ => match aOb P op xt (σ.eval x).soft (σ.eval y).soft with
  | some (b, r) => ao2 b (Both (K (.go (σ.put o.dst (.d .bool r)))) (K (.go (σ.put o.dst (.d .bool (!r)))))) (K (.go (σ.put o.dst (.d .bool (!r)))))
  | none => opS P Γ call o σ K
 | .call { callee := .builtin .clear, args, argTypes } => match args.toList, argTypes.toList with
  | [x], [t] => (aCk P σ o.dst t (σ.eval x).soft).holds fun σ' => K (.go σ')
  | _, _ => False
 | _ => opS P Γ call o σ K
def aJP (P : Program) (Γ : Cons) (call : abP) : List Oper → St → (Fi → Prop) → Prop
 | [], σ, K => K (.go σ)
 | o :: rest, σ, K => match o.guard with
  | none => opM P Γ call o σ (aLz (fun σ' => aJP P Γ call rest σ' K) K)
  | some _ => False
section
variable {C : Ctx} {ρ : Nat → Nat} {H : Heap} {w : World} {P : Program} {G : World → Prop}
theorem aAj {xt e : TypeId} (hu : P.underlying xt = some (.slice e)) (a : Option Addr) (n c : Nat) : (Op.equal xt (.slice a n c) (.slice none 0 0)).run P w = .ok a.isNone w := by
 have h : ∀ d, (Op.equalIn (d + 1) xt (.slice a n c) (.slice none 0 0)).run P w = .ok a.isNone w := fun d => by cases a <;> simp [Op.equalIn, run_underlying hu]
 exact h 9999
theorem aEw {op : BinOp} {xt : TypeId} {a b : AV} {c r : Bool} {vx vy : Value} (ox oy : Operand) (h : aOb P op xt a b = some (c, r)) (hx : VR C ρ H w a vx) (hy : VR C ρ H w b vy) :
  ∃ z : Bool, (eqGuard op xt ox oy vx vy).run P w = .ok () w ∧ (binOp op xt vx vy).run P w = .ok (.bool z) w ∧ (z = r ∨ z = !r) ∧ (c = false → z = !r) := by
 unfold aOb at h
 split at h
 case h_2 => cases h
 rename_i u l
 split at h
 case h_2 => cases h
 rename_i e hu
 obtain ⟨a', cap, e1, h4, h5, h6⟩ := hx.datum.scalar rfl
 injection e1 with e1 _
 subst e1
 cases hy
 have hq := aAj (P := P) (w := w) hu a' (List.length (α := u.T) l) cap
 have hne : List.isEmpty (α := u.T) l = false → a'.isNone = false := by
  intro hl
  have hne : l ≠ [] := fun e => by rw [e] at hl; cases hl
  obtain ⟨b, o, c, e', fr, ha', _⟩ := h6.resolve_left hne
  rw [ha']; rfl
 split at h
 ·injection h with h
  injection h with h1 h2
  subst h1; subst h2
  refine ⟨a'.isNone, by simp [eqGuard], ?_, by cases a'.isNone <;> simp, fun hc => by rw [hne hc]; rfl⟩
  show (do pure (Value.bool (← Op.equal xt _ _)) : Sem Value).run P w = _
  simp [hq]
 ·injection h with h
  injection h with h1 h2
  subst h1; subst h2
  refine ⟨!a'.isNone, by simp [eqGuard], ?_, by cases a'.isNone <;> simp, fun hc => by rw [hne hc]⟩
  show (do pure (Value.bool (!(← Op.equal xt _ _))) : Sem Value).run P w = _
  simp [hq]
 ·cases h
theorem aqT {next : Nat} (hm : MRel C ρ H next w) {t : TypeId} {r : AV} {v : Value} {k off len : Nat} {lo hi mx : Option AV} {vlo vhi vmx : Option Value} (h : (aqU P H t k off len lo hi mx).Leaf r)
  (ha : VR C ρ H w (.own k off len) v) (h1 : OVR C ρ H w hi vhi) (h2 : OVR C ρ H w lo vlo) (h3 : OVR C ρ H w mx vmx) :
  ∃ v', (Instr.sliceAt t v vlo vhi vmx).run P w = .ok v' w ∧ VR C ρ H w r v' := by
 unfold aqU at h
 split at h
 case h_2 => cases h
 rename_i e hu
 split at h
 case h_2 => cases h
 rename_i e2 u l m hf hs
 split at h
 case h_2 => cases h
 rename_i hb
 simp only [zn] at hb
 have hb1 := aaE hb.1
 have hpos := Nat.le_of_ble_eq_true hb.2
 subst hb1
 split at h
 case h_2 => cases h
 rename_i lo hi
 cases vhi with
 | none => exact h1.elim
 | some vhi =>
 cases vlo with
 | none => exact h2.elim
 | some vlo =>
 cases ha with
 | own hk' hl hc hmx hbk hsz ha =>
 rename_i a' cap c fr
 split at h
 ·rename_i mx
  cases vmx with
  | none => exact h3.elim
  | some vmx =>
  obtain ⟨cc, hb0, h⟩ := T.Leaf.bind h
  obtain ⟨hh, hb1, h⟩ := T.Leaf.bind h
  obtain ⟨kk, hb2, h⟩ := T.Leaf.bind h
  cases h
  obtain ⟨hr, hle1, hle2, hle3⟩ := ai7 (P := P) (b := true) (len0 := len) (cap := cap) hc hb0 hb1 hb2 h3 h1 h2
  refine ⟨.slice (if cc = kk then a' else a'.map (fun (x : Addr) => x.add (kk * u.size))) (hh - kk) (cc - kk), ?_, .no⟩
  ·simp only [Instr.sliceAt, Sem.run_bind, run_underlying hu, Result.andThen_ok, Instr.slice, hr, aaU hs, Sem.run_pure]
 ·cases vmx with
  | some _ => exact h3.elim
  | none =>
  obtain ⟨hh, hb1, h⟩ := T.Leaf.bind h
  obtain ⟨j, hb2, h⟩ := T.Leaf.bind h
  cases h
  have hk := Heap.find_mem hf
  have hu' := Heap.mem_unique hm.nodup hk hk'
  injection hu' with hu1 hu2 hu3
  subst hu1; subst hu2
  have hu3 := eq_of_heq hu3
  subst hu3
  obtain ⟨c0, d1, d2, d3, d4, d5⟩ := hm.mem k _ hk
  rw [hbk] at d1
  injection d1 with d1
  injection d1 with d1 d1' d1''
  subst d1; subst d1''
  have hcapl : l.length ≤ off + cap := by
   rw [← hsz] at d2
   exact Nat.le_of_mul_le_mul_right d2 hpos
  have hlc : List.length (α := u.T) l - off ≤ cap := zc
  have hb1' : (ad7 (some hi) (List.length (α := u.T) l - off) (List.length (α := u.T) l - off)).Leaf hh := hb1
  obtain ⟨hr, hle1, hle2⟩ := acD (P := P) (b := true) (len := List.length (α := u.T) l - off) (cap := cap) hlc hb1' hb2 (show OVR C ρ H w (some hi) (some vhi) from h1) (show OVR C ρ H w (some lo) (some vlo) from h2)
  have hr' : (Instr.sliceBounds true len cap (some vlo) (some vhi) none).run P w = .ok (j, hh, cap) w := hr
  refine ⟨.slice (if cap = j then a' else Option.map (fun (x : Addr) => x.add (j * u.size)) a') (hh - j) (cap - j), ?_, ?_⟩
  ·simp only [Instr.sliceAt, Sem.run_bind, run_underlying hu, Result.andThen_ok, Instr.slice, hr', aaU hs, Sem.run_pure]
  ·refine .own hk zc zc zc hbk (by rw [← hsz]; congr 1; omega) ?_
   by_cases hcj : cap = j
   ·simp only [hcj, if_true]
    by_cases hj : j = 0
    ·subst hj
     rcases ha with ha | ⟨_, ha⟩
     ·left; rw [ha]; simp
     ·right; exact ⟨by omega, by omega⟩
    ·right; exact ⟨by omega, by omega⟩
   ·have ha' := ha.resolve_right (fun h => by omega)
    left
    rw [ha', if_neg hcj]
    simp [ag8, zP]
theorem axT {σ σ' : St} {a : Act} {dst : Option Nat} {t ty : TypeId} {x : AV} {vx : Value} (h : (aCk P σ dst t x).Leaf σ') (hs : SRel C ρ σ a w) (hvx : VR C ρ σ.H w x vx) :
  ∃ v w', (Builtin.clear_ #[t] ty #[vx]).run P w = .ok v w' ∧ SRel C ρ σ' (a.put dst v) w' ∧ Fr C σ.next ρ σ.H w ρ σ'.H w' ∧ σ'.next = σ.next := by
 have hm := hs.m
 unfold aCk at h
 split at h
 case h_2 => cases h
 rename_i e hu
 split at h
 case h_2 => cases h
 rename_i k off len
 split at h
 case h_2 => cases h
 rename_i e' u l hf
 split at h
 case h_2 => cases h
 rename_i i zs hi hz
 split at h
 case h_2 => cases h
 rename_i y hp
 split at h
 case h_2 => cases h
 rename_i hc
 simp only [zn] at hc
 obtain ⟨hc1, hc2⟩ := hc
 have hc1 := aaE hc1
 have hc2 := aaE hc2
 cases h
 have hk := Heap.find_mem hf
 cases hvx with
 | own hk' hl hcp hmx hb hsz ha =>
 rename_i ad cap c fr
 have hun := Heap.mem_unique hm.nodup hk hk'
 injection hun with hu1 hu2 hu3
 subst hu1; subst hu2
 have hu3 := eq_of_heq hu3
 subst hu3
 obtain ⟨c0, d1, d2, d3, d4, d5⟩ := hm.mem k _ hk
 rw [hb] at d1
 injection d1 with d1
 injection d1 with d1 d1' d1''
 subst d1; subst d1''
 have htup : ∀ {H : Heap} {w : World}, VR C ρ H w (.tup []) (.tuple #[]) := .tup .nil
 by_cases hm0 : len = 0
 ·subst hm0
  have hrun : (Builtin.clear_ #[t] ty #[.slice ad 0 cap]).run P w = .ok (.tuple #[]) w := by
   cases ad <;> simp [Builtin.clear_, run_underlying hu]
  have hov : over l off (List.replicate 0 y) = l := by simp [over]
  have hup : σ.H.up k (.row e' u (over l off (List.replicate 0 y))) = σ.H := by rw [hov]; exact aCE hm.nodup hk
  refine ⟨_, w, hrun, ?_, ?_, by rw [St.put_next]⟩
  ·simp only [hup]
   exact hs.put htup
  ·rw [St.put_H]
   simp only [hup]
   exact Fr.refl _ _ _ _ _
 ·have ha' := ha.resolve_right (fun h => by omega)
  subst ha'
  obtain ⟨z, hz1, hz2, hz3⟩ := aqI hi hz
  obtain ⟨z', hz1', hzr, hz3'⟩ := acN (C := C) (ρ := ρ) (H := σ.H) (w := w) hz
  have hlz : z.cells.toList.length = u.size := zi
  have hzv : (zeroValue e).run P w = .ok z w := by simp [zeroValue, typeInfo, hi, hz1]
  have hzz : RdL (Rd (Ok C ρ σ.H w) w u) (List.replicate len y) (aa4 z.cells.toList len) := by
   have : z' = z := by
    rw [hz1'] at hzv
    injection hzv
   subst this
   obtain ⟨c1, c2, e1, hl, h2⟩ := adN _ _ _ _ _ hp hzr
   cases h2
   simp only [yM] at e1
   rw [e1]
   exact RdL.replicate hl len
  have hlf : (aa4 z.cells.toList len).length = len * u.size := by rw [adC, hlz]
  have hmulm : (off + len) * u.size ≤ l.length * u.size := zE _ hl
  rw [zP] at hmulm
  have hfit : off * u.size + (aa4 z.cells.toList len).length ≤ c.size := by rw [hlf]; omega
  have hone : ∀ v ∈ aa4 z.cells.toList len, v.oneCell' = true := by
   intro v hv
   exact ac1 (n := len) hz3 v (by rw [ahB]; exact hv)
  have hst := afW (P := P) (vs := aa4 z.cells.toList len) hb (o := off * u.size) hfit hone
  have hrun : (Builtin.clear_ #[t] ty #[.slice (some ⟨ρ k, off * u.size, none⟩) len cap]).run P w = .ok (.tuple #[]) (w.setRow (ρ k) ⟨over c.toList (off * u.size) (aa4 z.cells.toList len)⟩) := by
   obtain ⟨n, rfl⟩ : ∃ n, len = n + 1 := ⟨len - 1, by omega⟩
   simp [Builtin.clear_, run_underlying hu, hzv, ahB, hst]
  have hrl : (List.replicate len y).length = len := zM
  have hovl : (over l off (List.replicate len y)).length = l.length := aaY _ _ _ (by rw [hrl]; omega)
  obtain ⟨hm', hext⟩ := hm.write (nb := .row e' u (over l off (List.replicate len y))) (c' := ⟨over c.toList (off * u.size) (aa4 z.cells.toList len)⟩) hk hb (by show c.size = (over c.toList _ _).length; rw [aaY _ _ _ (by simpa using hfit)]; simp)
   (by intro e1 t1 l1 hh; injection hh with h1 h2 h3; subst h1; subst h2; have h3 := eq_of_heq h3; subst h3; exact ⟨_, rfl, by rw [hovl]; exact zm _⟩)
   (fun H' w' he hh => by
    refine ⟨_, hh, by rw [hovl]; show l.length * _ ≤ (over c.toList _ _).length; rw [aaY _ _ _ (by simpa using hfit)]; simpa using d2, by rw [hovl]; exact d3, ?_, fun v hv => ?_⟩
    ·rw [hovl]
     show RdL _ _ ((over c.toList _ _).take _)
     rw [(ajY c.toList (l.length * u.size) (off * u.size) (aa4 z.cells.toList len) (by rw [hlf]; omega)).resolve_right zi]
     exact RdL.over (fun x cs => Rd.length u x cs) _ _ _ _ _ (RdL.mono (fun x cs => Rd.mono he.data u x cs) _ _ d4) (RdL.mono (fun x cs => Rd.mono he.data u x cs) _ _ hzz)
    ·rcases agZ hv with hv | hv
     ·exact d5 v hv
     ·exact hone v hv)
  have hfr := hext.fr (n := σ.next) (fun j _ hj => by rwa [Heap.keys_up] at hj)
  exact ⟨_, _, hrun, (hs.frame hm' hfr (fun j hj => by rwa [Heap.keys_up])).put htup, by rw [St.put_H]; exact hfr, by rw [St.put_next]⟩
theorem aF9 (hG : acS G) (hC : G C.w0) {Γ : Cons} (hΓ : Γ.ok P G) {call : abP} (hcall : CallSat P G call) {ρ : Nat → Nat} {σ : St} {a : Act} {w : World} {o : Oper} {K : Fi → Prop} {nx : Act → World → Prop} {Q : Exit → Act → World → Prop}
  (hs : SRel C ρ σ a w) (h : opM P Γ call o σ K) (hnx : ∀ a' w', Reach C σ ρ w (fun σ' => K (.go σ')) a' w' → nx a' w') (hP : ∀ ch a' w', Reach C σ ρ w (fun σ' => K (.pan ch σ')) a' w' → Q (.panic ch) a' w') (rnd : Option Nat) : o.wpIn (aa1 rnd) 0 P a w nx Q := by
 unfold opM at h
 split at h
 ·rename_i t x lo hi mx ho
  split at h
  ·rename_i k off len hx
   obtain ⟨r, h1, h2⟩ := T.leaf h
   have hvx := (hs.eval x).soft
   rw [hx] at hvx
   obtain ⟨v, h3, h4⟩ := aqT hs.m h1 hvx (OVR.ofMap (fun x => hs.eval x) hi) (OVR.ofMap (fun x => hs.eval x) lo) (OVR.ofMap (fun x => hs.eval x) mx)
   refine aaX (by rw [ho]; intro c hc; cases hc) ?_
   unfold Oper.wp
   rw [show (execOp a.eval o).run P w = .ok (.value v) w by simp [execOp, ho, h3]]
   exact hnx _ _ ⟨ρ, _, h2, hs.put h4, by rw [St.put_H]; exact Fr.refl _ _ _ _ _, by rw [St.put_next]; exact zm _⟩
  ·exact ajZ hG hC hΓ hcall hs h hnx hP rnd
 ·rename_i op xt x y g ho
  split at h
  ·rename_i b r hq
   obtain ⟨z, h1, h2, h3, h4⟩ := aEw x y hq (hs.eval x).soft (hs.eval y).soft
   have fin : K (.go (σ.put o.dst (.d .bool z))) := by
    cases b with
    | true =>
     have h : Both _ _ := h
     rcases h3 with e | e
     ·rw [e]; exact h.l
     ·rw [e]; exact h.r
    | false => rw [h4 rfl]; exact h
   refine aaX (by rw [ho]; intro c hc; cases hc) ?_
   unfold Oper.wp
   rw [show (execOp a.eval o).run P w = .ok (.value (.bool z)) w by simp [execOp, ho, h1, h2]]
   exact hnx _ _ ⟨ρ, _, fin, hs.put acC, by rw [St.put_H]; exact Fr.refl _ _ _ _ _, by rw [St.put_next]; exact zm _⟩
  ·exact ajZ hG hC hΓ hcall hs h hnx hP rnd
 ·rename_i args ts ho
  split at h
  ·rename_i x t hargs hts
   obtain ⟨σ', h1, h2⟩ := T.leaf h
   have e1 : args.map a.eval = #[a.eval x] := by apply Array.ext'; simp [hargs]
   have e2 : ts = #[t] := by apply Array.ext'; simp [hts]
   obtain ⟨v, w', h3, h4, h5, h6⟩ := axT (ty := o.type) h1 hs (hs.eval x).soft
   refine aaX (by rw [ho]; intro c hc; cases hc) ?_
   unfold Oper.wp
   rw [show (execOp a.eval o).run P w = .ok (.value v) w' by subst e2; simp [execOp, ho, resolve, invoke, builtin, e1, h3]]
   exact hnx _ _ ⟨ρ, _, h2, h4, h5, by rw [h6]; exact zm _⟩
  ·exact h.elim
 ·exact ajZ hG hC hΓ hcall hs h hnx hP rnd
theorem asA (hG : acS G) (hC : G C.w0) {Γ : Cons} (hΓ : Γ.ok P G) {call : abP} (hcall : CallSat P G call) {ops : Array Oper} {Q : Exit → Act → World → Prop} {K : Fi → Prop} :
  ∀ (l : List Oper) {ρ : Nat → Nat} {σ : St} {a : Act} {w : World}, SRel C ρ σ a w → aJP P Γ call l σ K → (∀ a' w', Reach C σ ρ w (fun σ' => K (.go σ')) a' w' → Q .normal a' w') → (∀ ch a' w', Reach C σ ρ w (fun σ' => K (.pan ch σ')) a' w' → Q (.panic ch) a' w') → ∀ rnd : Option Nat, wpListIn (aa1 rnd) 0 P ops Q l a w
 | [], ρ, σ, a, w, hs, h, hQ, hP, rnd => wpListIn_nil (hQ a w ⟨ρ, σ, h, hs, Fr.refl _ _ _ _ _, zm _⟩)
 | o :: rest, ρ, σ, a, w, hs, h, hQ, hP, rnd => by
  unfold wpListIn
  simp only [aJP] at h
  split at h
  ·rename_i hg
   rw [if_pos (by simp [Region.wanted, hg])]
   refine aF9 hG hC hΓ hcall hs h ?_ hP rnd
   rintro a' w' ⟨ρ', σ', h2, h3, h4, h5⟩
   exact asA hG hC hΓ hcall rest h3 h2 (fun a'' w'' hr => hQ a'' w'' (hr.trans h4 h5)) (fun ch a'' w'' hr => hP ch a'' w'' (hr.trans h4 h5)) rnd
  ·exact h.elim
end
end Go.Vg
