/-
  An evaluator of Go code over plain data, proved sound against the model. Own work; no condition.
-/
import Derived.Test.YteidbklnpgfldaaGreatDoorClE4
set_option linter.unusedVariables false
set_option linter.unusedSimpArgs false
namespace Go.Vg
open Go Go.RowKit
def ax2 (o : Oper) : Option Operand :=
 match o.op, o.guard with
 | .defer { callee := .value f, args, .. }, none => match args.toList with
  | [] => some f
  | _ => none
 | _, _ => none
def aFn : List Oper → Option (Oper × Operand)
 | [] => none
 | [o] => match ax2 o with
  | some f => some (o, f)
  | none => none
 | _ :: r => aFn r
structure DefB where
 p : Nat
 ops0 : Array Oper
 ops1 : Array Oper
 o : Oper
 f : Operand
 rest : Code
def aDn (p : Nat) (ops0 : Array Oper) : Code → Option DefB
 | .seq (.region _ ops1 false) r => match aFn ops1.toList with
  | some x => some ⟨p, ops0, ops1, x.1, x.2, r⟩
  | none => none
 | _ => none
def akF : Code → Option DefB
 | .seq (.region _ ops0 false) (.scope c) => aDn 13 ops0 c
 | .seq (.region _ ops0 false) c => aDn 7 ops0 c
 | _ => none
structure ClosB where
 gn : Func
 ops : Array Oper
 o : Oper
 rest : List Oper
 B : Code
def am2 : List Oper → Bool
 | [] => true
 | o :: r => agF o && am2 r
def aEd (P : Program) (g : FuncId) : Option ClosB :=
 match P.funcs[g]? with
 | some gn => match gn.body with
  | some (.seq (.region _ ops false) B) => match ops.toList with
   | o :: r => match ahJ o && am2 r && Nat.beq gn.results.size 0 && acM P g with
    | true => some ⟨gn, ops, o, r, B⟩
    | false => none
   | [] => none
  | _ => none
 | none => none
def aPX (A : St → Prop) : Fi → Prop
 | .go σ => A σ
 | .pan _ _ => False
def ao4 (Y : aBu) (P : Program) (Γ : Cons) (call : abN) (g : FuncId) (caps : List AV) (Q : Exit → St → Prop) (x : AV) (σ : St) : Prop :=
 match aEd P g with
 | some c => Nat.ble caps.length c.gn.ntmps = true ∧
   aa3 P Γ call c.ops c.rest (({ slots := acF 0 (AV.maps (abE σ.H) aeG caps), H := σ.H, next := σ.next + 1, n := c.gn.ntmps } : St).put c.o.dst x)
    (aQt Y σ.next c.B fun H' n' => Q .ret { slots := aa1 (abE H') aeG σ.slots, H := H', next := n', n := σ.n })
 | none => False
def aIh (Y : aBu) (P : Program) (Γ : Cons) (call : abN) (g : FuncId) (caps : List AV) (Q : Exit → St → Prop) : Exit → St → Prop
 | .normal, σ => ao4 Y P Γ call g caps Q .nili σ
 | .ret, σ => ao4 Y P Γ call g caps Q .nili σ
 | .panic ch, σ => amE ch fun x => ao4 Y P Γ call g caps Q x σ
 | _, _ => False
abbrev aJR := Nat → Code → St → (Exit → St → Prop) → Prop
def aEA (X : aJR) (Y : aBu) (P : Program) (Γ : Cons) (call : abN) (d : DefB) (Q : Exit → St → Prop) (σ : St) : Prop :=
 match σ.eval d.f with
 | .fn g [] caps => X d.p d.rest (σ.put d.o.dst .und) (aIh Y P Γ call g caps Q)
 | _ => False
def aOE (X : aJR) (Y : aBu) (P : Program) (Γ : Cons) (call : abN) (d : DefB) (σ : St) (Q : Exit → St → Prop) : Prop :=
 aa3 P Γ call d.ops0 d.ops0.toList σ (aPX fun σ => aa3 P Γ call d.ops1 d.ops1.toList.dropLast σ (aPX (aEA X Y P Γ call d Q)))
def aOF (P : Program) (G : World → Prop) (Γ : Cons) (call : abN) (c : Code) (σ : St) (Q : Exit → St → Prop) : Prop :=
 exec P G Γ call none c σ Q ∨ ∃ d, akF c = some d ∧ aOE (fun _ => exec P G Γ call none) (fun l => exec P G Γ call (some l)) P Γ call d σ Q
def aA9 (XB : FuncId → Code → St → (Exit → St → Prop) → Prop) (XL : Nat → aJR) (P : Program) : abN := fun t args H next K => match t with
 | .fn f => match P.funcs[f]? with
  | some fn => match fn.body with
   | some code => acM P f = true ∧ Nat.ble args.length fn.ntmps = true ∧
     XB f code { slots := acF 0 args, H := H, next := next, n := fn.ntmps } (aJW P fn (aL1 K) (aQw K))
   | none => False
  | none => False
 | .yld l => match H.find l with
  | some (.loop r) => match Nat.beq args.length r.ps.size with
   | true => XL l 2 r.assign (aoJ { slots := r.slots, H := H, next := next, n := r.n } r.ps.toList args)
     (aOS l fun σ => XL l 3 r.body σ (aQS l K))
   | false => False
  | _ => False
def aC4 (P : Program) (G : World → Prop) (Γ : Cons) (call : abN) : abN :=
 aA9 (fun _ => aOF P G Γ call) (fun l _ => exec P G Γ call (some l)) P
section
variable {C : Ctx} {P : Program} {G : World → Prop}
theorem Fr.wh {ρ ρ' : Nat → Nat} {H H' : Heap} {w w' : World} {m n : Nat} {hn : C.w0.heap.size ≤ n} {us : List Deferred} {ms : Option (List Nat)} (h : Fr (C.wh n hn us ms) m ρ H w ρ' H' w') : Fr C m ρ H w ρ' H' w' :=
 ⟨h.data, h.keys, h.rows, h.size⟩
theorem VR.un {ρ : Nat → Nat} {H : Heap} {w : World} {n : Nat} {hn : C.w0.heap.size ≤ n} {us : List Deferred} {ms : Option (List Nat)} {x : AV} {v : Value} (h : VR (C.wh n hn us ms) ρ H w x v) : VR C ρ H w x v :=
 VR.wh (C := C.wh n hn us ms) (n := C.lo) (hn := C.hlo) (us := C.us) (ms := C.mks) h
theorem VRs.un {ρ : Nat → Nat} {H : Heap} {w : World} {n : Nat} {hn : C.w0.heap.size ≤ n} {us : List Deferred} {ms : Option (List Nat)} {xs : List AV} {vs : List Value} (h : VRs (C.wh n hn us ms) ρ H w xs vs) : VRs C ρ H w xs vs :=
 VRs.wh (C := C.wh n hn us ms) (n := C.lo) (hn := C.hlo) (us := C.us) (ms := C.mks) h
theorem MRel.un {ρ : Nat → Nat} {H : Heap} {next : Nat} {w : World} {n : Nat} {hn : C.w0.heap.size ≤ n} {us : List Deferred} {ms : Option (List Nat)} (h : MRel (C.wh n hn us ms) ρ H next w) : MRel C ρ H next w :=
 MRel.wh (C := C.wh n hn us ms) (n := C.lo) (hn := C.hlo) (us := C.us) (ms := C.mks) h
theorem Fr.shut {ρ ρ' : Nat → Nat} {H H' : Heap} {w w' w'' : World} {n : Nat} (h : Fr C n ρ H w ρ' H' w') (h1 : ∀ b, b < w.heap.size → w''.heap[b]? = w'.heap[b]?) (h2 : ∀ k ∈ H'.keys, w''.heap[ρ' k]? = w'.heap[ρ' k]?) (h3 : w''.heap.size = w'.heap.size) : Fr C n ρ H w ρ' H' w'' := by
 refine ⟨fun b hb => ?_, h.keys, fun k e t l hk hk1 hk2 => ?_, by rw [h3]; exact h.size⟩
 ·obtain ⟨g1, g2⟩ := h.data b hb
  exact ⟨⟨g1.1, by rw [h3]; exact g1.2.1, g1.2.2⟩, (h1 b hb.2.1).trans g2⟩
 ·obtain ⟨l', g1, g2, g3⟩ := h.rows k e t l hk hk1 hk2
  refine ⟨l', g1, g2, fun c fr hc => ?_⟩
  obtain ⟨c', fr', g4, g5⟩ := g3 c fr hc
  exact ⟨c', fr', by rw [← (h.keys k hk hk2).2, h2 k hk2, (h.keys k hk hk2).2]; exact g4, g5⟩
theorem Fr.vr {ρ ρ' : Nat → Nat} {H H' : Heap} {next next' : Nat} {w w' : World} (hm : MRel C ρ H next' w) (hn : next' ≤ next) (h : Fr C next ρ H w ρ' H' w') {x : AV} {v : Value} (hx : VR C ρ H w x v) : VR C ρ' H' w' (x.map (abE H') aeG) v :=
 VR.map h.data (fun k hk hp => ⟨hasKey_iff.1 hp, (h.keys k (zZ (hm.lt k hk) hn) (hasKey_iff.1 hp)).2⟩) (fun k e t l hk hp => h.rows k e t l (zZ (hm.lt k (aaE hk)) hn) hk (hasKey_iff.1 hp)) (fun _ _ _ _ _ _ => .no) hx
def aMc (C : Ctx) (σ : St) (ρ : Nat → Nat) (w : World) (Kr : List AV → St → Prop) (Kp : List PanicEntry → St → Prop) (e : Ending) (w' : World) : Prop :=
 (∃ ρ' σ' l vs, Kr l σ' ∧ MRel C ρ' σ'.H σ'.next w' ∧ VRs C ρ' σ'.H w' l vs ∧ Fr C σ.next ρ σ.H w ρ' σ'.H w' ∧ σ.next ≤ σ'.next ∧ e = .returned (aJX vs)) ∨
 ∃ ρ' σ' ch, Kp ch σ' ∧ MRel C ρ' σ'.H σ'.next w' ∧ Fr C σ.next ρ σ.H w ρ' σ'.H w' ∧ σ.next ≤ σ'.next ∧ e = .panicked ch
def aQ1 (P : Program) (G : World → Prop) (fn : Func) (code : Code) (σ : St) (Kr : List AV → St → Prop) (Kp : List PanicEntry → St → Prop) : Prop :=
 ∀ (C : Ctx), G C.w0 → ∀ (ρ : Nat → Nat) (a : Act) (w : World), SRel C ρ σ a w → C.us = [] → C.mks = none → C.lo = w.heap.size → a.defers = [] →
  code.wpIn (aaW none) 0 P (bodyPostM (aaW none) 0 P fn (aMc C σ ρ w Kr Kp)) a w
theorem av3 {fn : Func} {code : Code} {σ : St} {Kr : List AV → St → Prop} {Kp : List PanicEntry → St → Prop}
  (h : Sat P G none code σ (aJW P fn Kr Kp)) (hC : G C.w0) {ρ : Nat → Nat} {a : Act} {w : World} (hs : SRel C ρ σ a w) (hu : C.us = []) (hmk : C.mks = none) (hlo : C.lo = w.heap.size) :
  code.wpIn (aaW none) 0 P (bodyPostM (aaW none) 0 P fn (aMc C σ ρ w Kr Kp)) a w := by
 refine wpIn_mono (h C hC ρ a w hs none ⟨rfl, hmk⟩) ?_
 rintro e a' w' ⟨ρ', σ', h1, h2, h3, h4⟩
 have fin : (aJY P σ' fn.results.toList).holds (fun l => Kr l σ') → LeavesInM (aaW none) 0 P fn a'.tmps (aMc C σ ρ w Kr Kp) a'.defers .returning w' := fun hh =>
  aNZ hu hmk h2 hh (fun l us w'' k1 k2 k3 k4 k5 k6 => Or.inl ⟨ρ', σ', l, us, k1, k2, k3, h3.shut (by rw [hlo] at k4; exact k4) k5 k6, h4, rfl⟩)
 have finP : ∀ ch, Kp ch σ' → LeavesInM (aaW none) 0 P fn a'.tmps (aMc C σ ρ w Kr Kp) a'.defers (.panicking ch) w' := by
  intro ch hk
  obtain ⟨hlo', ds, e1, e2, e3, -⟩ := h2.defers
  rw [e1, hu]
  show LeavesInM _ _ _ _ _ _ (_ ++ []) _ _
  refine aiG zf ds w' h2.m e2 e3 (fun w'' k2 k3 k4 k5 k6 => ?_)
  exact Or.inr ⟨ρ', σ', ch, hk, k2, h3.shut (by rw [hlo] at k4; exact k4) k5 k6, h4, rfl⟩
 cases e with
 | normal => exact fin h1
 | ret => exact fin h1
 | panic ch => exact finP ch h1
 | _ => exact h1.elim
theorem avH : ∀ {l : List Oper} {o : Oper} {f : Operand}, aFn l = some (o, f) → l = l.dropLast ++ [o] ∧ ax2 o = some f
 | [], _, _, h => by cases h
 | [x], o, f, h => by
  simp only [aFn] at h
  split at h
  ·rename_i f' hf
   injection h with h; injection h with h1 h2; subst h1; subst h2
   exact ⟨rfl, hf⟩
  ·cases h
 | x :: y :: r, o, f, h => by
  obtain ⟨h1, h2⟩ := avH (l := y :: r) h
  refine ⟨?_, h2⟩
  rw [List.dropLast_cons_cons, xM, ← h1]
theorem aAY {o : Oper} {f : Operand} (h : ax2 o = some f) : (∃ ts, o.op = .defer { callee := .value f, args := #[], argTypes := ts }) ∧ o.guard = none := by
 unfold ax2 at h
 split at h
 ·rename_i f' args ts ho hg
  split at h
  ·rename_i ha
   injection h with h; subst h
   have : args = #[] := by apply Array.ext'; exact ha
   subst this
   exact ⟨⟨_, ho⟩, hg⟩
  ·cases h
 ·cases h
theorem aqS {p : Nat} {ops0 : Array Oper} {c : Code} {d : DefB} (h : aDn p ops0 c = some d) : d.ops0 = ops0 ∧ (∃ i, c = .seq (.region i d.ops1 false) d.rest) ∧ aFn d.ops1.toList = some (d.o, d.f) := by
 unfold aDn at h
 split at h
 ·split at h
  ·rename_i x hx
   injection h with h; subst h
   exact ⟨rfl, ⟨_, rfl⟩, hx⟩
  ·cases h
 ·cases h
theorem ax3 {c : Code} {d : DefB} (h : akF c = some d) : aFn d.ops1.toList = some (d.o, d.f) ∧ ∃ i j, c = .seq (.region i d.ops0 false) (.scope (.seq (.region j d.ops1 false) d.rest)) ∨ c = .seq (.region i d.ops0 false) (.seq (.region j d.ops1 false) d.rest) := by
 unfold akF at h
 split at h
 ·obtain ⟨rfl, ⟨i, rfl⟩, h3⟩ := aqS h
  exact ⟨h3, _, _, Or.inl rfl⟩
 ·obtain ⟨rfl, ⟨i, rfl⟩, h3⟩ := aqS h
  exact ⟨h3, _, _, Or.inr rfl⟩
 ·cases h
theorem aC0 {g : FuncId} {c : ClosB} (h : aEd P g = some c) : P.funcs[g]? = some c.gn ∧ (∃ id, c.gn.body = some (.seq (.region id c.ops false) c.B)) ∧ c.ops.toList[0]? = some c.o ∧ c.ops.toList.drop 1 = c.rest ∧ ahJ c.o = true ∧ (∀ x ∈ c.rest, agF x = true) ∧ c.gn.results = #[] ∧ acM P g = true := by
 unfold aEd at h
 split at h
 ·rename_i gn hg
  split at h
  ·rename_i id ops B hb
   split at h
   ·rename_i o r hl
    split at h
    ·rename_i hc
     injection h with h; subst h
     simp only [zl] at hc
     have hall : ∀ (l : List Oper), am2 l = true → ∀ x ∈ l, agF x = true := by
      intro l
      induction l with
      | nil => intro _ x hx; cases hx
      | cons y r ih =>
       intro h x hx
       simp only [am2, zl] at h
       rcases zq.1 hx with rfl | hx
       ·exact h.1
       ·exact ih h.2 x hx
     refine ⟨hg, ⟨id, hb⟩, by simp [hl], by simp [hl], hc.1.1.1, hall _ hc.1.1.2, ?_, hc.2⟩
     exact Array.eq_empty_of_size_eq_zero (aaD hc.1.2)
    ·cases h
   ·cases h
  ·cases h
 ·cases h
theorem arY (p : Nat → Bool) (f : Nat → Nat → Nat → AV) : ∀ l : List AV, (AV.maps p f l).length = l.length
 | [] => rfl
 | _ :: r => congrArg Nat.succ (arY p f r)
theorem alJ (hG : acS G) {Γ : Cons} (hΓ : Γ.ok P G) {call : abN} (hcall : CallSat P G call) {Y : aBu} (hY : ∀ l c σ Q, Y l c σ Q → Sat P G (some l) c σ Q) {fn : Func} {σ0 σ1 σ : St} {Kr : List AV → St → Prop} {Kp : List PanicEntry → St → Prop} {g : FuncId} {caps : List AV} {vc : List Value} {x : AV} {v : Value} {u u' : FrameMode}
  (hrec : Rec u v u') (hu : u ≠ .run) (hset : settle u' = .returning) (hC : G C.w0) {ρ0 ρ1 ρ : Nat → Nat} {a : Act} {w0 w1 w : World} (hlo : C.lo = w0.heap.size)
  (hm1 : MRel C ρ1 σ1.H σ1.next w1) (hcaps : VRs C ρ1 σ1.H w1 caps vc) (hf0 : Fr C σ0.next ρ0 σ0.H w0 ρ1 σ1.H w1) (hn0 : σ0.next ≤ σ1.next) (hf1 : Fr C σ1.next ρ1 σ1.H w1 ρ σ.H w) (hn1 : σ1.next ≤ σ.next)
  (hs : SRel (C.wh C.lo C.hlo [auE g vc] none) ρ σ a w) (hx : ∀ w', VR C ρ σ.H w' x v) (h : ao4 Y P Γ call g caps (aJW P fn Kr Kp) x σ) :
  LeavesInM (aaW none) 0 P fn a.tmps (aMc C σ0 ρ0 w0 Kr Kp) a.defers u w := by
 unfold ao4 at h
 split at h
 case h_2 => exact h.elim
 rename_i c hc
 obtain ⟨g1, ⟨id, g2⟩, g3, g4, g5, g6, g7, g8⟩ := aC0 hc
 obtain ⟨hble, hex⟩ := h
 obtain ⟨hlo', ds, e1, e2, e3, -⟩ := hs.defers
 rw [e1]
 show LeavesInM _ _ _ _ _ _ (_ ++ [auE g vc]) _ _
 refine aiG hu ds w hs.m e2 e3 (fun w2 k2 k3 k4 k5 k6 => ?_)
 have hcap2 : VRs C ρ σ.H w2 (AV.maps (abE σ.H) aeG caps) vc := VRs.map (fun y u hy => (k3 _ _ (Fr.vr hm1 (zj _) hf1 hy).wh).un) hcaps
 rw [← g4] at hex
 refine auA hu g8 (aFE (C := C) (u := u) (u' := u') hG hC hΓ hcall hY g1 g2 g3 g5 (by rw [g4]; exact g6) g7 k2.un hcap2 (by rw [arY]; exact hble) hrec (hx w2) hex) ?_
 rintro w3 ⟨ρ3, H3, n3, hK, hm3, hf3, hn3⟩
 rw [hset]
 have hf01 : Fr C σ0.next ρ0 σ0.H w0 ρ σ.H w := hf0.trans hn0 hf1
 have hf2 : Fr C σ0.next ρ0 σ0.H w0 ρ σ.H w2 := hf01.shut (fun b hb => k4 b (by show b < C.lo; rw [hlo]; exact hb)) k5 k6
 have hf3' : Fr C σ0.next ρ0 σ0.H w0 ρ3 H3 w3 := hf2.trans (zt hn0 hn1) hf3
 have hle : C.lo ≤ w3.heap.size := by rw [hlo]; exact hf3'.size
 have hs3 : SRel (C.wh C.lo C.hlo [] none) ρ3 { slots := aa1 (abE H3) aeG σ.slots, H := H3, next := n3, n := σ.n } { a with defers := [] } w3 :=
  ⟨hm3.wh, fun t => by rw [amP]; exact (Fr.vr k2.un (zj _) hf3 (k3 _ _ (hs.slots t)).un).wh, hs.size, Dfs.nil hle rfl rfl⟩
 obtain ⟨l, hl1, hl2⟩ := T.leaf (show (aJY P _ fn.results.toList).holds _ from hK)
 obtain ⟨us, q1, q2⟩ := aj4 (P := P) hs3 _ _ hl1
 exact ⟨_, aqZ q1, Or.inl ⟨ρ3, _, l, us, hl2, hm3, q2.un, hf3', zt hn0 (zt hn1 hn3), rfl⟩⟩
theorem av4 (hG : acS G) {Γ : Cons} (hΓ : Γ.ok P G) {call : abN} (hcall : CallSat P G call) {X : aJR} (hX : ∀ p c σ Q, X p c σ Q → Sat P G none c σ Q) {Y : aBu} (hY : ∀ l c σ Q, Y l c σ Q → Sat P G (some l) c σ Q) {fn : Func} {code : Code} {d : DefB} (hd : akF code = some d) {σ : St} {Kr : List AV → St → Prop} {Kp : List PanicEntry → St → Prop}
  (h : aOE X Y P Γ call d σ (aJW P fn Kr Kp)) (hC : G C.w0) {ρ : Nat → Nat} {a : Act} {w : World} (hs : SRel C ρ σ a w) (hlo : C.lo = w.heap.size) (hds : a.defers = []) :
  code.wpIn (aaW none) 0 P (bodyPostM (aaW none) 0 P fn (aMc C σ ρ w Kr Kp)) a w := by
 obtain ⟨hlast, i, j, hcode⟩ := ax3 hd
 obtain ⟨hl, hdo⟩ := avH hlast
 obtain ⟨⟨ts, ho⟩, hg⟩ := aAY hdo
 have hs0 : SRel (C.wh C.lo C.hlo [] (some [])) ρ σ a w := ⟨hs.m.wh, fun t => (hs.slots t).wh, hs.size, by show C.lo ≤ _; rw [hlo]; exact zj _, [], by rw [hds]; rfl, xU, fun _ h => (by cases h), fun x hx => Option.some.inj hx⟩
 have main : ∀ (ρ1 : Nat → Nat) (σ1 : St) (a1 : Act) (w1 : World), aa3 P Γ call d.ops1 d.ops1.toList.dropLast σ1 (aPX (aEA X Y P Γ call d (aJW P fn Kr Kp))) → SRel (C.wh C.lo C.hlo [] (some [])) ρ1 σ1 a1 w1 → Fr C σ.next ρ σ.H w ρ1 σ1.H w1 → σ.next ≤ σ1.next →
   (Code.seq (.region j d.ops1 false) d.rest).wpIn (aaW none) 0 P (aNl (bodyPostM (aaW none) 0 P fn (aMc C σ ρ w Kr Kp))) a1 w1 := by
  intro ρ1 σ1 a1 w1 hx hs1 hf1 hn1
  refine wpIn_seq (wpIn_region_list ?_)
  rw [hl]
  refine alI _ _ _ (ac8 (C := C.wh C.lo C.hlo [] (some [])) hG hC hΓ hcall _ hs1 hx (fun a2 w2 hr => ?_) (fun ch a2 w2 hr => ?_) none)
  ·obtain ⟨ρ2, σ2, hq, hs2, hf2, hn2⟩ := hr
   simp only [aPX, aEA] at hq
   split at hq
   case h_2 => exact hq.elim
   rename_i g caps hfv
   have hev := hs2.eval d.f
   rw [hfv] at hev
   generalize hvf : a2.eval d.f = vf at hev
   cases hev with
   | @fn _ _ _ vff vc hh1 hh2 =>
    cases hh1
    refine aFi ho hg hvf ?_
    have hd2 : a2.defers = [] := by
     obtain ⟨-, ds, e1, -, -, e2⟩ := hs2.defers
     have : ds = [] := e2 [] rfl
     subst this
     exact e1
    have hlo2 : C.lo ≤ w2.heap.size := hs2.defers.1
    have hs3 : SRel (C.wh C.lo C.hlo [auE g vc] none) ρ2 σ2 { a2 with defers := auE g vc :: a2.defers } w2 :=
     ⟨hs2.m.un.wh, fun t => (hs2.slots t).un.wh, hs2.size, hlo2, [], by rw [hd2]; rfl, xU, fun _ h => (by cases h), fun x hx => (by cases hx)⟩
    have hs4 := hs3.put (dst := d.o.dst) .und
    have hf12 : Fr C σ.next ρ σ.H w ρ2 (σ2.put d.o.dst .und).H w2 := by rw [St.put_H]; exact hf1.trans hn1 hf2.wh
    have hn12 : σ.next ≤ (σ2.put d.o.dst .und).next := by rw [St.put_next]; exact zt hn1 hn2
    refine wpIn_mono (hX _ _ _ _ hq (C.wh C.lo C.hlo [auE g vc] none) hC ρ2 _ w2 hs4 none ⟨rfl, rfl⟩) ?_
    rintro e a3 w3 ⟨ρ3, σ3, h3, h4, h5, h6⟩
    have hm1 : MRel C ρ2 (σ2.put d.o.dst .und).H (σ2.put d.o.dst .und).next w2 := hs4.m.un
    have hcp : VRs C ρ2 (σ2.put d.o.dst .und).H w2 caps vc := by rw [St.put_H]; exact hh2.un
    cases e with
    | normal => exact alJ hG hΓ hcall hY .none zf rfl hC hlo hm1 hcp hf12 hn12 h5.wh h6 h4 (fun _ => .nili) h3
    | ret => exact alJ hG hΓ hcall hY .none zf rfl hC hlo hm1 hcp hf12 hn12 h5.wh h6 h4 (fun _ => .nili) h3
    | panic ch =>
     ·simp only [aIh] at h3
      obtain ⟨x, hx, h7⟩ := arQ h3
      clear h3
      obtain ⟨v, rfl, -⟩ := au5 (C := C) (ρ := ρ3) (H := σ3.H) (w := w3) hx
      refine alJ hG hΓ hcall hY (.some v []) zf rfl hC hlo hm1 hcp hf12 hn12 h5.wh h6 h4 (fun w' => ?_) h7
      obtain ⟨v', e', hv'⟩ := au5 (C := C) (ρ := ρ3) (H := σ3.H) (w := w') hx
      injection e' with e' _
      injection e' with e' _
      rw [e']
      exact hv'
    | _ => exact h3.elim
  ·obtain ⟨_, _, hq, _⟩ := hr
   exact hq.elim
 have first : (∀ {B : Code}, (∀ (ρ1 : Nat → Nat) (σ1 : St) (a1 : Act) (w1 : World), aa3 P Γ call d.ops1 d.ops1.toList.dropLast σ1 (aPX (aEA X Y P Γ call d (aJW P fn Kr Kp))) → SRel (C.wh C.lo C.hlo [] (some [])) ρ1 σ1 a1 w1 → Fr C σ.next ρ σ.H w ρ1 σ1.H w1 → σ.next ≤ σ1.next →
   B.wpIn (aaW none) 0 P (bodyPostM (aaW none) 0 P fn (aMc C σ ρ w Kr Kp)) a1 w1) → (Code.seq (.region i d.ops0 false) B).wpIn (aaW none) 0 P (bodyPostM (aaW none) 0 P fn (aMc C σ ρ w Kr Kp)) a w) := by
  intro B hB
  refine wpIn_seq (wpIn_region_list (ac8 (C := C.wh C.lo C.hlo [] (some [])) hG hC hΓ hcall _ hs0 h (fun a1 w1 hr => ?_) (fun ch a1 w1 hr => ?_) none))
  ·obtain ⟨ρ1, σ1, hq, hs1, hf1, hn1⟩ := hr
   exact hB ρ1 σ1 a1 w1 hq hs1 hf1.wh hn1
  ·obtain ⟨_, _, hq, _⟩ := hr
   exact hq.elim
 rcases hcode with rfl | rfl
 ·exact first fun ρ1 σ1 a1 w1 h1 h2 h3 h4 => anF (main ρ1 σ1 a1 w1 h1 h2 h3 h4)
 ·refine first fun ρ1 σ1 a1 w1 h1 h2 h3 h4 => wpIn_mono (main ρ1 σ1 a1 w1 h1 h2 h3 h4) ?_
  intro e a2 w2 hq
  cases e <;> first | exact hq | exact hq.elim
theorem av2 (hG : acS G) (hmix : P.follows .mixedOrders = true) {Γ : Cons} (hΓ : Γ.ok P G) {call : abN} (hcall : CallSat P G call) {fn : Func} {code : Code} {σ : St} {Kr : List AV → St → Prop} {Kp : List PanicEntry → St → Prop}
  (h : aOF P G Γ call code σ (aJW P fn Kr Kp)) : aQ1 P G fn code σ Kr Kp := by
 intro C hC ρ a w hs hu hmk hlo hds
 rcases h with h | ⟨d, hd, h⟩
 ·exact av3 (ab3 hG hmix hΓ hcall code _ _ h) hC hs hu hmk hlo
 ·exact av4 hG hΓ hcall (fun _ c σ Q => ab3 hG hmix hΓ hcall c σ Q) (fun _ c σ Q => ab3 hG hmix hΓ hcall c σ Q) hd h hC hs hlo hds
theorem aA8 {XB : FuncId → Code → St → (Exit → St → Prop) → Prop} {XL : Nat → aJR} (hB : ∀ f fn code σ Kr Kp, XB f code σ (aJW P fn Kr Kp) → aQ1 P G fn code σ Kr Kp) (hL : ∀ l q c σ Q, XL l q c σ Q → Sat P G (some l) c σ Q) : CallSat P G (aA9 XB XL P) := by
  refine ⟨fun f args H next K h C ρ w vs hC hm hv => ?_, fun l args H next K h C ρ w vs hC hm hv => ?_⟩
  ·simp only [aA9] at h
   split at h
   ·rename_i fn hf
    split at h
    ·rename_i code hb
     obtain ⟨he, hle, hex⟩ := h
     have hw0 : C.w0.heap.size ≤ w.heap.size := hm.below.size
     refine ⟨he, (callsIn_wideR (r := none) (n := 0)).1 (CallsIn.mono (callsIn_of_wp_marks (F := aaW none) (n := 0) hf hb trivial (hB _ _ _ _ _ _ hex (C.at w.heap.size hw0) hC _ _ _ (asQ rfl rfl hm.at (zj _) hv.at (Nat.le_of_ble_eq_true hle)) rfl rfl rfl rfl)) ?_)⟩
     rintro e w' (⟨ρ', σ', l, us, k1, k2, k3, k4, k5, rfl⟩ | ⟨ρ', σ', ch, k1, k2, k4, k5, rfl⟩)
     ·unfold aL1 at k1
      split at k1
      ·rename_i hpn
       exact ⟨ρ', _, _, _, k1, k2.back, k4.back, k5, Or.inl ⟨_, rfl, hpn, (aq0 k3).back⟩⟩
      ·exact k1.elim
     ·simp only [aQw] at k1
      obtain ⟨x, hx, k1⟩ := arQ k1
      exact ⟨ρ', _, _, _, k1, k2.back, k4.back, k5, Or.inr ⟨x, ch, rfl, axB hx, rfl⟩⟩
    ·exact h.elim
   ·exact h.elim
  ·simp only [aA9] at h
   split at h
   ·rename_i r hfind
    split at h
    ·rename_i hlen
     have hlen := aaD hlen
     have hkey := aaE (Heap.find_mem hfind)
     have hlt := hm.lt l hkey
     obtain ⟨fn, tmps, dd, g1, g2, g3⟩ := hm.mem _ _ (Heap.find_mem hfind)
     have hvl := hv.length
     have hw0 : C.w0.heap.size ≤ w.heap.size := hm.below.size
     refine ⟨fn, _, r.assign, r.body, run_yield g1 zg, roundIn_of_wpIn trivial ?_⟩
     have hs0 : SRel (C.at w.heap.size hw0) ρ { slots := r.slots, H := H, next := next, n := r.n } { tmps := tmps, defers := [] } w := ⟨hm.at, fun t => (g3 t).at, g2, Dfs.nil (zj _) rfl rfl⟩
     obtain ⟨hs1, hH1, hn1⟩ := aBb r.ps.toList args vs _ _ hs0 hv.at
     have htm : (r.ps.zip (⟨vs⟩ : Array Value)).foldl (fun t (x : Nat × Value) => t.setIfInBounds x.1 x.2) tmps = (r.ps.toList.zip vs).foldl (fun t x => t.setIfInBounds x.1 x.2) tmps := by
      rw [← Array.foldl_toList, Array.toList_zip]
     have hs1' : SRel (C.at w.heap.size hw0) ρ (aoJ { slots := r.slots, H := H, next := next, n := r.n } r.ps.toList args) { tmps := (r.ps.zip (⟨vs⟩ : Array Value)).foldl (fun t (x : Nat × Value) => t.setIfInBounds x.1 x.2) tmps, defers := [] } w := by
      rw [htm]; exact hs1
     refine wpIn_mono (hL _ _ _ _ _ h (C.at w.heap.size hw0) hC ρ _ w hs1' (some (ρ l)) ⟨by rw [hn1]; exact hlt, fun _ => rfl⟩) ?_
     rintro e a1 w1 ⟨ρ1, σ1, k1, k2, k3, k4⟩
     rw [hH1, hn1] at k3
     rw [hn1] at k4
     cases e with
     | normal =>
      simp only [aOS] at k1
      split at k1
      ·rename_i r1 hf1
       split at k1
       ·rename_i hst
        have hkey1 := aaE (Heap.find_mem hf1)
        have hρ1 := (k3.keys l hlt hkey1).2
        obtain ⟨fn1, tmps1, d1, b1, b2, b3⟩ := k2.m.mem _ _ (Heap.find_mem hf1)
        have hbr := run_beginRound (P := P) b1 hst
        obtain ⟨hm2, hext2⟩ := k2.m.turn hf1 .busy r1.pend b1 b2 b3
        rw [hρ1] at hbr hm2 hext2
        refine ⟨_, hbr, ?_⟩
        have hfr2 := hext2.fr (n := σ1.next) (fun k _ hk => by rwa [Heap.keys_up] at hk)
        have hs2 := k2.frame (next' := σ1.next) hm2 hfr2 (fun k hk => by rw [Heap.keys_up]; exact hk)
        refine wpIn_mono (hL _ _ _ _ _ k1 (C.at w.heap.size hw0) hC ρ1 _ _ hs2 (some (ρ l)) ⟨zZ hlt k4, fun _ => by rw [hρ1]⟩) ?_
        rintro e a3 w3 ⟨ρ3, σ3, m1, m2, m3, m4⟩
        unfold aQS at m1
        split at m1
        ·rename_i j hj
         split at m1
         ·rename_i r3 hf3
          have hkey3 := aaE (Heap.find_mem hf3)
          have hρ3 : ρ3 l = ρ l := (m3.keys l (zZ hlt k4) hkey3).2.trans hρ1
          obtain ⟨fn3, tmps3, d3, c1, c2, c3⟩ := m2.m.mem _ _ (Heap.find_mem hf3)
          have hend := run_endRound (P := P) j c1
          have hrs : ap2 j = (if j.isNone then .ready else .done) := by cases j <;> rfl
          obtain ⟨hm4, hext4⟩ := m2.m.turn hf3 (ap2 j) j c1 c2 c3
          rw [hρ3] at hend hm4 hext4
          rw [hrs] at hm4 hext4 m1
          have f2 : Fr (C.at w.heap.size hw0) σ1.next ρ1 σ1.H w1 ρ3 σ3.H w3 := hfr2.trans (zj _) m3
          have f3 := hext4.fr (n := σ3.next) (fun k _ hk => by rwa [Heap.keys_up] at hk)
          have hfr := ((k3.trans k4 f2).trans (n' := σ3.next) (zt k4 m4) f3).back
          generalize w3.putObj (ρ l) (.loop { state := if j.isNone then .ready else .done, pending := j, fn := fn3, tmps := tmps3, params := r3.ps, assign := r3.assign, body := r3.body, defers := d3 }) = W4 at hend hm4 hfr
          have hce : CallEnd C ρ H next w K (.returned (.bool j.isNone)) W4 := ⟨ρ3, _, _, _, m1, hm4.back, hfr, zt k4 m4, Or.inl ⟨_, rfl, rfl, abK⟩⟩
          cases e with
          | normal => injection hj with hj; subst hj; exact ⟨_, _, hend, hce⟩
          | ret => injection hj with hj; subst hj; exact ⟨_, _, hend, hce⟩
          | exit id => injection hj with hj; subst hj; exact ⟨_, _, hend, hce⟩
          | _ => cases hj
         ·exact m1.elim
        ·exact m1.elim
       ·exact k1.elim
      ·exact k1.elim
     | _ => exact k1.elim
    ·exact h.elim
   ·exact h.elim
theorem aJo (hG : acS G) (hmix : P.follows .mixedOrders = true) {Γ : Cons} (hΓ : Γ.ok P G) {call : abN} (hcall : CallSat P G call) : CallSat P G (aC4 P G Γ call) :=
 aA8 (fun _ _ _ _ _ _ h => av2 hG hmix hΓ hcall h) (fun _ _ c σ Q h => ab3 hG hmix hΓ hcall c σ Q h)
theorem as3 {f : FuncId} {fn : Func} {code : Code} (hf : P.funcs[f]? = some fn) (hb : fn.body = some code) (he : acM P f = true)
  (c : Con) (hce : c.err = false) (hn : ∀ x, c.pre x → Nat.ble (ajY c.args x).length fn.ntmps = true)
  (hex : ∀ x : c.args.T, Wf c.args x → c.pre x → aQ1 P G fn code { slots := acF 0 (ajY c.args x), H := [], next := 0, n := fn.ntmps } (aQe c.res (c.fn x)) fun _ _ => False) : c.ok P G f := by
 refine Con.ok_plain hce ⟨he, fun w ok vs x hGw hok hvs hp => (callsIn_wideR (r := none) (n := 0)).1 ?_⟩
 generalize hC : ({ w0 := w, okA := ok, lt := hok, lo := w.heap.size, hlo := zj _ } : Ctx) = C
 have hCw : C.w0 = w := by rw [← hC]
 have hCu : C.us = [] := by rw [← hC]
 have hCm : C.mks = none := by rw [← hC]
 have hClo : C.lo = w.heap.size := by rw [← hC]
 have hokA : C.okA = ok := by rw [← hC]
 have hm : MRel C (fun _ => 0) [] 0 w := ⟨by rw [hCw]; exact Below.refl _ _, xU, (by intro k hk; cases hk), (by intro k hk; cases hk), (by intro k hk; cases hk), (by intro k b hk; cases hk)⟩
 have hkk : ∀ b, ok b → Ok C (fun _ => 0) [] w b := fun b hb => ⟨Or.inl (by rw [hokA]; exact hb), hok b hb, (by intro k hk; cases hk)⟩
 refine CallsIn.mono (callsIn_of_wp_marks (F := aaW none) (n := 0) hf hb trivial (hex x hvs.wf hp C (by rw [hCw]; exact hGw) _ _ _ (asQ hCu hCm hm (by rw [hClo]; exact zj _) (RdVs.args hkk _ _ _ hvs) (Nat.le_of_ble_eq_true (hn x hp))) hCu hCm hClo rfl)) ?_
 rintro e w'' (⟨ρ', σ', l, us, k1, k2, k3, k4, k5, rfl⟩ | ⟨_, _, _, k1, _⟩)
 ·refine ⟨us, rfl, ?_, by have := k2.below; rw [hCw] at this; exact this⟩
  unfold aQe at k1
  split at k1
  ·rename_i z hz
   subst k1
   have h5 := aqP _ _ _ _ hz (VRs.map (fun x v hx => aLy k2 hx) k3)
   have mono : ∀ (t : Ty) (x : t.T) (vs : List Value), RdVs (Ok C ρ' [] w'') w'' t x vs → RdVs (aEW ok w w'') w'' t x vs := by
    intro t
    induction t with
    | unit => intro x vs h; exact h
    | pair t u _ ihu =>
     rintro x vs ⟨v, us, e, h6, h7⟩
     refine ⟨v, us, e, h6.mono (fun b hb => ⟨?_, rfl⟩), ihu _ _ h7⟩
     rcases hb.1 with h | h
     ·exact Or.inl (by rw [hokA] at h; exact h)
     ·exact Or.inr ⟨by rw [hCw] at h; exact h, hb.2.1⟩
    | _ => intro x vs h; exact h.elim
   exact mono _ _ _ h5
  ·exact k1.elim
 ·exact k1.elim
end
open Go Go.RowKit
def rn (k k' j : Nat) : Nat := match Nat.beq j k with | true => k' | false => j
mutual
def AV.ren (k k' : Nat) : AV → AV
 | .ptr j off => .ptr (rn k k' j) off
 | .eptr j i => .eptr (rn k k' j) i
 | .efp j i f => .efp (rn k k' j) i f
 | .own j off len => .own (rn k k' j) off len
 | .ox j off len => .ox (rn k k' j) off len
 | .sv j o n c => .sv (rn k k' j) o n c
 | .fn g first caps => .fn g (AV.rens k k' first) (AV.rens k k' caps)
 | .yld l => .yld (rn k k' l)
 | .mp j => .mp (rn k k' j)
 | .ag cells => .ag (AV.rens k k' cells)
 | .tup l => .tup (AV.rens k k' l)
 | .d t x => .d t x
 | .dptr t x => .dptr t x
 | .nsl => .nsl
 | .nilp => .nilp
 | .nili => .nili
 | .nni => .nni
 | .ifc k t x => .ifc k t x
 | .und => .und
 | .no => .no
def AV.rens (k k' : Nat) : List AV → List AV
 | [] => []
 | a :: as => a.ren k k' :: AV.rens k k' as
end
def aj5 (k k' : Nat) : List (Nat × AV) → List (Nat × AV)
 | [] => []
 | (t, a) :: r => (t, a.ren k k') :: aj5 k k' r
def aGy (k k' : Nat) : List (DK × AV) → List (DK × AV)
 | [] => []
 | (n, v) :: r => (n, v.ren k k') :: aGy k k' r
def Bk.ren (k k' : Nat) : Bk → Bk
 | .vars e cells => .vars e (AV.rens k k' cells)
 | .row e t l => .row e t l
 | .loop r => .loop { r with slots := aj5 k k' r.slots }
 | .dic j l => .dic j (aGy k k' l)
 | .dicv j t l => .dicv j t l
 | .any => .any
def Heap.ren (k k' : Nat) : Heap → Heap
 | [] => []
 | (j, b) :: r => (rn k k' j, b.ren k k') :: Heap.ren k k' r
def St.rekey (σ : St) (k k' : Nat) : St := { σ with slots := aj5 k k' σ.slots, H := Heap.ren k k' σ.H, next := Nat.max σ.next (k' + 1) }
section
variable {C : Ctx} {ρ : Nat → Nat} {H : Heap} {w : World} {k k' : Nat}
theorem awZ : rn k k' k = k' := by simp [rn]
theorem aGv {j : Nat} (h : j ≠ k) : rn k k' j = j := by simp [rn, arX h]
theorem afP (hk' : k' ∉ H.keys) {j : Nat} (hj : j ∈ H.keys) : upd ρ k' (ρ k) (rn k k' j) = ρ j := by
 by_cases h : j = k
 ·subst h; rw [awZ, aaZ]
 ·rw [aGv h, adH]; intro e; subst e; exact hk' hj
theorem agN : (Heap.ren k k' H).keys = H.keys.map (rn k k') := by
 induction H with
 | nil => rfl
 | cons x r ih =>
  obtain ⟨j, b⟩ := x
  show rn k k' j :: (Heap.ren k k' r).keys = rn k k' j :: ((Heap.keys r).map (rn k k'))
  rw [ih]
theorem mem_ren {j : Nat} {b : Bk} : (j, b) ∈ Heap.ren k k' H ↔ ∃ i c, (i, c) ∈ H ∧ j = rn k k' i ∧ b = c.ren k k' := by
 induction H with
 | nil => exact ⟨fun h => (by cases h), fun ⟨_, _, h, _⟩ => (by cases h)⟩
 | cons x r ih =>
  obtain ⟨i, c⟩ := x
  simp only [Heap.ren, zq, Prod.mk.injEq]
  constructor
  ·rintro (⟨h1, h2⟩ | h)
   ·exact ⟨i, c, Or.inl ⟨rfl, rfl⟩, h1, h2⟩
   ·obtain ⟨i', c', h1, h2⟩ := ih.1 h
    exact ⟨i', c', Or.inr h1, h2⟩
  ·rintro ⟨i', c', ⟨rfl, rfl⟩ | h1, h2, h3⟩
   ·exact Or.inl ⟨h2, h3⟩
   ·exact Or.inr (ih.2 ⟨i', c', h1, h2, h3⟩)
theorem Ok.ren (hk' : k' ∉ H.keys) {b : Nat} (h : Ok C ρ H w b) : Ok C (upd ρ k' (ρ k)) (Heap.ren k k' H) w b := by
 refine ⟨h.1, h.2.1, ?_⟩
 intro j hj
 rw [agN] at hj
 obtain ⟨i, hi, rfl⟩ := zH.1 hj
 rw [afP hk' hi]
 exact h.2.2 i hi
theorem VR.ren (hk' : k' ∉ H.keys) {x : AV} {v : Value} (h : VR C ρ H w x v) : VR C (upd ρ k' (ρ k)) (Heap.ren k k' H) w (x.ren k k') v := by
 have hd : ∀ b, Ok C ρ H w b → Ok C (upd ρ k' (ρ k)) (Heap.ren k k' H) w b ∧ w.heap[b]? = w.heap[b]? := fun b h => ⟨h.ren hk', rfl⟩
 have hkey : ∀ j, j ∈ H.keys → rn k k' j ∈ (Heap.ren k k' H).keys := fun j hj => by rw [agN]; exact zH.2 ⟨j, hj, rfl⟩
 have hrow : ∀ j e t l, (j, Bk.row e t l) ∈ H → (rn k k' j, Bk.row e t l) ∈ Heap.ren k k' H := fun j e t l hj => mem_ren.2 ⟨j, _, hj, rfl, rfl⟩
 refine VR.rec (motive_1 := fun x v _ => VR C (upd ρ k' (ρ k)) (Heap.ren k k' H) w (x.ren k k') v) (motive_2 := fun xs vs _ => VRs C (upd ρ k' (ρ k)) (Heap.ren k k' H) w (AV.rens k k' xs) vs)
  ?_ ?_ ?_ ?_ ?_ ?_ ?_ ?_ ?_ ?_ ?_ ?_ ?_ ?_ ?_ ?_ ?_ ?_ ?_ ?_ ?_ ?_ h
 ·intro t x v h; exact .d (RdV.mono hd h)
 ·intro j off h
  rw [← afP (ρ := ρ) (k := k) hk' h]
  exact .ptr (hkey j h)
 ·intro j i e t l h hi
  rw [← afP (ρ := ρ) (k := k) hk' (aaE h)]
  exact .eptr (hrow j e t l h) hi
 ·intro j i f o u e t l h hi ho
  rw [← afP (ρ := ρ) (k := k) hk' (aaE h)]
  exact .efp (hrow j e t l h) hi ho
 ·intro t x b o c e fr hb hc ho h
  exact .dptr (hd b hb).1 hc ho (Rd.mono hd _ _ _ h)
 ·intro j off len e t l a cap c fr h hl hc hm hb hs ha
  have e1 := afP (ρ := ρ) (k := k) hk' (aaE h)
  exact .own (hrow j e t l h) hl hc hm (by rw [e1]; exact hb) hs (by rw [e1]; exact ha)
 ·intro j off len e t l a c fr h hl hm hb hs ha
  have e1 := afP (ρ := ρ) (k := k) hk' (aaE h)
  exact .ox (hrow j e t l h) hl hm (by rw [e1]; exact hb) hs (by rw [e1]; exact ha)
 ·intro j o n cap h hn hc
  rw [← afP (ρ := ρ) (k := k) hk' h]
  exact .sv (hkey j h) hn hc
 ·exact .nsl
 ·exact .nilp
 ·exact .nili
 ·exact .nni
 ·intro k t x v h; exact .ifc (RdV.mono hd h)
 ·intro g first caps vf vc _ _ h1 h2; exact .fn h1 h2
 ·intro l h
  rw [← afP (ρ := ρ) (k := k) hk' h]
  exact .yld (hkey l h)
 ·intro j h
  rw [← afP (ρ := ρ) (k := k) hk' h]
  exact .mp (hkey j h)
 ·intro cells vs _ h1 h; exact .ag h h1
 ·intro l vs _ h; exact .tup h
 ·exact .und
 ·intro v; exact .no
 ·exact .nil
 ·intro a v as vs _ _ h hs; exact .cons h hs
theorem VRs.ren (hk' : k' ∉ H.keys) : ∀ {xs : List AV} {vs : List Value}, VRs C ρ H w xs vs → VRs C (upd ρ k' (ρ k)) (Heap.ren k k' H) w (AV.rens k k' xs) vs
 | _, _, .nil => .nil
 | _, _, .cons h1 h2 => .cons (h1.ren hk') (VRs.ren hk' h2)
theorem MapR.ren {R R' : AV → Value → Prop} {k k' : Nat} {j : KK} (h : ∀ x v, R x v → R' (x.ren k k') v) : ∀ {l : List (DK × AV)} {es : List MapEntry}, MapR R j l es → MapR R' j (aGy k k' l) es
 | [], [], _ => trivial
 | _ :: _, _ :: _, ⟨h1, h2, h3⟩ => ⟨h1, h _ _ h2, MapR.ren h h3⟩
 | [], _ :: _, h => h.elim
 | _ :: _, [], h => h.elim
theorem aDO (s : List (Nat × AV)) (t : Nat) : acT (aj5 k k' s) t = (acT s t).ren k k' := by
 induction s with
 | nil => rfl
 | cons x r ih =>
  obtain ⟨j, a⟩ := x
  simp only [aj5, acT]
  cases Nat.beq j t <;> simp [ih]
theorem SRel.rekey {σ : St} {a : Act} (hs : SRel C ρ σ a w) (hk' : k' ∉ σ.H.keys) : SRel C (upd ρ k' (ρ k)) (σ.rekey k k') a w := by
 have hm := hs.m
 have hd : ∀ b, Ok C ρ σ.H w b → Ok C (upd ρ k' (ρ k)) (Heap.ren k k' σ.H) w b ∧ w.heap[b]? = w.heap[b]? := fun b h => ⟨h.ren hk', rfl⟩
 refine ⟨⟨hm.below, ?_, ?_, ?_, ?_, ?_⟩, fun t => ?_, hs.size, hs.defers.mono hd (zj _)⟩
 ·show (Heap.ren k k' σ.H).keys.Nodup
  rw [agN]
  refine List.nodup_iff_pairwise_ne.2 (List.pairwise_map.2 (List.Pairwise.imp_of_mem ?_ (List.nodup_iff_pairwise_ne.1 hm.nodup)))
  intro i j hi hj hne e
  apply hne
  have h1 := afP (ρ := fun x => x) (k := k) hk' hi
  have h2 := afP (ρ := fun x => x) (k := k) hk' hj
  rw [e] at h1
  exact h1.symm.trans h2
 ·intro j hj
  have hj' : j ∈ (Heap.ren k k' σ.H).keys := hj
  rw [agN] at hj'
  obtain ⟨i, hi, rfl⟩ := zH.1 hj'
  by_cases h : i = k
  ·subst h; rw [awZ]; exact zZ (yp _) (Nat.le_max_right _ _)
  ·rw [aGv h]; exact zZ (hm.lt i hi) (Nat.le_max_left _ _)
 ·intro j hj i hi e
  have hj' : j ∈ (Heap.ren k k' σ.H).keys := hj
  have hi' : i ∈ (Heap.ren k k' σ.H).keys := hi
  rw [agN] at hj' hi'
  obtain ⟨j0, hj0, rfl⟩ := zH.1 hj'
  obtain ⟨i0, hi0, rfl⟩ := zH.1 hi'
  rw [afP hk' hj0, afP hk' hi0] at e
  rw [hm.inj _ hj0 _ hi0 e]
 ·intro j hj
  have hj' : j ∈ (Heap.ren k k' σ.H).keys := hj
  rw [agN] at hj'
  obtain ⟨j0, hj0, rfl⟩ := zH.1 hj'
  rw [afP hk' hj0]
  exact hm.low _ hj0
 ·intro j b hb
  obtain ⟨i, c, h1, rfl, rfl⟩ := mem_ren.1 hb
  rw [afP hk' (aaE h1)]
  have hbr := hm.mem i c h1
  cases c with
  | vars e cells =>
   obtain ⟨c, g1, g2, g3⟩ := hbr
   exact ⟨c, g1, g2.ren hk', g3⟩
  | row e t l =>
   obtain ⟨c, g1, g2, g3, g4, g5⟩ := hbr
   exact ⟨c, g1, g2, g3, RdL.mono (fun x cs => Rd.mono hd t x cs) _ _ g4, g5⟩
  | loop r =>
   obtain ⟨fn, tmps, d, g1, g2, g3⟩ := hbr
   exact ⟨fn, tmps, d, g1, g2, fun t => by rw [aDO]; exact (g3 t).ren hk'⟩
  | dic j l =>
   obtain ⟨es, n, g1, g2⟩ := hbr
   exact ⟨es, n, g1, g2.ren (fun x v h => VR.ren hk' h)⟩
  | dicv j t l =>
   obtain ⟨es, n, g1, g2⟩ := hbr
   exact ⟨es, n, g1, g2.impD fun x v h => VR.ren (x := .d t x) hk' h⟩
  | any => exact hbr
 ·show VR C _ (Heap.ren k k' σ.H) w (acT (aj5 k k' σ.slots) t) _
  rw [aDO]
  exact (hs.slots t).ren hk'
theorem Fr.rekey {n : Nat} (hk' : k' ∉ H.keys) (h1 : n ≤ k') : Fr C n ρ H w (upd ρ k' (ρ k)) (Heap.ren k k' H) w := by
 refine ⟨fun b h => ⟨h.ren hk', rfl⟩, fun j hj hjm => ?_, fun j e t l hj hjm hj' => ⟨l, mem_ren.2 ⟨j, _, hjm, (aGv ?_).symm, rfl⟩, zj _, fun c fr hc => ⟨c, fr, hc, rfl⟩⟩, zj _⟩
 rotate_left
 ·rintro rfl
  rw [agN] at hj'
  obtain ⟨i, hi, e⟩ := zH.1 hj'
  by_cases h : i = j
  ·subst h; rw [awZ] at e; subst e; exact hk' hi
  ·rw [aGv h] at e; exact h e
 rw [agN] at hjm
 obtain ⟨i, hi, rfl⟩ := zH.1 hjm
 by_cases h : i = k
 ·subst h; rw [awZ] at hj; omega
 ·rw [aGv h] at hj ⊢
  exact ⟨hi, adH ρ zb⟩
end
section
variable {P : Program} {G : World → Prop}
end
def asT (α : Type) (x : α) : α := x
def len {α : Type} (l : List α) : Int := (l.length : Int)
def gi {α : Type} (l : List α) (i : Int) (d : α) : α := l.getD i.toNat d
def w64 (x : Int) : Int := IntKind.wrap .i64 x
def abG (x : Int) : Int := IntKind.wrap .u64 x
def agC (x : Int) : Int := IntKind.wrap .u32 x
def wu8 (x : Int) : Int := IntKind.wrap .u8 x
def inb (a b : Int) : Prop := 0 ≤ a ∧ a < b
def inc (a b : Int) : Prop := 0 ≤ a ∧ a ≤ b
def agU (fn : Func) : Code := fn.body.getD .skip
def aqQ : Code → List Nat → Code
 | c, [] => c
 | .seq a _, 0 :: r => aqQ a r
 | .seq _ b, _ :: r => aqQ b r
 | .cond _ a _, 0 :: r => aqQ a r
 | .cond _ _ b, _ :: r => aqQ b r
 | .block _ a, _ :: r => aqQ a r
 | .loop a, _ :: r => aqQ a r
 | .scope a, _ :: r => aqQ a r
 | .rangeFunc _ _ a _, 0 :: r => aqQ a r
 | .rangeFunc _ _ _ b, _ :: r => aqQ b r
 | _, _ => .skip
open Go Go.RowKit
def alW (m : Nat) : List Edge → Bool
 | [] => true
 | e :: r => match acA e with
  | true => match Nat.testBit m e.on with
   | true => alW m r
   | false => false
  | false => alW m r
def aFW (n : Nat) (σ σ' : St) : Prop := ∀ (C : Ctx) (ρ : Nat → Nat) (a : Act) (w : World), SRel C ρ σ a w → ∃ ρ', SRel C ρ' σ' a w ∧ Fr C n ρ σ.H w ρ' σ'.H w ∧ σ.next ≤ σ'.next
def aoA (P : Program) (Γ : Cons) (call : abN) (ops : Array Oper) (b : Nat) : Nat → Nat → St → (Fi → Prop) → Prop
 | 0, _, σ, K => K (.go σ)
 | n + 1, m, σ, K => ∀ i o, ops[i]? = some o → Nat.testBit m i = false → alW m o.after.toList = true → aa3 P Γ call ops [o] σ (aNU (fun σ1 => ∃ σ', aFW b σ1 σ' ∧ aoA P Γ call ops b n (m ||| 2 ^ i) σ' K) K)
theorem aoE {m : Nat} : ∀ {l : List Edge}, (∀ e ∈ l, acA e = true → Nat.testBit m e.on = true) → alW m l = true
 | [], _ => rfl
 | e :: r, h => by
  simp only [alW]
  cases hb : acA e with
  | false => exact aoE fun e he => h e (zu _ he)
  | true => simp only [h e (zG ..) hb]; exact aoE fun e he => h e (zu _ he)
section
variable {C : Ctx} {P : Program} {G : World → Prop} {Γ : Cons} {ops : Array Oper}
def aNG (C : Ctx) (b : Nat) (ρ : Nat → Nat) (H : Heap) (w : World) (K : St → Prop) (a' : Act) (w' : World) : Prop :=
 ∃ ρ' σ', K σ' ∧ SRel C ρ' σ' a' w' ∧ Fr C b ρ H w ρ' σ'.H w' ∧ b ≤ σ'.next
theorem aJy (hG : acS G) (hC : G C.w0) (hΓ : Γ.ok P G) {call : abN} (hcall : CallSat P G call) {Q : Exit → Act → World → Prop} {K : Fi → Prop} (hed : acP ops.toList 0 = true) (rnd : Option Nat) {b : Nat} :
  ∀ (n m : Nat) (listed : Array Bool) {ρ : Nat → Nat} {σ : St} {a : Act} {w : World}, SRel C ρ σ a w → b ≤ σ.next → aoA P Γ call ops b n m σ K → listed.size = ops.size → (∀ j, j < ops.size → listed.getD j false = Nat.testBit m j) →
   ayY (fun i => listed.getD i false) ops.size + n = ops.size → (∀ a' w', aNG C b ρ σ.H w (fun σ' => K (.go σ')) a' w' → Q .normal a' w') → (∀ ch a' w', aNG C b ρ σ.H w (fun σ' => K (.pan ch σ')) a' w' → Q (.panic ch) a' w') → wpAnyIn (aaW rnd) 0 P .any ops Q n listed a w := by
 intro n
 induction n with
 | zero =>
  intro m listed ρ σ a w hs hb h hsz hl hcnt hQ hP
  refine ⟨xQ.2 fun i hi => ?_, hQ a w ⟨ρ, σ, h, hs, Fr.refl _ _ _ _ _, hb⟩⟩
  unfold Region.ready at hi
  rw [xC] at hi
  obtain ⟨h1, h2⟩ := hi
  have hio : i < ops.size := by simpa using h1
  simp only [zl, zK] at h2
  have h3 : listed.getD i false = false := by
   have := h2.1
   rw [zo, zW zb] at this ⊢
   exact this
  have := ax9 (ls := fun i => listed.getD i false) h3 (n := ops.size) hio
  omega
 | succ n ih =>
  intro m listed ρ σ a w hs hb h hsz hl hcnt hQ hP
  have hlt : ∀ i, i < ops.size → listed.getD i true = listed.getD i false := by
   intro i hi
   rw [zo, zo, zW zb]
   rfl
  refine ⟨fun hnil => ?_, fun i hi => ?_⟩
  ·exfalso
   have hex : ∃ i, i < ops.size ∧ listed.getD i false = false := by
    refine Classical.byContradiction fun hno => ?_
    have hall : ∀ i, i < ops.size → listed.getD i false = true := fun i hi => by
     cases hb : listed.getD i false with
     | true => rfl
     | false => exact absurd ⟨i, hi, hb⟩ hno
    have := aeI (ls := fun i => listed.getD i false) (m := ops.size) hall (fun i hi => by
     show listed.getD i false = false
     rw [zo, yZ zb]; rfl) (n := ops.size)
    omega
   obtain ⟨i, hi1, hi2, hi3⟩ := amQ (ls := fun i => listed.getD i false) hex
   have hil : ops.toList[i]? = some ops[i] := by simp [hi1]
   have : i ∈ Region.ready .any ops listed := by
    unfold Region.ready
    rw [xC]
    refine ⟨by simpa using hi1, ?_⟩
    rw [hlt i hi1, show listed.getD i false = false from hi2, zW hi1]
    simp only [xz, xm, Bool.not_false, Bool.true_and]
    rw [yD]
    intro e he
    cases hb : Region.binds .any e with
    | false => rfl
    | true =>
     have := abL hed hil e he hb
     rw [zp] at this
     have h3 : listed.getD e.on false = true := hi3 e.on this
     simp [h3]
   rw [hnil] at this
   cases this
  ·unfold Region.ready at hi
   rw [xC] at hi
   obtain ⟨h1, h2⟩ := hi
   have hio : i < ops.size := by simpa using h1
   have hoi : ops[i]? = some ops[i] := zW hio
   rw [hlt i hio, hoi] at h2
   simp only [zl, zK, xz, xm, yD] at h2
   obtain ⟨h3, h4⟩ := h2
   have hmem : Nat.testBit m i = false := by rw [← hl i hio]; exact h3
   have hedge : alW m ops[i].after.toList = true := aoE fun e he hb => by
    have he' : e ∈ ops[i].after := by simpa using he
    have := h4 e he'
    unfold acA at hb
    rw [hb] at this
    have hlt' := abL hed (show ops.toList[i]? = some ops[i] by simp [hio]) e he' hb
    rw [zp] at hlt'
    rw [← hl e.on zb]
    simpa using this
   have hstep := h i ops[i] hoi hmem hedge
   unfold wpOpIn
   rw [hoi]
   simp only
   refine ajU hG hC hΓ hcall hs hstep ?_ (fun ch a' w' hr => by
    obtain ⟨ρ1, σ1, q1, q2, q3, q4⟩ := hr
    exact hP ch a' w' ⟨ρ1, σ1, q1, q2, (Fr.refl C b ρ σ.H w).trans hb q3, zt hb q4⟩) rnd
   rintro a' w' ⟨ρ1, σ1, ⟨σ', g1, g2⟩, g3, g4, g5⟩
   obtain ⟨ρ', k1, k2, k3⟩ := g1 C ρ1 a' w' g3
   have hset : ∀ j, (listed.setIfInBounds i true).getD j false = if j = i then true else listed.getD j false := by
    intro j
    by_cases hj : j = i
    ·subst hj
     rw [if_pos rfl, zo, yY zb]
     rfl
    ·rw [if_neg hj, zo, yH (Ne.symm hj), ← zo]
   have hfun : (fun j => (listed.setIfInBounds i true).getD j false) = am3 (fun j => listed.getD j false) i := by
    funext j; rw [hset]; rfl
   refine ih (m ||| 2 ^ i) _ k1 (zt hb (zt g5 k3)) g2 (by simp [hsz]) (fun j hj => ?_) ?_ (fun a'' w'' hr => ?_) (fun ch a'' w'' hr => ?_)
   ·rw [hset, xg, Nat.testBit_two_pow]
    by_cases hji : j = i
    ·subst hji; simp
    ·rw [if_neg hji, hl j hj]; simp [Ne.symm hji]
   ·rw [hfun, aqB h3 hio]
    omega
   ·obtain ⟨ρ2, σ2, q1, q2, q3, q4⟩ := hr
    refine hQ a'' w'' ⟨ρ2, σ2, q1, q2, ?_, q4⟩
    have f1 : Fr C b ρ σ.H w ρ1 σ1.H w' := (Fr.refl C b ρ σ.H w).trans hb g4
    exact (f1.trans (zj _) k2).trans (zj _) q3
   ·obtain ⟨ρ2, σ2, q1, q2, q3, q4⟩ := hr
    refine hP ch a'' w'' ⟨ρ2, σ2, q1, q2, ?_, q4⟩
    have f1 : Fr C b ρ σ.H w ρ1 σ1.H w' := (Fr.refl C b ρ σ.H w).trans hb g4
    exact (f1.trans (zj _) k2).trans (zj _) q3
theorem aNW (hG : acS G) (hmix : P.follows .mixedOrders = true) (hΓ : Γ.ok P G) {call : abN} (hcall : CallSat P G call) {rd : Option Nat} {id : Nat} {σ : St} {Q : Exit → St → Prop} (hed : acP ops.toList 0 = true)
  (h : aoA P Γ call ops σ.next ops.size 0 σ (ay9 Q)) : Sat P G rd (.region id ops true) σ Q := by
 intro C hC ρ a w hs rnd hrd
 obtain ⟨hmd, hextd⟩ := hs.m.grow (w' := w.drew) ((Below.refl _ _).drew)
 have hfr := hextd.fr (n := σ.next) (fun k _ hk => hk)
 have hs' : SRel C ρ σ a w.drew := hs.frame hmd hfr (fun k hk => hk)
 refine wpIn_region_any hmix (aJy hG hC hΓ hcall hed rnd ops.size 0 (Array.replicate ops.size false) hs' (zj _) h zf (fun j hj => ?_) ?_ (fun a' w' hr => ?_) (fun ch a' w' hr => ?_))
 ·rw [zo, xO, if_pos hj, Nat.zero_testBit]; rfl
 ·have := aeI (ls := fun i => (Array.replicate ops.size false).getD i false) (m := 0) (fun i hi => absurd hi (wO _)) (fun i _ => by
   show (Array.replicate ops.size false).getD i false = false
   rw [zo, xO]; split <;> rfl) (n := ops.size)
  omega
 ·obtain ⟨ρ1, σ1, h1, h2, h3, h4⟩ := hr
  exact ⟨ρ1, σ1, h1, h2, hfr.trans (zj _) h3, h4⟩
 ·obtain ⟨ρ1, σ1, h1, h2, h3, h4⟩ := hr
  exact ⟨ρ1, σ1, h1, h2, hfr.trans (zj _) h3, h4⟩
def St.rekeysK (n : Nat) (σ : St) : List (Nat × Nat) → St
 | [] => σ
 | (K, k') :: r => match abE σ.H k', abE σ.H K, Nat.ble n k' with
  | false, true, true => (σ.rekey K k').rekeysK n r
  | _, _, _ => σ.rekeysK n r
theorem SRel.rekeysK {n : Nat} {w : World} : ∀ (r : List (Nat × Nat)) {ρ : Nat → Nat} {σ : St} {a : Act}, SRel C ρ σ a w → ∃ ρ', SRel C ρ' (σ.rekeysK n r) a w ∧ Fr C n ρ σ.H w ρ' (σ.rekeysK n r).H w
 | [], ρ, σ, a, hs => ⟨ρ, hs, Fr.refl _ _ _ _ _⟩
 | (K, k') :: r, ρ, σ, a, hs => by
  simp only [St.rekeysK]
  split
  ·rename_i h1 h2 h3
   have hk' : k' ∉ σ.H.keys := fun h => by rw [hasKey_iff.2 h] at h1; cases h1
   obtain ⟨ρ', g1, g2⟩ := SRel.rekeysK (n := n) r (hs.rekey hk')
   exact ⟨ρ', g1, (Fr.rekey hk' (Nat.le_of_ble_eq_true h3)).trans (zj _) g2⟩
  ·exact SRel.rekeysK r hs
def St.raise (σ : St) (n : Nat) : St := { σ with next := Nat.max σ.next n }
theorem SRel.raise {ρ : Nat → Nat} {σ : St} {a : Act} {w : World} (hs : SRel C ρ σ a w) (n : Nat) : SRel C ρ (σ.raise n) a w := ⟨hs.m.mono (Nat.le_max_left _ _), hs.slots, hs.size, hs.defers⟩
theorem aCw (n k : Nat) (σ : St) (r : List (Nat × Nat)) (hn : σ.next ≤ ((σ.rekeysK n r).raise k).next) : aFW n σ ((σ.rekeysK n r).raise k) := by
 intro C ρ a w hs
 obtain ⟨ρ', h1, h2⟩ := SRel.rekeysK (n := n) r hs
 exact ⟨ρ', h1.raise k, h2, hn⟩
def eqT : (t : Ty) → t.T → t.T → Bool
 | .int _, x, y => eqD.eqI x y
 | .bool, x, y => eqD.eqB x y
 | .str, x, y => eqD.eqS x y
 | .unit, _, _ => true
 | .pair t u, x, y => match eqT t x.1 y.1 with
  | true => eqT u x.2 y.2
  | false => false
 | .arr _ t, x, y => eqD.eqL (eqT t) x y
 | .sl t, x, y => eqD.eqL (eqT t) x y
theorem aIX {α : Type} {f : α → α → Bool} (hf : ∀ x y, f x y = true → x = y) : ∀ (l m : List α), eqD.eqL f l m = true → l = m
 | [], [], _ => rfl
 | [], _ :: _, h => by cases h
 | _ :: _, [], h => by cases h
 | x :: l, y :: m, h => by
  simp only [eqD.eqL] at h
  cases hb : f x y with
  | false => rw [hb] at h; cases h
  | true => rw [hb] at h; rw [hf _ _ hb, aIX hf l m h]
theorem aQq {x y : Int} (h : eqD.eqI x y = true) : x = y := eq_of_beq h
theorem aQr {x y : Bool} (h : eqD.eqB x y = true) : x = y := eq_of_beq h
theorem aQo {x y : List UInt8} (h : eqD.eqS x y = true) : x = y := eq_of_beq h
theorem aAV : ∀ (t : Ty) (x y : t.T), eqT t x y = true → x = y
 | .int _, _, _, h => aQq h
 | .bool, _, _, h => aQr h
 | .str, _, _, h => aQo h
 | .unit, x, y, _ => rfl
 | .pair t u, x, y, h => by
  simp only [eqT] at h
  cases hb : eqT t x.1 y.1 with
  | false => rw [hb] at h; cases h
  | true => rw [hb] at h; exact Prod.ext (aAV t _ _ hb) (aAV u _ _ h)
 | .arr _ t, x, y, h => aIX (aAV t) x y h
 | .sl t, x, y, h => aIX (aAV t) x y h
mutual
def avB (p : Nat → Bool) : AV → AV → Bool
 | .no, _ => true
 | .d u y, .d t x => match t.as u x with
  | some x' => eqT u x' y
  | none => false
 | .dptr u y, .dptr t x => match t.as u x with
  | some x' => eqT u x' y
  | none => false
 | .nsl, .nsl => true
 | .nilp, .nilp => true
 | .nili, .nili => true
 | .nni, .nni => true
 | .ifc k u y, .ifc k' t x => Nat.beq k' k && match t.as u x with
  | some x' => eqT u x' y
  | none => false
 | .und, .und => true
 | .ptr k i, .ptr k' i' => Nat.beq k' k && Nat.beq i' i && p k
 | .eptr k i, .eptr k' i' => Nat.beq k' k && Nat.beq i' i && p k
 | .own k o n, .own k' o' n' => Nat.beq k' k && Nat.beq o' o && Nat.beq n' n && p k
 | .ox k o n, .ox k' o' n' => Nat.beq k' k && Nat.beq o' o && Nat.beq n' n && p k
 | .sv k o n c, .sv k' o' n' c' => Nat.beq k' k && Nat.beq o' o && Nat.beq n' n && Nat.beq c' c && p k
 | .mp k, .mp k' => Nat.beq k' k && p k
 | .fn f x y, .fn f' x' y' => Nat.beq f' f && aO5 p x x' && aO5 p y y'
 | .ag l, .ag l' => aO5 p l l'
 | .tup l, .tup l' => aO5 p l l'
 | _, _ => false
def aO5 (p : Nat → Bool) : List AV → List AV → Bool
 | [], [] => true
 | b :: bs, a :: as => avB p b a && aO5 p bs as
 | _, _ => false
end
def aPd (p : Nat → Bool) (s : List (Nat × AV)) : List (Nat × AV) → Bool
 | [] => true
 | (t, b) :: r => avB p b (acT s t) && aPd p s r
def bkB (p : Nat → Bool) : Bk → Bk → Bool
 | .any, .any => true
 | .vars e cells, .vars e' cells' => Nat.beq e' e && aO5 p cells cells'
 | .row e t l, .row e' t' l' => Nat.beq e' e && match (t'.sl).as (.sl t) l' with
  | some z => eqT (.sl t) z l
  | none => false
 | _, _ => false
def aRB (p : Nat → Bool) (H : Heap) (n : Nat) : Heap → Bool
 | [] => true
 | (k, b) :: r => (match H.find k with
  | some b' => bkB p b b'
  | none => false) && Nat.blt k n && aRB p H n r
mutual
def avE : AV → AV → Bool
 | .no, .no => true
 | .d u y, .d t x => match t.as u x with
  | some x' => eqT u y x'
  | none => false
 | .dptr u y, .dptr t x => match t.as u x with
  | some x' => eqT u y x'
  | none => false
 | .nsl, .nsl => true
 | .nilp, .nilp => true
 | .nili, .nili => true
 | .nni, .nni => true
 | .und, .und => true
 | .ptr k i, .ptr k' i' => Nat.beq k k' && Nat.beq i i'
 | .eptr k i, .eptr k' i' => Nat.beq k k' && Nat.beq i i'
 | .own k o n, .own k' o' n' => Nat.beq k k' && Nat.beq o o' && Nat.beq n n'
 | .ox k o n, .ox k' o' n' => Nat.beq k k' && Nat.beq o o' && Nat.beq n n'
 | .sv k o n c, .sv k' o' n' c' => Nat.beq k k' && Nat.beq o o' && Nat.beq n n' && Nat.beq c c'
 | .mp k, .mp k' => Nat.beq k k'
 | .fn f x y, .fn f' x' y' => Nat.beq f f' && aNC x x' && aNC y y'
 | .ag l, .ag l' => aNC l l'
 | .tup l, .tup l' => aNC l l'
 | _, _ => false
def aNC : List AV → List AV → Bool
 | [], [] => true
 | b :: bs, a :: as => avE b a && aNC bs as
 | _, _ => false
end
theorem aJv {t u : Ty} {x : t.T} {y x' : u.T} (h : t.as u x = some x') (e : eqT u y x' = true) : (⟨u, y⟩ : (t : Ty) × t.T) = ⟨t, x⟩ := by
 obtain ⟨e1, e2⟩ := Ty.as_some h
 subst e1
 have := aAV _ _ _ e
 subst this
 have e2 : x = y := e2
 rw [e2]
mutual
theorem atG : ∀ (b a : AV), avE b a = true → b = a
 | .no, .no, _ => rfl
 | .d u y, .d t x, h => by
  simp only [avE] at h
  split at h
  ·rename_i x' hx
   have := aJv hx h
   injection this with h1 h2
   subst h1
   rw [eq_of_heq h2]
  ·cases h
 | .dptr u y, .dptr t x, h => by
  simp only [avE] at h
  split at h
  ·rename_i x' hx
   have := aJv hx h
   injection this with h1 h2
   subst h1
   rw [eq_of_heq h2]
  ·cases h
 | .nsl, .nsl, _ => rfl
 | .nilp, .nilp, _ => rfl
 | .nili, .nili, _ => rfl
 | .nni, .nni, _ => rfl
 | .und, .und, _ => rfl
 | .ptr k i, .ptr k' i', h => by
  simp only [avE, zl] at h
  rw [Nat.eq_of_beq_eq_true h.1, Nat.eq_of_beq_eq_true h.2]
 | .eptr k i, .eptr k' i', h => by
  simp only [avE, zl] at h
  rw [Nat.eq_of_beq_eq_true h.1, Nat.eq_of_beq_eq_true h.2]
 | .own k o n, .own k' o' n', h => by
  simp only [avE, zl] at h
  rw [Nat.eq_of_beq_eq_true h.1.1, Nat.eq_of_beq_eq_true h.1.2, Nat.eq_of_beq_eq_true h.2]
 | .ox k o n, .ox k' o' n', h => by
  simp only [avE, zl] at h
  rw [Nat.eq_of_beq_eq_true h.1.1, Nat.eq_of_beq_eq_true h.1.2, Nat.eq_of_beq_eq_true h.2]
 | .sv k o n c, .sv k' o' n' c', h => by
  simp only [avE, zl] at h
  rw [Nat.eq_of_beq_eq_true h.1.1.1, Nat.eq_of_beq_eq_true h.1.1.2, Nat.eq_of_beq_eq_true h.1.2, Nat.eq_of_beq_eq_true h.2]
 | .mp k, .mp k', h => by
  simp only [avE] at h
  rw [Nat.eq_of_beq_eq_true h]
 | .fn f x y, .fn f' x' y', h => by
  simp only [avE, zl] at h
  rw [Nat.eq_of_beq_eq_true h.1.1, aoL _ _ h.1.2, aoL _ _ h.2]
 | .ag l, .ag l', h => by rw [aoL l l' h]
 | .tup l, .tup l', h => by rw [aoL l l' h]
theorem aoL : ∀ (bs as : List AV), aNC bs as = true → bs = as
 | [], [], _ => rfl
 | b :: bs, a :: as, h => by
  simp only [aNC, zl] at h
  rw [atG b a h.1, aoL bs as h.2]
 | [], _ :: _, h => by cases h
 | _ :: _, [], h => by cases h
end
def aDo : List (Nat × AV) → List (Nat × AV) → Bool
 | [], [] => true
 | (t, b) :: r, (t', b') :: r' => match Nat.beq t t' with
  | true => match avE b b' with
   | true => aDo r r'
   | false => false
  | false => false
 | _, _ => false
theorem ay2 : ∀ {l l' : List (Nat × AV)}, aDo l l' = true → l = l'
 | [], [], _ => rfl
 | [], _ :: _, h => by cases h
 | _ :: _, [], h => by cases h
 | (t, b) :: r, (t', b') :: r', h => by
  simp only [aDo] at h
  split at h
  ·rename_i h1
   split at h
   ·rename_i h2
    rw [Nat.eq_of_beq_eq_true h1, atG _ _ h2, ay2 h]
   ·cases h
  ·cases h
def aQU : List (DK × AV) → List (DK × AV) → Bool
 | [], [] => true
 | (t, b) :: r, (t', b') :: r' => match eqK t t' with
  | true => match avE b b' with
   | true => aQU r r'
   | false => false
  | false => false
 | _, _ => false
theorem aI8 : ∀ {l l' : List (DK × AV)}, aQU l l' = true → l = l'
 | [], [], _ => rfl
 | [], _ :: _, h => by cases h
 | _ :: _, [], h => by cases h
 | (t, b) :: r, (t', b') :: r', h => by
  simp only [aQU] at h
  split at h
  ·rename_i h1
   split at h
   ·rename_i h2
    rw [aIY h1, atG _ _ h2, aI8 h]
   ·cases h
  ·cases h
def bkE : Bk → Bk → Bool
 | .any, .any => true
 | .dic k l, .dic k' l' => match decide (k = k') with
  | true => aQU l l'
  | false => false
 | .dicv _ _ _, .dicv _ _ _ => false
 | .vars e cells, .vars e' cells' => Nat.beq e e' && aNC cells cells'
 | .row e t l, .row e' t' l' => Nat.beq e e' && match (t'.sl).as (.sl t) l' with
  | some z => eqT (.sl t) l z
  | none => false
 | _, _ => false
theorem aQx : ∀ (b a : Bk), bkE b a = true → b = a
 | .any, .any, _ => rfl
 | .dic k l, .dic k' l', h => by
  simp only [bkE] at h
  split at h
  ·rename_i h1
   rw [of_decide_eq_true h1, aI8 h]
  ·cases h
 | .vars e cells, .vars e' cells', h => by
  simp only [bkE, zl] at h
  rw [Nat.eq_of_beq_eq_true h.1, aoL _ _ h.2]
 | .row e t l, .row e' t' l', h => by
  simp only [bkE, zl] at h
  have h2 := h.2
  split at h2
  ·rename_i z hz
   have := aJv hz h2
   injection this with g1 g2
   injection g1 with g1
   subst g1
   rw [Nat.eq_of_beq_eq_true h.1, eq_of_heq g2]
  ·cases h2
def aLH : Heap → Heap → Bool
 | [], [] => true
 | (t, b) :: r, (t', b') :: r' => match Nat.beq t t' with
  | true => match bkE b b' with
   | true => aLH r r'
   | false => false
  | false => false
 | _, _ => false
theorem aDY : ∀ {l l' : Heap}, aLH l l' = true → l = l'
 | [], [], _ => rfl
 | [], _ :: _, h => by cases h
 | _ :: _, [], h => by cases h
 | (t, b) :: r, (t', b') :: r', h => by
  simp only [aLH] at h
  split at h
  ·rename_i h1
   split at h
   ·rename_i h2
    rw [Nat.eq_of_beq_eq_true h1, aQx _ _ h2, aDY h]
   ·cases h
  ·cases h
def stE (σ σ' : St) : Bool := Nat.beq σ.n σ'.n && Nat.beq σ.next σ'.next && aDo σ.slots σ'.slots && aLH σ.H σ'.H
theorem aPc {σ σ' : St} (h : stE σ σ' = true) : σ = σ' := by
 simp only [stE, zl] at h
 obtain ⟨⟨⟨h1, h2⟩, h3⟩, h4⟩ := h
 cases σ; cases σ'
 simp only at h1 h2 h3 h4
 rw [Nat.eq_of_beq_eq_true h1, Nat.eq_of_beq_eq_true h2, ay2 h3, aDY h4]
def aQO : Nat → Nat → AV → List (Nat × AV) → List (Nat × AV)
 | 0, t, v, l => (t, v) :: l
 | _ + 1, t, v, [] => [(t, v)]
 | n + 1, t, v, (k, a) :: r => match Nat.blt k t with
  | true => (k, a) :: aQO n t v r
  | false => (t, v) :: (k, a) :: r
theorem aAh (u : Nat) : ∀ (n t : Nat) (v : AV) (l : List (Nat × AV)), acT (aQO n t v l) u = acT ((t, v) :: l) u
 | 0, _, _, _ => rfl
 | _ + 1, _, _, [] => rfl
 | n + 1, t, v, (k, a) :: r => by
  simp only [aQO]
  cases hb : Nat.blt k t with
  | false => rfl
  | true =>
   have hlt : k < t := Nat.le_of_ble_eq_true hb
   have ih := aAh u n t v r
   simp only [acT] at ih ⊢
   cases h1 : Nat.beq k u with
   | true =>
    have := Nat.eq_of_beq_eq_true h1
    subst this
    have h2 : Nat.beq t k = false := arX zb
    simp only [h2]
   | false => simp only; exact ih
def aQP (lo : Nat) (k : Nat) (b : Bk) : Heap → Heap
 | [] => [(k, b)]
 | (j, c) :: r => match Nat.blt lo j && Nat.blt j k with
  | true => (j, c) :: aQP lo k b r
  | false => (k, b) :: (j, c) :: r
theorem aAo (lo k : Nat) (b : Bk) : ∀ l : Heap, (aQP lo k b l).Perm ((k, b) :: l)
 | [] => .refl _
 | (j, c) :: r => by
  simp only [aQP]
  split
  ·exact ((aAo lo k b r).cons _).trans (.swap _ _ _)
  ·exact .refl _
def aNO (n : Nat) : List (Nat × AV) → List (Nat × AV)
 | [] => []
 | (t, v) :: r => aQO n t v r
def aKi (lo : Nat) : Heap → Heap
 | [] => []
 | (k, b) :: r => aQP lo k b r
def St.sort (n lo : Nat) (σ : St) : St := { σ with slots := aNO n σ.slots, H := aKi lo σ.H }
theorem aEt (lo : Nat) : ∀ l : Heap, (aKi lo l).Perm l
 | [] => .refl _
 | (_, _) :: _ => aAo ..
theorem aFh (n u : Nat) : ∀ l : List (Nat × AV), acT (aNO n l) u = acT l u
 | [] => rfl
 | (_, _) :: _ => aAh ..
theorem SRel.sort {ρ : Nat → Nat} {σ : St} {a : Act} {w : World} (hs : SRel C ρ σ a w) (n lo : Nat) : SRel C ρ (σ.sort n lo) a w ∧ ∀ m, Fr C m ρ σ.H w ρ (σ.sort n lo).H w := by
 have hp := aEt lo σ.H
 obtain ⟨h1, h2⟩ := hs.m.perm (H' := aKi lo σ.H) (fun x => hp.mem_iff.symm) ((hp.map _).nodup_iff.2 hs.m.nodup)
 refine ⟨⟨h1, fun t => ?_, hs.size, hs.defers.mono h2.data h2.size⟩, fun m => h2.fr (fun k _ hk => ((hp.map _).mem_iff).1 hk)⟩
 show VR C ρ (aKi lo σ.H) w (acT (aNO n σ.slots) t) _
 rw [aFh]
 exact h2.vr (hs.slots t)
def aCF : Bk → Bk
 | .loop r => match r.st with
  | .exhausted => .any
  | _ => .loop r
 | b => b
def asA : Heap → Heap
 | [] => []
 | (k, b) :: r => (k, aCF b) :: asA r
def St.forget (σ : St) : St := { σ with H := asA σ.H }
theorem ao8 : ∀ H : Heap, (asA H).keys = H.keys
 | [] => rfl
 | (k, _) :: r => congrArg (k :: ·) (ao8 r)
theorem ar9 : ∀ {H : Heap} {k : Nat} {b : Bk}, (k, b) ∈ asA H → ∃ c, (k, c) ∈ H ∧ b = aCF c
 | (j, c) :: r, k, b, h => by
  rcases zq.1 h with e | h
  ·injection e with e1 e2; subst e1; exact ⟨c, zG, e2⟩
  ·obtain ⟨d, h1, h2⟩ := ar9 h; exact ⟨d, zu _ h1, h2⟩
theorem ar8 : ∀ {H : Heap} {k : Nat} {e : TypeId} {t : Ty} {l : List t.T}, (k, Bk.row e t l) ∈ H → (k, Bk.row e t l) ∈ asA H
 | (j, c) :: r, k, e, t, l, h => by
  rcases zq.1 h with h | h
  ·rw [← h]; exact zG
  ·exact zu _ (ar8 h)
theorem SRel.forget {ρ : Nat → Nat} {σ : St} {a : Act} {w : World} (hs : SRel C ρ σ a w) : SRel C ρ σ.forget a w ∧ ∀ m, Fr C m ρ σ.H w ρ σ.forget.H w := by
 have hk : σ.forget.H.keys = σ.H.keys := ao8 σ.H
 have h2 : Ext C ρ σ.H w ρ σ.forget.H w := ⟨fun b hb => ⟨⟨hb.1, hb.2.1, fun k h => hb.2.2 k (hk ▸ h)⟩, rfl⟩, fun k h => ⟨by rw [hk]; exact h, rfl⟩, fun k e t l h => ⟨l, ar8 h, zj _, fun c fr hc => ⟨c, fr, hc, rfl⟩⟩, zj _⟩
 refine ⟨⟨⟨hs.m.below, by rw [hk]; exact hs.m.nodup, fun k h => hs.m.lt k (hk ▸ h), fun k h k' h' => hs.m.inj k (hk ▸ h) k' (hk ▸ h'), fun k h => hs.m.low k (hk ▸ h), fun k b hb => ?_⟩, fun t => h2.vr (hs.slots t), hs.size, hs.defers.mono h2.data h2.size⟩, fun m => h2.fr (fun k _ h => hk ▸ h)⟩
 obtain ⟨c, hc, rfl⟩ := ar9 hb
 have hr := hs.m.mem k c hc
 cases c with
 | loop r =>
  unfold aCF
  cases hst : r.st <;> simp only [hst] <;> first | exact BkR.ext h2 rfl hr | exact hr.block
 | _ => exact BkR.ext h2 rfl hr
theorem aCx (n k p lo : Nat) (σ : St) (r : List (Nat × Nat)) (hn : σ.next ≤ (((σ.rekeysK n r).sort p lo).forget.raise k).next) : aFW n σ (((σ.rekeysK n r).sort p lo).forget.raise k) := by
 intro C ρ a w hs
 obtain ⟨ρ', h1, h2⟩ := SRel.rekeysK (n := n) r hs
 obtain ⟨h3, h4⟩ := h1.sort p lo
 obtain ⟨h5, h6⟩ := h3.forget
 exact ⟨ρ', h5.raise k, (h2.trans (zj _) (h4 n)).trans (zj _) (h6 n), hn⟩
end
open Go Go.RowKit
def aHZ (a : AV) (K : AV → Prop) : Prop := match a with
 | .d t x => K (.d t x)
 | .ptr k o => K (.ptr k o)
 | .eptr k i => K (.eptr k i)
 | .efp k i f => K (.efp k i f)
 | .dptr t x => K (.dptr t x)
 | .own k o n => K (.own k o n)
 | .ox k o n => K (.ox k o n)
 | .sv k o n c => K (.sv k o n c)
 | .nsl => K (.nsl)
 | .nilp => K (.nilp)
 | .nili => K (.nili)
 | .nni => K (.nni)
 | .ifc k t x => K (.ifc k t x)
 | .fn f a b => K (.fn f a b)
 | .yld l => K (.yld l)
 | .mp k => K (.mp k)
 | .ag l => K (.ag l)
 | .tup l => K (.tup l)
 | .und => K (.und)
 | .no => K (.no)
theorem aAb (a : AV) (K : AV → Prop) : aHZ a K = K a := by cases a <;> rfl
def arW : List AV → (List AV → Prop) → Prop
 | [], K => K []
 | a :: r, K => aHZ a fun a' => arW r fun r' => K (a' :: r')
theorem aAa : ∀ (l : List AV) (K : List AV → Prop), arW l K = K l
 | [], _ => rfl
 | a :: r, K => by simp only [arW, aAb, aAa r]
def aLr (a : AV) (K : AV → Prop) : Prop := match a with
 | .fn f x y => arW x fun x' => arW y fun y' => K (.fn f x' y')
 | .ag l => arW l fun l' => K (.ag l')
 | .tup l => arW l fun l' => K (.tup l')
 | a => aHZ a K
theorem aDM (a : AV) (K : AV → Prop) : aLr a K = K a := by
 cases a <;> simp only [aLr, aAa, aAb]
def aLo : List AV → (List AV → Prop) → Prop
 | [], K => K []
 | a :: r, K => aLr a fun a' => aLo r fun r' => K (a' :: r')
theorem aDK : ∀ (l : List AV) (K : List AV → Prop), aLo l K = K l
 | [], _ => rfl
 | a :: r, K => by simp only [aLo, aDM, aDK r]
def aDJ : List (Nat × AV) → (List (Nat × AV) → Prop) → Prop
 | [], K => K []
 | (t, a) :: r, K => aLr a fun a' => aDJ r fun r' => K ((t, a') :: r')
theorem az9 : ∀ (l : List (Nat × AV)) (K : List (Nat × AV) → Prop), aDJ l K = K l
 | [], _ => rfl
 | (t, a) :: r, K => by simp only [aDJ, aDM, az9 r]
def aOj (b : Bk) (K : Bk → Prop) : Prop := match b with
 | .vars e l => aLo l fun l' => K (.vars e l')
 | b => K b
theorem aLq (b : Bk) (K : Bk → Prop) : aOj b K = K b := by cases b <;> simp only [aOj, aDK]
def aLp : Heap → (Heap → Prop) → Prop
 | [], K => K []
 | (k, b) :: r, K => aOj b fun b' => aLp r fun r' => K ((k, b') :: r')
theorem aDL : ∀ (H : Heap) (K : Heap → Prop), aLp H K = K H
 | [], _ => rfl
 | (k, b) :: r, K => by simp only [aLp, aLq, aDL r]
def au9 (σ : St) (K : St → Prop) : Prop := aDJ σ.slots fun s => aLp σ.H fun h => K { slots := s, H := h, next := σ.next, n := σ.n }
theorem ahF (σ : St) (K : St → Prop) : au9 σ K = K σ := by simp only [au9, az9, aDL]
def aNc (o : Oper) : Bool :=
 match o.guard with
 | some _ => false
 | none => match o.dst with
  | none => false
  | some _ => match o.op with
   | .move _ => true
   | .load _ _ => true
   | .fieldAddr _ _ _ => true
   | .field _ _ _ => true
   | .indexAddr _ _ _ => true
   | .index _ _ _ => true
   | .extract _ _ => true
   | .convert _ _ _ => true
   | .build _ _ => true
   | .binOp _ _ _ _ _ => true
   | .unOp _ _ _ => true
   | _ => false
def evU (P : Program) (H : Heap) (arg : Operand → AV) (o : Oper) : T AV :=
 match o.op with
 | .load t a => ao3 P H t (arg a)
 | _ => evP P H arg o
def aJ6 : List Oper → Nat → Nat → Nat
 | [], _, u => u
 | o :: r, i, u => match aNc o && o.after.toList.all (fun e => !acA e || u.testBit e.on) with
  | true => aJ6 r (i + 1) (u ||| 2 ^ i)
  | false => aJ6 r (i + 1) u
def aQv (o : Oper) (t : Nat) : List Oper → Nat → Bool
 | [], _ => true
 | p :: r, j => (match p.dst with
  | some d => match Nat.beq d t with
   | true => adG o j
   | false => true
  | none => true) && aQv o t r (j + 1)
def aiE (o : Oper) : Bool := match o.op with
 | .select _ _ => false
 | .defer _ => false
 | _ => true
def aO4 (pre : List Oper) : List Oper → Nat → Bool
 | [], _ => true
 | o :: r, i => (match o.guard with | none => true | some _ => false) && ((ai7 o.op.operands.toList).all (fun t => aQv o t pre 0) && ((match o.dst with | some d => atA i d pre 0 | none => true) && (aiE o && aO4 pre r (i + 1))))
def agW (m i : Nat) : List Nat → Nat → Bool
 | [], _ => false
 | x :: r, j => (m.testBit j && x.testBit i) || agW m i r (j + 1)
def acC (a b : AV) : Prop := a = b
def aGs (r y : AV) (K : Prop) : Prop := match y with
 | .ptr _ _ => (match avE r y with | true => K | false => False)
 | .nsl => (match avE r y with | true => K | false => False)
 | .own _ _ _ => (match avE r y with | true => K | false => False)
 | _ => acC r y ∧ K
theorem ay6 {r y : AV} {K : Prop} (h : aGs r y K) : r = y ∧ K := by
 unfold aGs at h
 split at h
 ·split at h
  ·rename_i h1; exact ⟨atG _ _ h1, h⟩
  ·exact h.elim
 ·split at h
  ·rename_i h1; exact ⟨atG _ _ h1, h⟩
  ·exact h.elim
 ·split at h
  ·rename_i h1; exact ⟨atG _ _ h1, h⟩
  ·exact h.elim
 ·exact h
def aQL (c n : Nat) : Heap → List (Nat × Nat)
 | [] => []
 | (k, _) :: r => match Nat.ble n k with
  | true => (k, c + (k - n)) :: aQL c n r
  | false => aQL c n r
def aRJ (b L i k : Nat) (σ σ1 : St) : St :=
 match Nat.ble σ1.next ((σ1.rekeysK b (aQL (b + 1000 * (i + 1)) σ.next σ1.H)).raise (b + 1000 * (L + 2) + 1000 * (L - k))).next with
 | true => (σ1.rekeysK b (aQL (b + 1000 * (i + 1)) σ.next σ1.H)).raise (b + 1000 * (L + 2) + 1000 * (L - k))
 | false => σ1
theorem aFG (b L i k : Nat) (σ σ1 : St) : aFW b σ1 (aRJ b L i k σ σ1) := by
 unfold aRJ
 split
 ·rename_i h; exact aCw _ _ _ _ (Nat.le_of_ble_eq_true h)
 ·exact fun C ρ a w hs => ⟨ρ, hs, Fr.refl _ _ _ _ _, zj _⟩
def obU (P : Program) (σ : St) (o : Oper) (K : Prop) : Prop :=
 match o.dst with
 | none => False
 | some d => (evU P σ.H σ.eval o).holds fun r => match acT σ.slots d with
  | .no => K
  | y => aGs r y K
def aeE (P : Program) (ms : List Nat) (u m : Nat) (σ : St) (K : Prop) : List Oper → Nat → Prop
 | [], _ => K
 | o :: r, i => match u.testBit i && !agW m i ms 0 with
  | true => obU P σ o (aeE P ms u m σ K r (i + 1))
  | false => aeE P ms u m σ K r (i + 1)
def aKq (P : Program) (u : Nat) (K : St → Prop) : List Oper → Nat → St → Prop
 | [], _, σ => K σ
 | o :: r, i, σ => match u.testBit i with
  | true => (evU P σ.H σ.eval o).holds fun x => aKq P u K r (i + 1) (σ.put o.dst x)
  | false => aKq P u K r (i + 1) σ
def aLU (o : Oper) (v : Nat) : Bool := o.after.toList.all fun e => !acA e || v.testBit e.on
def asU (v : Nat) : List Oper → Nat → List (Nat × Oper)
 | [], _ => []
 | o :: r, i => match !(v.testBit i) && aLU o v with
  | true => (i, o) :: asU v r (i + 1)
  | false => asU v r (i + 1)
structure Both (p q : Prop) : Prop where
 l : p
 r : q
def aQD (f : Nat × Oper → Prop) : List (Nat × Oper) → Prop
 | [] => False
 | [x] => f x
 | x :: y :: r => Both (f x) (aQD f (y :: r))
theorem aEj {f : Nat × Oper → Prop} : ∀ {l : List (Nat × Oper)}, aQD f l → ∀ x ∈ l, f x
 | [x], h, y, hy => by
  rcases zq.1 hy with rfl | hy
  ·exact h
  ·cases hy
 | x :: z :: r, h, y, hy => by
  rcases zq.1 hy with rfl | hy
  ·exact h.l
  ·exact aEj h.r y hy
def goQ (K : St → Prop) : Fi → Prop
 | .go σ => K σ
 | .pan _ _ => False
def apI (v : Nat) : List Oper → Nat → Nat
 | [], _ => 0
 | _ :: r, i => match v.testBit i with
  | true => apI v r (i + 1)
  | false => apI v r (i + 1) + 1
def ak7 (m : Nat) : List Oper → Nat → Nat → Nat
 | [], _, u => u
 | o :: r, i, u => match !((u ||| m).testBit i) && (aNc o && o.after.toList.all (fun e => !acA e || (u ||| m).testBit e.on)) with
  | true => ak7 m r (i + 1) (u ||| 2 ^ i)
  | false => ak7 m r (i + 1) u
def aRW (c : Nat) (t s : Prop) : Prop := match c with
 | 0 => t
 | _ + 1 => s
def aIc {α : Type} : List α → Bool
 | _ :: _ :: _ => true
 | _ => false
def aRK (c : Bool) (b L i k : Nat) (σ σ1 : St) : St := match c with
 | true => aRJ b L i k σ σ1
 | false => σ1
theorem aFH (c : Bool) (b L i k : Nat) (σ σ1 : St) : aFW b σ1 (aRK c b L i k σ σ1) := by
 cases c with
 | true => exact aFG b L i k σ σ1
 | false => exact fun C ρ a w hs => ⟨ρ, hs, Fr.refl _ _ _ _ _, zj _⟩
def aAO (P : Program) (Γ : Cons) (call : abN) (b : Nat) (pre : List Oper) (ms : List Nat) (tl : St → Prop) : Nat → Bool → Nat → Nat → St → Prop
 | 0, _, u, m, σ => aeE P ms u m σ (aRW (apI (u ||| m) pre 0) (tl σ) False) pre 0
 | k + 1, c, u, m, σ => aeE P ms u m σ (aRW (apI (u ||| m) pre 0) (tl σ) (aQD (fun x => opS P Γ call x.2 σ (goQ fun σ' => au9 (aRK (c || aIc (asU (u ||| m) pre 0)) b pre.length x.1 k σ σ') fun σ2 => aKq P (ak7 (m ||| 2 ^ x.1) pre 0 u ^^^ u) (fun σ1 => aAO P Γ call b pre ms tl k (c || aIc (asU (u ||| m) pre 0)) (ak7 (m ||| 2 ^ x.1) pre 0 u) (m ||| 2 ^ x.1) σ1) pre 0 σ2)) (asU (u ||| m) pre 0))) pre 0
def aFz (P : Program) (Γ : Cons) (call : abN) (ops : Array Oper) (σ : St) (K : Fi → Prop) : Prop :=
 let l := ops.toList
 let ms := abI l []
 let m := abU ms
 let pre := l.take m
 let u := aJ6 pre 0 0
 match aO4 pre pre 0 && acP l 0 && ag4 m ms 0 && Nat.ble m l.length with
 | true => au9 σ fun σ => aKq P u (fun σ' => aAO P Γ call σ.next pre ms (fun σ'' => aa3 P Γ call ops (l.drop m) σ'' K) (apI u pre 0) false u 0 σ') pre 0 σ
 | false => False
theorem MRel.keepP {C : Ctx} {ρ : Nat → Nat} {H : Heap} {next : Nat} {w : World} (hm : MRel C ρ H next w) (p : Nat → Bool) :
  MRel C ρ (H.keep p aeG) next w ∧ (∀ x v, VR C ρ H w x v → VR C ρ (H.keep p aeG) w (x.map p aeG) v) ∧ ∀ n, Fr C n ρ H w ρ (H.keep p aeG) w := by
 have hv : ∀ x v, VR C ρ H w x v → VR C ρ (H.keep p aeG) w (x.map p aeG) v := fun x v h =>
  VR.map (fun b hb => ⟨hb.keep, rfl⟩) (fun k hk hp => ⟨Heap.keys_keep.2 ⟨hp, hk⟩, rfl⟩) (fun k e t l hk hp => ⟨l, Heap.mem_keep.2 ⟨hp, _, hk, rfl⟩, zj _, fun c fr hc => ⟨c, fr, hc, rfl⟩⟩) (fun _ _ _ _ _ _ => .no) h
 have hd : ∀ b, Ok C ρ H w b → Ok C ρ (H.keep p aeG) w b ∧ w.heap[b]? = w.heap[b]? := fun b hb => ⟨hb.keep, rfl⟩
 refine ⟨⟨hm.below, Heap.nodup_keep hm.nodup, fun k hk => hm.lt k (Heap.keys_keep.1 hk).2, fun k hk k' hk' => hm.inj k (Heap.keys_keep.1 hk).2 k' (Heap.keys_keep.1 hk').2, fun k hk => hm.low k (Heap.keys_keep.1 hk).2, fun k b hb => ?_⟩, hv,
  fun n => ⟨hd, fun k _ hk => ⟨(Heap.keys_keep.1 hk).2, rfl⟩, fun k e t l _ hkm hk => ⟨l, Heap.mem_keep.2 ⟨(Heap.keys_keep.1 hk).1, _, hkm, rfl⟩, zj _, fun c fr hc => ⟨c, fr, hc, rfl⟩⟩, zj _⟩⟩
 obtain ⟨_, b', hb', rfl⟩ := Heap.mem_keep.1 hb
 have hbr := hm.mem k b' hb'
 cases b' with
 | vars e cells =>
  obtain ⟨c, g1, g2, g3⟩ := hbr
  exact ⟨c, g1, VRs.map hv g2, g3⟩
 | row e t l =>
  obtain ⟨c, g1, g2, g3, g4, g5⟩ := hbr
  exact ⟨c, g1, g2, g3, RdL.mono (fun x cs => Rd.mono hd t x cs) _ _ g4, g5⟩
 | loop r =>
  obtain ⟨fn, tmps, d, g1, g2, g3⟩ := hbr
  exact ⟨fn, tmps, d, g1, g2, fun t => by show VR C ρ _ w (acT (aa1 _ _ r.slots) t) _; rw [amP]; exact hv _ _ (g3 t)⟩
 | dic k l => obtain ⟨es, n, g1, g2⟩ := hbr; exact ⟨es, n, g1, g2.map hv⟩
 | dicv k t l => obtain ⟨es, n, g1, g2⟩ := hbr; exact ⟨es, n, g1, g2.impD fun x => hv (.d t x)⟩
 | any => exact hbr
section
variable {C : Ctx} {P : Program} {G : World → Prop} {Γ : Cons} {ops : Array Oper}
theorem aAP {ρ : Nat → Nat} {H : Heap} {next : Nat} {w : World} (hm : MRel C ρ H next w) {arg : Operand → AV} {val : Operand → Value} {o : Oper} {r : AV} (h : (evU P H arg o).Leaf r)
  (hv : ∀ x, VR C ρ H w (arg x) (val x)) : ∃ v, (execOp val o).run P w = .ok (.value v) w ∧ VR C ρ H w r v := by
 unfold evU at h
 split at h
 ·rename_i t a ho
  obtain ⟨v', h1, h2⟩ := ajN (fun _ h => h) hm h (hv a)
  exact ⟨v', by simp [execOp, ho, h1], h2⟩
 ·exact aAQ (fun _ h => h) hm h hv
theorem aA6 {o : Oper} {t : Nat} : ∀ {l : List Oper} {k : Nat}, aQv o t l k = true → ∀ {j : Nat} {p : Oper}, l[j]? = some p → p.dst = some t → adG o (k + j) = true
 | [], _, _, j, p, hp, _ => by simp at hp
 | q :: r, k, h, j, p, hp, hd => by
  simp only [aQv, zl] at h
  cases j with
  | zero =>
   simp at hp; subst hp
   have h1 := h.1
   rw [hd] at h1
   simp only [show Nat.beq t t = true from Nat.beq_refl t] at h1
   simpa using h1
  | succ j =>
   have := aA6 h.2 (j := j) (by simpa using hp) hd
   rwa [show k + 1 + j = k + (j + 1) by omega] at this
theorem aA7 {pre : List Oper} : ∀ {l : List Oper} {k : Nat}, aO4 pre l k = true → ∀ {i : Nat} {o : Oper}, l[i]? = some o →
  o.guard = none ∧ (∀ t ∈ ai7 o.op.operands.toList, aQv o t pre 0 = true) ∧ (∀ d, o.dst = some d → atA (k + i) d pre 0 = true) ∧ aiE o = true
 | [], _, _, i, o, ho => by simp at ho
 | q :: r, k, h, i, o, ho => by
  simp only [aO4, zl, yq] at h
  cases i with
  | zero =>
   simp at ho; subst ho
   obtain ⟨h1, h2, h3, h4, _⟩ := h
   refine ⟨?_, h2, fun d hd => ?_, h4⟩
   ·cases hg : q.guard with
    | none => rfl
    | some x => rw [hg] at h1; cases h1
   ·rw [hd] at h3; exact h3
  | succ i =>
   obtain ⟨h1, h2, h3, h4⟩ := aA7 h.2.2.2.2 (i := i) (o := o) (by simpa using ho)
   refine ⟨h1, h2, fun d hd => ?_, h4⟩
   have := h3 d hd
   rwa [show k + 1 + i = k + (i + 1) by omega] at this
theorem amY {m i : Nat} : ∀ {l : List Nat} {k : Nat}, agW m i l k = true → ∃ j x, l[j]? = some x ∧ m.testBit (k + j) = true ∧ x.testBit i = true
 | [], _, h => by cases h
 | x :: r, k, h => by
  simp only [agW, xc, zl] at h
  rcases h with h | h
  ·exact ⟨0, x, rfl, h.1, h.2⟩
  ·obtain ⟨j, y, h1, h2, h3⟩ := amY h
   exact ⟨j + 1, y, by simpa using h1, by rwa [show k + (j + 1) = k + 1 + j by omega], h3⟩
theorem axC {σ : St} {o : Oper} {K : Prop} (h : obU P σ o K) : (∃ d r, o.dst = some d ∧ (evU P σ.H σ.eval o).Leaf r ∧ (acT σ.slots d = .no ∨ r = acT σ.slots d)) ∧ K := by
 unfold obU at h
 split at h
 ·exact h.elim
 ·rename_i d hd
  obtain ⟨r, h1, h2⟩ := T.leaf h
  split at h2
  ·rename_i hl; exact ⟨⟨d, r, hd, h1, Or.inl hl⟩, h2⟩
  ·exact ⟨⟨d, r, hd, h1, Or.inr (ay6 h2).1⟩, (ay6 h2).2⟩
theorem afX {ms : List Nat} {u m : Nat} {σ : St} {K : Prop} : ∀ {l : List Oper} {k : Nat}, aeE P ms u m σ K l k → K
 | [], _, h => h
 | o :: r, k, h => by
  simp only [aeE] at h
  split at h
  ·exact afX (axC h).2
  ·exact afX h
theorem akA {ms : List Nat} {u m : Nat} {σ : St} {K : Prop} : ∀ {l : List Oper} {k : Nat}, aeE P ms u m σ K l k → ∀ {i : Nat} {o : Oper}, l[i]? = some o → u.testBit (k + i) = true → agW m (k + i) ms 0 = false →
  ∃ d r, o.dst = some d ∧ (evU P σ.H σ.eval o).Leaf r ∧ (acT σ.slots d = .no ∨ r = acT σ.slots d)
 | [], _, _, i, o, ho, _, _ => by simp at ho
 | q :: r, k, h, i, o, ho, hu, hb => by
  simp only [aeE] at h
  cases i with
  | zero =>
   simp at ho; subst ho
   rw [wB] at hu hb
   rw [hu, hb] at h
   exact (axC h).1
  | succ i =>
   have e : k + (i + 1) = k + 1 + i := zb
   rw [e] at hu hb
   split at h
   ·exact akA (axC h).2 (by simpa using ho) hu hb
   ·exact akA h (by simpa using ho) hu hb
theorem aAW {v : Nat} : ∀ {l : List Oper} {k i : Nat} {o : Oper}, l[i]? = some o → v.testBit (k + i) = false → aLU o v = true → (k + i, o) ∈ asU v l k
 | [], _, i, o, ho, _, _ => by simp at ho
 | q :: r, k, i, o, ho, hv, he => by
  simp only [asU]
  cases i with
  | zero =>
   simp at ho; subst ho
   rw [wB] at hv ⊢
   rw [hv, he]
   exact zG
  | succ i =>
   have e : k + (i + 1) = k + 1 + i := zb
   rw [e] at hv ⊢
   have := aAW (k := k + 1) (by simpa using ho) hv he
   split
   ·exact zu _ this
   ·exact this
theorem as4 {v : Nat} : ∀ {l : List Oper} {k : Nat}, (∀ i, i < l.length → v.testBit (k + i) = true) → apI v l k = 0
 | [], _, _ => rfl
 | q :: r, k, h => by
  simp only [apI]
  rw [show v.testBit k = true by have := h 0 zf; rwa [wB] at this]
  exact as4 fun i hi => by have := h (i + 1) zg; rwa [show k + 1 + i = k + (i + 1) by omega]
theorem apK {m i j : Nat} : (m ||| 2 ^ i).testBit j = (m.testBit j || decide (i = j)) := by
 rw [xg, Nat.testBit_two_pow]
theorem aJj {v n : Nat} : ∀ {l : List Oper} {k : Nat}, (∀ i, i < l.length → k + i ≠ n) → apI (v ||| 2 ^ n) l k = apI v l k
 | [], _, _ => rfl
 | q :: r, k, h => by
  have hk : n ≠ k := fun e => h 0 zf zb
  have ih := aJj (v := v) (n := n) (l := r) (k := k + 1) fun i hi => by have := h (i + 1) zg; omega
  simp only [apI, apK, zk hk, Bool.or_false, ih]
theorem aEc {v n : Nat} : ∀ {l : List Oper} {k i : Nat}, i < l.length → n = k + i → v.testBit n = false → apI v l k = apI (v ||| 2 ^ n) l k + 1
 | q :: r, k, 0, _, hn, hv => by
  rw [wB] at hn
  subst hn
  have := aJj (v := v) (n := n) (l := r) (k := n + 1) fun i _ => by omega
  simp only [apI, apK, hv, decide_true, Bool.or_true, this]
 | q :: r, k, i + 1, hi, hn, hv => by
  have ih := aEc (l := r) (k := k + 1) (i := i) (by simpa using hi) zb hv
  have hk : n ≠ k := zb
  simp only [apI, apK, zk hk, Bool.or_false]
  split
  ·exact ih
  ·omega
theorem aA5 {v v' : Nat} (h : ∀ i, v.testBit i = true → v'.testBit i = true) : ∀ {l : List Oper} {k : Nat}, apI v' l k ≤ apI v l k
 | [], _ => zj _
 | q :: r, k => by
  have ih := aA5 h (l := r) (k := k + 1)
  simp only [apI]
  cases h1 : v.testBit k with
  | true => rw [h k h1]; exact ih
  | false =>
   cases v'.testBit k with
   | true => exact Nat.le_succ_of_le ih
   | false => exact Nat.succ_le_succ ih
theorem anH {m : Nat} : ∀ {l : List Oper} {k u : Nat}, (∀ j, u.testBit j = true → (ak7 m l k u).testBit j = true) ∧ ∀ j, (ak7 m l k u).testBit j = true → u.testBit j = true ∨ m.testBit j = false
 | [], _, _ => ⟨fun _ h => h, fun _ h => Or.inl h⟩
 | o :: r, k, u => by
  simp only [ak7]
  split
  ·rename_i hc
   rw [zl] at hc
   obtain ⟨h1, h2⟩ := anH (m := m) (l := r) (k := k + 1) (u := u ||| 2 ^ k)
   refine ⟨fun j hj => h1 j (by rw [apK, hj]; rfl), fun j hj => ?_⟩
   rcases h2 j hj with h | h
   ·rw [apK, xc, zz] at h
    rcases h with h | rfl
    ·exact Or.inl h
    ·have h3 := hc.1
     rw [xg] at h3
     simp only [zK, wM] at h3
     exact Or.inr h3.2
   ·exact Or.inr h
  ·exact anH
theorem aD5 {P : Program} {Γ : Cons} {call : abN} {b : Nat} {pre : List Oper} {ms : List Nat} {tl : St → Prop} {k u m : Nat} {c : Bool} {σ : St} (hc : apI (u ||| m) pre 0 = 0) (h : aAO P Γ call b pre ms tl k c u m σ) : tl σ := by
 cases k with
 | zero => have h := afX (show aeE P ms u m σ _ pre 0 from h); rw [hc] at h; exact h
 | succ k => have h := afX (show aeE P ms u m σ _ pre 0 from h); rw [hc] at h; exact h
structure Agree (L : Nat → Prop) (a b : Act) : Prop where
 tmps : ∀ t, ¬ L t → a.tmps.getD t undef = b.tmps.getD t undef
 size : a.tmps.size = b.tmps.size
 defers : a.defers = b.defers
theorem Agree.put {L : Nat → Prop} {a b : Act} (h : Agree L a b) (dst : Option Nat) (v : Value) : Agree L (a.put dst v) (b.put dst v) := by
 refine ⟨fun t ht => ?_, by rw [ah5, ah5]; exact h.size, by rw [adR, adR]; exact h.defers⟩
 rw [aiJ, aiJ, h.size, h.tmps t ht]
theorem Agree.eval {L : Nat → Prop} {a b : Act} (h : Agree L a b) {x : Operand} (hx : ∀ t, x = .tmp t → ¬ L t) : a.eval x = b.eval x := by
 cases x with
 | tmp t => exact h.tmps t (hx t rfl)
 | _ => rfl
theorem SRel.agree {ρ : Nat → Nat} {σ : St} {a b : Act} {w : World} (hs : SRel C ρ σ b w) (h : Agree (fun _ => False) a b) : SRel C ρ σ a w :=
 ⟨hs.m, fun t => by rw [h.tmps t (fun h => h)]; exact hs.slots t, by rw [h.size]; exact hs.size, by rw [h.defers]; exact hs.defers⟩
theorem aEn {L : Nat → Prop} {a b : Act} {w : World} {o : Oper} {r : Option Nat} {Ka Kb : Act → World → Prop} {Q : Exit → Act → World → Prop} (hsel : aiE o = true) (ha : Agree L a b) (he : ∀ x ∈ o.op.operands, a.eval x = b.eval x)
  (hK : ∀ a' b' w', Agree L a' b' → Kb b' w' → Ka a' w') (h : o.wpIn (aaW r) 0 P b w Kb (fun _ _ _ => False)) : o.wpIn (aaW r) 0 P a w Ka Q := by
 have h1 : ∀ cs d, o.op ≠ .select cs d := fun cs d e => by simp [aiE, e] at hsel
 have h2 : ∀ c, o.op ≠ .defer c := fun c e => by simp [aiE, e] at hsel
 unfold Oper.wpIn at h ⊢
 refine ⟨fun _ _ => trivial, ?_⟩
 have h := h.2
 rw [Oper.semAt_eq _ _ _ h2] at h ⊢
 rw [execOp_congr o h1 he]
 generalize (execOp b.eval o).run P w = res at h
 cases res with
 | ok x w' =>
  cases x <;> simp only [Oper.uponIn] at h ⊢
  case value u => exact hK _ _ _ (ha.put _ _) h
  case skip => exact hK _ _ _ (ha.put _ _) h
  case defer d => exact hK _ _ _ (Agree.put (a := { a with defers := d :: a.defers }) (b := { b with defers := d :: b.defers }) ⟨ha.tmps, ha.size, congrArg (d :: ·) ha.defers⟩ _ _) h
  case enter f args =>
   refine ⟨h.1, CallsIn.mono h.2 fun e w'' he => ?_⟩
   cases e with
   | returned u => exact hK _ _ _ (ha.put _ _) he
   | panicked c => exact he.elim
   | outgrown => obtain ⟨_, _, he⟩ := he; exact he.elim
  case row row args => exact ⟨h.1, RowsIn.mono h.2 fun u w'' he => hK _ _ _ (ha.put _ _) he⟩
  case round l f tmps assign body =>
   refine ⟨h.1, RoundIn.mono h.2 fun e w'' he => ?_⟩
   cases e with
   | returned u => exact hK _ _ _ (ha.put _ _) he
   | panicked c => exact he.elim
   | outgrown => obtain ⟨_, _, he⟩ := he; exact he.elim
 | halt x w' =>
  cases x <;> simp only [Oper.uponIn] at h
theorem aj3 {u : Nat} {Kf : St → Prop} {w : World} : ∀ (l : List Oper) (k : Nat) {ρ : Nat → Nat} {σ : St} {b : Act}, SRel C ρ σ b w → aKq P u Kf l k σ →
  ∃ σ' b', Kf σ' ∧ SRel C ρ σ' b' w ∧ Agree (fun t => ∃ j o, l[j]? = some o ∧ u.testBit (k + j) = true ∧ o.dst = some t) b b' ∧ σ'.H = σ.H ∧ σ'.next = σ.next
 | [], k, ρ, σ, b, hs, h => ⟨σ, b, h, hs, ⟨fun _ _ => rfl, rfl, rfl⟩, rfl, rfl⟩
 | o :: r, k, ρ, σ, b, hs, h => by
  simp only [aKq] at h
  have up : ∀ {t : Nat}, ¬ (∃ j o', (o :: r)[j]? = some o' ∧ u.testBit (k + j) = true ∧ o'.dst = some t) → ¬ ∃ j o', r[j]? = some o' ∧ u.testBit (k + 1 + j) = true ∧ o'.dst = some t := by
   rintro t hn ⟨j, o', h1, h2, h3⟩
   exact hn ⟨j + 1, o', by simpa using h1, by rwa [show k + (j + 1) = k + 1 + j by omega], h3⟩
  split at h
  ·rename_i hb
   obtain ⟨x, hx, h⟩ := T.leaf h
   obtain ⟨v, _, hv⟩ := aAP hs.m hx (fun y => hs.eval y)
   obtain ⟨σ', b', h1, h2, h3, h4, h5⟩ := aj3 r (k + 1) (hs.put (dst := o.dst) hv) h
   refine ⟨σ', b', h1, h2, ⟨fun t ht => ?_, by rw [← h3.size, ah5], by rw [← h3.defers, adR]⟩, by rw [h4, St.put_H], by rw [h5, St.put_next]⟩
   rw [← h3.tmps t (up ht), aiJ, if_neg]
   rintro ⟨hd, _⟩
   exact ht ⟨0, o, rfl, hb, hd⟩
  ·obtain ⟨σ', b', h1, h2, h3, h4, h5⟩ := aj3 r (k + 1) hs h
   exact ⟨σ', b', h1, h2, ⟨fun t ht => h3.tmps t (up ht), h3.size, h3.defers⟩, h4, h5⟩
theorem aqX {listed : Array Bool} {i j : Nat} (hi : i < listed.size) : (listed.setIfInBounds i true).getD j false = if j = i then true else listed.getD j false := by
 rw [zo, zo]
 by_cases h : j = i
 ·subst h
  rw [if_pos rfl, yY hi]
  rfl
 ·rw [if_neg h, yH (Ne.symm h)]
def aSi (l : List Oper) (m u : Nat) (listed : Array Bool) (t : Nat) : Prop := ∃ i o, i < m ∧ l[i]? = some o ∧ u.testBit i = true ∧ listed.getD i false = false ∧ o.dst = some t
theorem aIq (hG : acS G) (hC : G C.w0) (hΓ : Γ.ok P G) {call : abN} (hcall : CallSat P G call) {Q : Exit → Act → World → Prop} {K : Fi → Prop} {l : List Oper} {m : Nat} (hops : ops.toList = l)
  (hed : acP l 0 = true) (htail : ag4 m (abI l []) 0 = true) (hml : m ≤ l.length) (hchk : aO4 (l.take m) (l.take m) 0 = true) {σ0 : St} {ρ0 : Nat → Nat} {w0 : World}
  (hQ : ∀ a' w', Reach C σ0 ρ0 w0 (fun σ' => K (.go σ')) a' w' → Q .normal a' w') (hP : ∀ ch a' w', Reach C σ0 ρ0 w0 (fun σ' => K (.pan ch σ')) a' w' → Q (.panic ch) a' w') (rnd : Option Nat) :
  ∀ (fuel : Nat) (listed : Array Bool) (k : Nat) (cb : Bool) (u dn : Nat) {ρ : Nat → Nat} {σ : St} {a b : Act} {w : World}, listed.size = ops.size → (∀ j, m ≤ j → listed.getD j false = false) → awG l (fun i => listed.getD i false) →
   (∀ i, i < m → u.testBit i = false → listed.getD i false = dn.testBit i) → (∀ j, dn.testBit j = true → j < m ∧ listed.getD j false = true) → apI (u ||| dn) (l.take m) 0 ≤ k →
   aAO P Γ call σ0.next (l.take m) (abI l []) (fun σ'' => aa3 P Γ call ops (l.drop m) σ'' K) k cb u dn σ → SRel C ρ σ b w → Agree (aSi l m u listed) a b → Fr C σ0.next ρ0 σ0.H w0 ρ σ.H w → σ0.next ≤ σ.next →
   ops.size ≤ ayY (fun i => listed.getD i false) ops.size + fuel → wpAnyIn (aaW rnd) 0 P .any ops Q fuel listed a w := by
 have hlen : l.length = ops.size := by rw [← hops]; simp
 intro fuel
 induction fuel with
 | zero =>
  intro listed k cb u dn ρ σ a b w hsz htl hcl hN hdn hk ex hs hag hF hnx hfu
  have hall : ∀ i, i < m → listed.getD i false = true := by
   intro i hi
   cases hb : listed.getD i false with
   | true => rfl
   | false => have := ax9 (ls := fun i => listed.getD i false) hb (show i < ops.size by omega); omega
  have hk0 : apI (u ||| dn) (l.take m) 0 = 0 := by
   refine as4 fun i hi => ?_
   have him : i < m := by simp at hi; omega
   rw [zp, xg]
   cases hu : u.testBit i with
   | true => rfl
   | false => rw [← hN i him hu, hall i him]; rfl
  have hc := aeI (ls := fun i => listed.getD i false) hall htl (n := ops.size)
  exact apY hG hC hΓ hcall hops hed htail (l.drop m) m 0 listed rfl (zj _) (by rw [yf]; omega) hsz
   (fun i _ => by
    by_cases him : i < m
    ·rw [hall i him, zm him]
    ·rw [htl i zb, zk him])
   (hs.agree ⟨fun t _ => hag.tmps t (by rintro ⟨i, o, h1, _, _, h2, _⟩; rw [hall i h1] at h2; cases h2), hag.size, hag.defers⟩) (aD5 hk0 ex) (fun a' w' hr => hQ a' w' (hr.trans hF hnx)) (fun ch a' w' hr => hP ch a' w' (hr.trans hF hnx)) rnd
 | succ fuel ih =>
  intro listed k cb u dn ρ σ a b w hsz htl hcl hN hdn hk ex hs hag hF hnx hfu
  by_cases hall : ∀ i, i < m → listed.getD i false = true
  ·have hk0 : apI (u ||| dn) (l.take m) 0 = 0 := by
    refine as4 fun i hi => ?_
    have him : i < m := by simp at hi; omega
    rw [zp, xg]
    cases hu : u.testBit i with
    | true => rfl
    | false => rw [← hN i him hu, hall i him]; rfl
   have hc := aeI (ls := fun i => listed.getD i false) hall htl (n := ops.size)
   exact apY hG hC hΓ hcall hops hed htail (l.drop m) m (fuel + 1) listed rfl (zj _) (by rw [yf]; omega) hsz
    (fun i _ => by
     by_cases him : i < m
     ·rw [hall i him, zm him]
     ·rw [htl i zb, zk him])
    (hs.agree ⟨fun t _ => hag.tmps t (by rintro ⟨i, o, h1, _, _, h2, _⟩; rw [hall i h1] at h2; cases h2), hag.size, hag.defers⟩) (aD5 hk0 ex) (fun a' w' hr => hQ a' w' (hr.trans hF hnx)) (fun ch a' w' hr => hP ch a' w' (hr.trans hF hnx)) rnd
  ·obtain ⟨i0, hi0, hl0, hbef⟩ := amQ (ls := fun i => listed.getD i false) (m := m) (by
    apply Classical.byContradiction
    intro hn
    refine hall fun i hi => ?_
    cases hb : listed.getD i false with
    | true => rfl
    | false => exact absurd ⟨i, hi, hb⟩ hn)
   have gd : ∀ {i : Nat}, i < ops.size → listed.getD i true = listed.getD i false := by
    intro i hi
    rw [zo, zo, zW zb]
    rfl
   refine ⟨fun hnil => ?_, fun i hi => ?_⟩
   ·exfalso
    obtain ⟨o0, ho0⟩ : ∃ o, ops[i0]? = some o := ⟨_, zW (show i0 < ops.size by omega)⟩
    have h1 : l[i0]? = some o0 := by rw [← hops, zU]; exact ho0
    have : i0 ∈ Region.ready .any ops listed := mem_ready.2 ⟨by rw [gd zb]; exact hl0, o0, ho0, fun e he hb => by
     have h2 := abL hed h1 e he hb
     rw [zp] at h2
     exact hbef _ h2⟩
    rw [hnil] at this
    cases this
   ·obtain ⟨h0, o, ho, hpred⟩ := mem_ready.1 hi
    have hil : l[i]? = some o := by rw [← hops, zU]; exact ho
    have hio : i < ops.size := (yX.1 ho).1
    have hls : listed.getD i false = false := by rw [← gd hio]; exact h0
    have him : i < m := by
     apply Classical.byContradiction
     intro hge
     obtain ⟨x, hx⟩ : ∃ x, (abI l [])[i]? = some x := ⟨_, zx (by rw [(adU l []).2]; simp; omega)⟩
     have hxe := agV htail hx zb
     rw [zp] at hxe
     have := aiS hcl hed i o hil hpred x i0 hx (by rw [hxe, xZ]; simp; omega)
     have hl0' : listed.getD i0 false = false := hl0
     rw [show listed.getD i0 false = true from this] at hl0'
     cases hl0'
    have hpo : (l.take m)[i]? = some o := by rw [zR, if_pos him]; exact hil
    obtain ⟨hg, hrd, hdst, hsel⟩ := aA7 hchk hpo
    rw [zp] at hdst
    have h1sel : ∀ cs d, o.op ≠ .select cs d := fun cs d e => by simp [aiE, e] at hsel
    have h2def : ∀ c, o.op ≠ .defer c := fun c e => by simp [aiE, e] at hsel
    have opr : ∀ x ∈ o.op.operands, a.eval x = b.eval x := by
     intro x hx
     refine hag.eval fun t ht hlate => ?_
     subst ht
     obtain ⟨j, p, hjm, hp, _, hjl, hpd⟩ := hlate
     have := aA6 (hrd t (aj9 (by simpa using hx))) (j := j) (p := p) (by rw [zR, if_pos hjm]; exact hp) hpd
     rw [zp] at this
     obtain ⟨e, he1, he2, he3⟩ := adW this
     have h3 := hpred e he1 he2
     rw [he3, hjl] at h3
     cases h3
    have hsz' : (listed.setIfInBounds i true).size = ops.size := by simpa using hsz
    have hil' : i < listed.size := zb
    have htl' : ∀ j, m ≤ j → (listed.setIfInBounds i true).getD j false = false := by
     intro j hj
     rw [aqX hil', if_neg zb]
     exact htl j hj
    have hcl' : awG l (fun j => (listed.setIfInBounds i true).getD j false) := by
     intro j p hp hj e he hb
     have hj' : (listed.setIfInBounds i true).getD j false = true := hj
     show (listed.setIfInBounds i true).getD e.on false = true
     rw [aqX hil'] at hj' ⊢
     by_cases hji : j = i
     ·subst hji
      rw [hil] at hp; injection hp with hp; subst hp
      rw [show listed.getD e.on false = true from hpred e he hb]
      split <;> rfl
     ·rw [if_neg hji] at hj'
      rw [show listed.getD e.on false = true from hcl j p hp hj' e he hb]
      split <;> rfl
    have hfu' : ops.size ≤ ayY (fun j => (listed.setIfInBounds i true).getD j false) ops.size + fuel := by
     have e : (fun j => (listed.setIfInBounds i true).getD j false) = am3 (fun j => listed.getD j false) i := by
      funext j
      rw [aqX hil']
      unfold am3
      rfl
     rw [e, aqB hls hio]
     omega
    unfold wpOpIn
    rw [ho]
    simp only
    rw [if_pos (by simp [Region.wanted, hg])]
    cases hu : u.testBit i with
    | true =>
     have hnb : agW dn i (abI l []) 0 = false := by
      cases hb : agW dn i (abI l []) 0 with
      | false => rfl
      | true =>
       obtain ⟨j, x, h1, h2, h3⟩ := amY hb
       rw [zp] at h2
       obtain ⟨hjm, hjl⟩ := hdn j h2
       obtain ⟨p, hp⟩ : ∃ p, ops[j]? = some p := ⟨_, zW (show j < ops.size by omega)⟩
       have hjo : l[j]? = some p := by rw [← hops, zU]; exact hp
       have := aiS hcl hed j _ hjo (fun e he hb => hcl j _ hjo hjl e he hb) x i h1 h3
       have h4 : listed.getD i false = true := this
       rw [hls] at h4; cases h4
     obtain ⟨d, r, hd, hleaf, hor⟩ : ∃ d r, o.dst = some d ∧ (evU P σ.H σ.eval o).Leaf r ∧ (acT σ.slots d = .no ∨ r = acT σ.slots d) := by
      cases k with
      | zero => exact akA ex hpo (by rw [zp]; exact hu) (by rw [zp]; exact hnb)
      | succ k => exact akA ex hpo (by rw [zp]; exact hu) (by rw [zp]; exact hnb)
     obtain ⟨v, hrun, hv⟩ := aAP hs.m hleaf (fun x => hs.eval x)
     refine ⟨fun _ _ => trivial, ?_⟩
     rw [Oper.semAt_eq _ _ _ h2def, execOp_congr o h1sel opr, hrun]
     show wpAnyIn _ _ _ _ _ _ _ _ (a.put o.dst v) w
     have hvl : VR C ρ σ.H w (acT σ.slots d) v := by
      rcases hor with h | h
      ·rw [h]; exact .no
      ·rw [← h]; exact hv
     refine ih (listed.setIfInBounds i true) k cb u dn (ρ := ρ) (σ := σ) (b := b.put o.dst v) hsz' htl' hcl' (fun j hj huj => ?_) (fun j hj => ?_) hk ex ?_ ?_ hF hnx hfu'
     ·rw [aqX hil', if_neg (by rintro rfl; rw [hu] at huj; cases huj)]
      exact hN j hj huj
     ·obtain ⟨g1, g2⟩ := hdn j hj
      refine ⟨g1, ?_⟩
      rw [aqX hil', g2]
      split <;> rfl
     ·refine ⟨hs.m, fun t => ?_, by rw [ah5]; exact hs.size, by rw [adR]; exact hs.defers⟩
      rw [aiJ]
      split
      ·rename_i hdt
       have : d = t := by have := hdt.1; rw [hd] at this; injection this
       subst this
       exact hvl
      ·exact hs.slots t
     ·refine ⟨fun t ht => ?_, by rw [ah5, ah5]; exact hag.size, by rw [adR, adR]; exact hag.defers⟩
      rw [aiJ, aiJ, hag.size]
      split
      ·rfl
      ·rename_i hnt
       by_cases htd : o.dst = some t
       ·have hge : ¬ t < b.tmps.size := fun h => hnt ⟨htd, h⟩
        rw [zo, zo, yZ (by rw [hag.size]; omega), yZ zb]
       ·refine hag.tmps t ?_
        rintro ⟨j, p, g1, g2, g3, g4, g5⟩
        refine ht ⟨j, p, g1, g2, g3, ?_, g5⟩
        rw [aqX hil', if_neg (by rintro rfl; rw [hil] at g2; injection g2 with g2; subst g2; exact htd g5)]
        exact g4
    | false =>
     have hdi : dn.testBit i = false := by rw [← hN i him hu]; exact hls
     have hv : (u ||| dn).testBit i = false := by rw [xg, hu, hdi]; rfl
     have hcnt := aEc (v := u ||| dn) (n := i) (l := l.take m) (k := 0) (i := i) zg zb hv
     obtain ⟨k', rfl⟩ : ∃ k', k = k' + 1 := ⟨k - 1, by omega⟩
     have hen : aLU o (u ||| dn) = true := by
      unfold aLU
      rw [yq]
      intro e he
      cases hb : acA e with
      | false => rfl
      | true =>
       have he' : e ∈ o.after := by simpa using he
       have h3 := hpred e he' hb
       have h4 := abL hed hil e he' hb
       rw [zp] at h4
       rw [xg]
       cases hue : u.testBit e.on with
       | true => rfl
       | false => rw [← hN _ zb hue, h3]; rfl
     have ex' := afX (show aeE P (abI l []) u dn σ _ (l.take m) 0 from ex)
     rw [hcnt] at ex'
     have hf := aEj (show aQD _ _ from ex') _ (aAW (k := 0) hpo (by rw [zp]; exact hv) hen)
     rw [zp] at hf
     simp only [ahF] at hf
     have hw := ajI hG hC hΓ hcall hs hf (nx := fun b' w' => Reach C σ ρ w (fun σ' => aKq P (ak7 (dn ||| 2 ^ i) (l.take m) 0 u ^^^ u) (fun σ1 => aAO P Γ call σ0.next (l.take m) (abI l []) (fun σ'' => aa3 P Γ call ops (l.drop m) σ'' K) k' (cb || aIc (asU (u ||| dn) (l.take m) 0)) (ak7 (dn ||| 2 ^ i) (l.take m) 0 u) (dn ||| 2 ^ i) σ1) (l.take m) 0 (aRK (cb || aIc (asU (u ||| dn) (l.take m) 0)) σ0.next (l.take m).length i k' σ σ')) b' w') (Q := fun _ _ _ => False)
      (fun a' w' hr => hr) (fun ch a' w' ⟨_, _, hr, _⟩ => hr.elim) rnd
     refine aEn hsel hag opr ?_ hw
     rintro a' b' w' hab ⟨ρ', σ', g1, g2, g3, g4⟩
     obtain ⟨ρ'', p2, p3, p4⟩ := aFH (cb || aIc (asU (u ||| dn) (l.take m) 0)) σ0.next (l.take m).length i k' σ σ' C ρ' b' w' g2
     obtain ⟨σ1, b1, e1, e2, e3, e4, e5⟩ := aj3 _ 0 p2 g1
     obtain ⟨gu1, gu2⟩ := anH (m := dn ||| 2 ^ i) (l := l.take m) (k := 0) (u := u)
     have hfr := (hF.trans hnx g3).trans (zj _) p3
     have hnw : ∀ j, j < m → (ak7 (dn ||| 2 ^ i) (l.take m) 0 u ^^^ u).testBit j = true → (ak7 (dn ||| 2 ^ i) (l.take m) 0 u).testBit j = true ∧ (listed.setIfInBounds i true).getD j false = false := by
      intro j hj hb
      rw [Nat.testBit_xor] at hb
      have hb2 : (ak7 (dn ||| 2 ^ i) (l.take m) 0 u).testBit j = true ∧ u.testBit j = false := by
       cases h1 : u.testBit j with
       | true => rw [h1, gu1 j h1] at hb; cases hb
       | false => rw [h1] at hb; simpa using hb
      refine ⟨hb2.1, ?_⟩
      rcases gu2 j hb2.1 with h | h
      ·rw [hb2.2] at h; cases h
      ·rw [apK, wM] at h
       rw [aqX hil', if_neg (by rintro rfl; simp at h), hN j hj hb2.2]
       exact h.1
     refine ih (listed.setIfInBounds i true) k' _ _ (dn ||| 2 ^ i) (ρ := ρ'') (σ := σ1) (b := b1) hsz' htl' hcl' (fun j hj huj => ?_) (fun j hj => ?_) ?_ e1 e2 ⟨fun t ht => (hab.tmps t ?_).trans (e3.tmps t ?_), hab.size.trans e3.size, hab.defers.trans e3.defers⟩ (by rw [e4]; exact hfr) (by rw [e5]; exact zt (zt hnx g4) p4) hfu'
     ·have huj' : u.testBit j = false := by
       cases h1 : u.testBit j with
       | false => rfl
       | true => rw [gu1 j h1] at huj; cases huj
      rw [aqX hil', apK]
      by_cases hji : j = i
      ·subst hji; simp
      ·rw [if_neg hji, hN j hj huj', zk (fun e => hji e.symm), Bool.or_false]
     ·rw [apK, xc, zz] at hj
      rcases hj with hj | hj
      ·obtain ⟨q1, q2⟩ := hdn j hj
       refine ⟨q1, ?_⟩
       rw [aqX hil', q2]
       split <;> rfl
      ·subst hj
       exact ⟨him, by rw [aqX hil', if_pos rfl]⟩
     ·have h1 : apI (ak7 (dn ||| 2 ^ i) (l.take m) 0 u ||| (dn ||| 2 ^ i)) (l.take m) 0 ≤ apI (u ||| dn ||| 2 ^ i) (l.take m) 0 := by
       refine aA5 fun j hj => ?_
       rw [Nat.or_assoc, xg, xc] at hj
       rw [xg, xc]
       rcases hj with h | h
       ·exact Or.inl (gu1 j h)
       ·exact Or.inr h
      omega
     ·rintro ⟨j, p, q1, q2, q3, q4, q5⟩
      refine ht ⟨j, p, q1, q2, gu1 j q3, ?_, q5⟩
      rw [aqX hil', if_neg (by rintro rfl; rw [hu] at q3; cases q3)]
      exact q4
     ·rintro ⟨j, p, q1, q2, q3⟩
      rw [zp] at q2
      have hjm : j < m := by
       have := (zw.1 q1).1
       rw [zY] at this
       omega
      obtain ⟨n1, n2⟩ := hnw j hjm q2
      rw [zR, if_pos hjm] at q1
      exact ht ⟨j, p, hjm, q1, n1, n2, q3⟩
theorem asN (hG : acS G) (hC : G C.w0) (hΓ : Γ.ok P G) {call : abN} (hcall : CallSat P G call) {Q : Exit → Act → World → Prop} {K : Fi → Prop} {ρ : Nat → Nat} {σ : St} {a : Act} {w : World}
  (hs : SRel C ρ σ a w) (h : aFz P Γ call ops σ K) (hQ : ∀ a' w', Reach C σ ρ w (fun σ' => K (.go σ')) a' w' → Q .normal a' w') (hP : ∀ ch a' w', Reach C σ ρ w (fun σ' => K (.pan ch σ')) a' w' → Q (.panic ch) a' w') (rnd : Option Nat) :
  wpAnyIn (aaW rnd) 0 P .any ops Q ops.size (Array.replicate ops.size false) a { w with drawn := w.drawn + 1 } := by
 unfold aFz at h
 simp only [ahF] at h
 split at h
 ·rename_i hc
  simp only [zl] at hc
  obtain ⟨⟨⟨hchk, hed⟩, htail⟩, hml⟩ := hc
  have hml := Nat.le_of_ble_eq_true hml
  obtain ⟨hmd, hextd⟩ := hs.m.grow (w' := w.drew) ((Below.refl _ _).drew)
  have hs' : SRel C ρ σ a w.drew := ⟨hmd, fun t => hextd.vr (hs.slots t), hs.size, hs.defers.mono hextd.data hextd.size⟩
  obtain ⟨σ', b, h1, h2, h3, h4, h5⟩ := aj3 _ 0 hs' h
  have hrep : ∀ i, (Array.replicate ops.size false).getD i false = false := by
   intro i
   rw [zo]
   by_cases hi : i < ops.size
   ·rw [xO, if_pos hi]; rfl
   ·rw [xO, if_neg hi]; rfl
  refine aIq hG hC hΓ hcall (l := ops.toList) rfl hed htail hml hchk (σ0 := σ) (ρ0 := ρ) (w0 := w) hQ hP rnd ops.size (Array.replicate ops.size false) _ _ _ 0 zf (fun j _ => hrep j) (fun j o _ hj => by have hj' : (Array.replicate ops.size false).getD j false = true := hj; rw [hrep] at hj'; cases hj') (fun i _ _ => by rw [hrep, Nat.zero_testBit]) (fun j hj => by rw [Nat.zero_testBit] at hj; cases hj) (by rw [Nat.or_zero]; exact zj _) h1 h2
   ⟨fun t ht => h3.tmps t ?_, h3.size, h3.defers⟩ (by rw [h4]; exact hextd.fr (n := σ.next) (fun j _ hj => hj)) (by rw [h5]; exact zj _) zb
  rintro ⟨j, o, g1, g2, g3⟩
  rw [zp] at g2
  have hjm : j < abU (abI ops.toList []) := by
   have := (zw.1 g1).1
   rw [zY] at this
   omega
  rw [zR, if_pos hjm] at g1
  exact ht ⟨j, o, hjm, g1, g2, hrep j, g3⟩
 ·exact h.elim
theorem aGq (hG : acS G) (hmix : P.follows .mixedOrders = true) (hΓ : Γ.ok P G) {call : abN} (hcall : CallSat P G call) {rd : Option Nat} {id : Nat} {σ : St} {Q : Exit → St → Prop}
  (h : aFz P Γ call ops σ (ay9 Q)) : Sat P G rd (.region id ops true) σ Q :=
 fun _ hC _ _ _ hs rnd _ => wpIn_region_any hmix (asN hG hC hΓ hcall hs h (fun _ _ hr => hr) (fun _ _ _ hr => hr) rnd)
end
open Go Go.RowKit
def aRw (P : Program) (op : BinOp) (xt : TypeId) (a b : AV) : Option (Bool × Bool) :=
 match a, b with
 | .d (.sl u) l, .nsl => match P.underlying xt with
  | some (.slice _) => match op with
   | .eql => some (List.isEmpty (α := u.T) l, true)
   | .neq => some (List.isEmpty (α := u.T) l, false)
   | _ => none
  | _ => none
 | _, _ => none
def aqU (P : Program) (H : Heap) (t : TypeId) (k off len : Nat) (lo hi mx : Option AV) : T AV :=
 match P.underlying t with
 | some (.slice e) => match H.find k, aa6 P e with
  | some (.row _ u l), some m => match Nat.beq m u.size && Nat.ble 1 u.size with
   | true => match lo, hi with
    | some lo, some hi => match mx with
     | some mx => (ad1 (some mx) len 0).bind fun c => (ad1 (some hi) c 0).bind fun h => (ad1 (some lo) h 0).bind fun _ => .ok .no
     | none => (ad1 (some hi) (List.length (α := u.T) l - off) (List.length (α := u.T) l - off)).bind fun h => (ad1 (some lo) h 0).bind fun j => .ok (.own k (off + j) (h - j))
    | _, _ => .bad
   | false => .bad
  | _, _ => .bad
 | _ => .bad
def aC1 (P : Program) (σ : St) (dst : Option Nat) (t : TypeId) (x : AV) : T St :=
 match P.underlying t with
 | some (.slice e) => match x with
  | .own k off len => match σ.H.find k with
   | some (.row e' u l) => match P.info? e, ab2 P e with
    | some i, some zs => match pack u zs with
     | some (y, []) => match Nat.beq i.size u.size && Nat.beq zs.length u.size with
      | true => .ok (({ σ with H := σ.H.up k (.row e' u (over l off (List.replicate len y))) } : St).put dst (.tup []))
      | false => .bad
     | _ => .bad
    | _, _ => .bad
   | _ => .bad
  | _ => .bad
 | _ => .bad
def opM (P : Program) (Γ : Cons) (call : abN) (o : Oper) (σ : St) (K : Fi → Prop) : Prop :=
 match o.op with
 | .slice t x lo hi mx => match (σ.eval x).soft with
  | .own k off len => (aqU P σ.H t k off len (lo.map σ.eval) (hi.map σ.eval) (mx.map σ.eval)).holds fun r => K (.go (σ.put o.dst r))
  | _ => opS P Γ call o σ K
 | .binOp op xt x y _ => match aRw P op xt (σ.eval x).soft (σ.eval y).soft with
  | some (b, r) => al1 b (Both (K (.go (σ.put o.dst (.d .bool r)))) (K (.go (σ.put o.dst (.d .bool (!r)))))) (K (.go (σ.put o.dst (.d .bool (!r)))))
  | none => opS P Γ call o σ K
 | .call { callee := .builtin .clear, args, argTypes } => match args.toList, argTypes.toList with
  | [x], [t] => (aC1 P σ o.dst t (σ.eval x).soft).holds fun σ' => K (.go σ')
  | _, _ => False
 | _ => opS P Γ call o σ K
def aLO (P : Program) (Γ : Cons) (call : abN) : List Oper → St → (Fi → Prop) → Prop
 | [], σ, K => K (.go σ)
 | o :: rest, σ, K => match o.guard with
  | none => opM P Γ call o σ (aNU (fun σ' => aLO P Γ call rest σ' K) K)
  | some _ => False
section
variable {C : Ctx} {ρ : Nat → Nat} {H : Heap} {w : World} {P : Program} {G : World → Prop}
theorem aAS {xt e : TypeId} (hu : P.underlying xt = some (.slice e)) (a : Option Addr) (n c : Nat) : (Op.equal xt (.slice a n c) (.slice none 0 0)).run P w = .ok a.isNone w := by
 have h : ∀ d, (Op.equalIn (d + 1) xt (.slice a n c) (.slice none 0 0)).run P w = .ok a.isNone w := fun d => by cases a <;> simp [Op.equalIn, run_underlying hu]
 exact h 9999
theorem aFf {op : BinOp} {xt : TypeId} {a b : AV} {c r : Bool} {vx vy : Value} (ox oy : Operand) (h : aRw P op xt a b = some (c, r)) (hx : VR C ρ H w a vx) (hy : VR C ρ H w b vy) :
  ∃ z : Bool, (eqGuard op xt ox oy vx vy).run P w = .ok () w ∧ (binOp op xt vx vy).run P w = .ok (.bool z) w ∧ (z = r ∨ z = !r) ∧ (c = false → z = !r) := by
 unfold aRw at h
 split at h
 case h_2 => cases h
 rename_i u l
 split at h
 case h_2 => cases h
 rename_i e hu
 obtain ⟨a', cap, e1, h4, h5, h6⟩ := hx.datum.scalar rfl
 injection e1 with e1 _
 subst e1
 cases hy
 have hq := aAS (P := P) (w := w) hu a' (List.length (α := u.T) l) cap
 have hne : List.isEmpty (α := u.T) l = false → a'.isNone = false := by
  intro hl
  have hne : l ≠ [] := fun e => by rw [e] at hl; cases hl
  obtain ⟨b, o, c, e', fr, ha', _⟩ := h6.resolve_left hne
  rw [ha']; rfl
 split at h
 ·injection h with h
  injection h with h1 h2
  subst h1; subst h2
  refine ⟨a'.isNone, by simp [eqGuard], ?_, by cases a'.isNone <;> simp, fun hc => by rw [hne hc]; rfl⟩
  show (do pure (Value.bool (← Op.equal xt _ _)) : Sem Value).run P w = _
  simp [hq]
 ·injection h with h
  injection h with h1 h2
  subst h1; subst h2
  refine ⟨!a'.isNone, by simp [eqGuard], ?_, by cases a'.isNone <;> simp, fun hc => by rw [hne hc]⟩
  show (do pure (Value.bool (!(← Op.equal xt _ _))) : Sem Value).run P w = _
  simp [hq]
 ·cases h
theorem aqT {next : Nat} (hm : MRel C ρ H next w) {t : TypeId} {r : AV} {v : Value} {k off len : Nat} {lo hi mx : Option AV} {vlo vhi vmx : Option Value} (h : (aqU P H t k off len lo hi mx).Leaf r)
  (ha : VR C ρ H w (.own k off len) v) (h1 : OVR C ρ H w hi vhi) (h2 : OVR C ρ H w lo vlo) (h3 : OVR C ρ H w mx vmx) :
  ∃ v', (Instr.sliceAt t v vlo vhi vmx).run P w = .ok v' w ∧ VR C ρ H w r v' := by
 unfold aqU at h
 split at h
 case h_2 => cases h
 rename_i e hu
 split at h
 case h_2 => cases h
 rename_i e2 u l m hf hs
 split at h
 case h_2 => cases h
 rename_i hb
 simp only [zl] at hb
 have hb1 := aaD hb.1
 have hpos := Nat.le_of_ble_eq_true hb.2
 subst hb1
 split at h
 case h_2 => cases h
 rename_i lo hi
 cases vhi with
 | none => exact h1.elim
 | some vhi =>
 cases vlo with
 | none => exact h2.elim
 | some vlo =>
 cases ha with
 | own hk' hl hc hmx hbk hsz ha =>
 rename_i a' cap c fr
 split at h
 ·rename_i mx
  cases vmx with
  | none => exact h3.elim
  | some vmx =>
  obtain ⟨cc, hb0, h⟩ := T.Leaf.bind h
  obtain ⟨hh, hb1, h⟩ := T.Leaf.bind h
  obtain ⟨kk, hb2, h⟩ := T.Leaf.bind h
  cases h
  obtain ⟨hr, hle1, hle2, hle3⟩ := ai1 (P := P) (b := true) (len0 := len) (cap := cap) hc hb0 hb1 hb2 h3 h1 h2
  refine ⟨.slice (if cc = kk then a' else a'.map (fun (x : Addr) => x.add (kk * u.size))) (hh - kk) (cc - kk), ?_, .no⟩
  ·simp only [Instr.sliceAt, Sem.run_bind, run_underlying hu, Result.andThen_ok, Instr.slice, hr, aaO hs, Sem.run_pure]
 ·cases vmx with
  | some _ => exact h3.elim
  | none =>
  obtain ⟨hh, hb1, h⟩ := T.Leaf.bind h
  obtain ⟨j, hb2, h⟩ := T.Leaf.bind h
  cases h
  have hk := Heap.find_mem hf
  have hu' := Heap.mem_unique hm.nodup hk hk'
  injection hu' with hu1 hu2 hu3
  subst hu1; subst hu2
  have hu3 := eq_of_heq hu3
  subst hu3
  obtain ⟨c0, d1, d2, d3, d4, d5⟩ := hm.mem k _ hk
  rw [hbk] at d1
  injection d1 with d1
  injection d1 with d1 d1' d1''
  subst d1; subst d1''
  have hcapl : l.length ≤ off + cap := by
   rw [← hsz] at d2
   exact Nat.le_of_mul_le_mul_right d2 hpos
  have hlc : List.length (α := u.T) l - off ≤ cap := zb
  have hb1' : (ad1 (some hi) (List.length (α := u.T) l - off) (List.length (α := u.T) l - off)).Leaf hh := hb1
  obtain ⟨hr, hle1, hle2⟩ := abV (P := P) (b := true) (len := List.length (α := u.T) l - off) (cap := cap) hlc hb1' hb2 (show OVR C ρ H w (some hi) (some vhi) from h1) (show OVR C ρ H w (some lo) (some vlo) from h2)
  have hr' : (Instr.sliceBounds true len cap (some vlo) (some vhi) none).run P w = .ok (j, hh, cap) w := hr
  refine ⟨.slice (if cap = j then a' else Option.map (fun (x : Addr) => x.add (j * u.size)) a') (hh - j) (cap - j), ?_, ?_⟩
  ·simp only [Instr.sliceAt, Sem.run_bind, run_underlying hu, Result.andThen_ok, Instr.slice, hr', aaO hs, Sem.run_pure]
  ·refine .own hk zb zb zb hbk (by rw [← hsz]; congr 1; omega) ?_
   by_cases hcj : cap = j
   ·simp only [hcj, if_true]
    by_cases hj : j = 0
    ·subst hj
     rcases ha with ha | ⟨_, ha⟩
     ·left; rw [ha]; simp
     ·right; exact ⟨by omega, by omega⟩
    ·right; exact ⟨by omega, by omega⟩
   ·have ha' := ha.resolve_right (fun h => by omega)
    left
    rw [ha', if_neg hcj]
    simp [af5, zX]
theorem ayB {σ σ' : St} {a : Act} {dst : Option Nat} {t ty : TypeId} {x : AV} {vx : Value} (h : (aC1 P σ dst t x).Leaf σ') (hs : SRel C ρ σ a w) (hvx : VR C ρ σ.H w x vx) :
  ∃ v w', (Builtin.clear_ #[t] ty #[vx]).run P w = .ok v w' ∧ SRel C ρ σ' (a.put dst v) w' ∧ Fr C σ.next ρ σ.H w ρ σ'.H w' ∧ σ'.next = σ.next := by
 have hm := hs.m
 unfold aC1 at h
 split at h
 case h_2 => cases h
 rename_i e hu
 split at h
 case h_2 => cases h
 rename_i k off len
 split at h
 case h_2 => cases h
 rename_i e' u l hf
 split at h
 case h_2 => cases h
 rename_i i zs hi hz
 split at h
 case h_2 => cases h
 rename_i y hp
 split at h
 case h_2 => cases h
 rename_i hc
 simp only [zl] at hc
 obtain ⟨hc1, hc2⟩ := hc
 have hc1 := aaD hc1
 have hc2 := aaD hc2
 cases h
 have hk := Heap.find_mem hf
 cases hvx with
 | own hk' hl hcp hmx hb hsz ha =>
 rename_i ad cap c fr
 have hun := Heap.mem_unique hm.nodup hk hk'
 injection hun with hu1 hu2 hu3
 subst hu1; subst hu2
 have hu3 := eq_of_heq hu3
 subst hu3
 obtain ⟨c0, d1, d2, d3, d4, d5⟩ := hm.mem k _ hk
 rw [hb] at d1
 injection d1 with d1
 injection d1 with d1 d1' d1''
 subst d1; subst d1''
 have htup : ∀ {H : Heap} {w : World}, VR C ρ H w (.tup []) (.tuple #[]) := .tup .nil
 by_cases hm0 : len = 0
 ·subst hm0
  have hrun : (Builtin.clear_ #[t] ty #[.slice ad 0 cap]).run P w = .ok (.tuple #[]) w := by
   cases ad <;> simp [Builtin.clear_, run_underlying hu]
  have hov : over l off (List.replicate 0 y) = l := by simp [over]
  have hup : σ.H.up k (.row e' u (over l off (List.replicate 0 y))) = σ.H := by rw [hov]; exact aDh hm.nodup hk
  refine ⟨_, w, hrun, ?_, ?_, by rw [St.put_next]⟩
  ·simp only [hup]
   exact hs.put htup
  ·rw [St.put_H]
   simp only [hup]
   exact Fr.refl _ _ _ _ _
 ·have ha' := ha.resolve_right (fun h => by omega)
  subst ha'
  obtain ⟨z, hz1, hz2, hz3⟩ := aqK hi hz
  obtain ⟨z', hz1', hzr, hz3'⟩ := acN (C := C) (ρ := ρ) (H := σ.H) (w := w) hz
  have hlz : z.cells.toList.length = u.size := zg
  have hzv : (zeroValue e).run P w = .ok z w := by simp [zeroValue, typeInfo, hi, hz1]
  have hzz : RdL (Rd (Ok C ρ σ.H w) w u) (List.replicate len y) (aaX z.cells.toList len) := by
   have : z' = z := by
    rw [hz1'] at hzv
    injection hzv
   subst this
   obtain ⟨c1, c2, e1, hl, h2⟩ := adT _ _ _ _ _ hp hzr
   cases h2
   simp only [yK] at e1
   rw [e1]
   exact RdL.replicate hl len
  have hlf : (aaX z.cells.toList len).length = len * u.size := by rw [adM, hlz]
  have hmulm : (off + len) * u.size ≤ l.length * u.size := zC _ hl
  rw [zX] at hmulm
  have hfit : off * u.size + (aaX z.cells.toList len).length ≤ c.size := by rw [hlf]; omega
  have hone : ∀ v ∈ aaX z.cells.toList len, v.oneCell' = true := by
   intro v hv
   exact ac5 (n := len) hz3 v (by rw [agZ]; exact hv)
  have hst := afO (P := P) (vs := aaX z.cells.toList len) hb (o := off * u.size) hfit hone
  have hrun : (Builtin.clear_ #[t] ty #[.slice (some ⟨ρ k, off * u.size, none⟩) len cap]).run P w = .ok (.tuple #[]) (w.setRow (ρ k) ⟨over c.toList (off * u.size) (aaX z.cells.toList len)⟩) := by
   obtain ⟨n, rfl⟩ : ∃ n, len = n + 1 := ⟨len - 1, by omega⟩
   simp [Builtin.clear_, run_underlying hu, hzv, agZ, hst]
  have hrl : (List.replicate len y).length = len := yF
  have hovl : (over l off (List.replicate len y)).length = l.length := aaV _ _ _ (by rw [hrl]; omega)
  obtain ⟨hm', hext⟩ := hm.write (nb := .row e' u (over l off (List.replicate len y))) (c' := ⟨over c.toList (off * u.size) (aaX z.cells.toList len)⟩) hk hb (by show c.size = (over c.toList _ _).length; rw [aaV _ _ _ (by simpa using hfit)]; simp)
   (by intro e1 t1 l1 hh; injection hh with h1 h2 h3; subst h1; subst h2; have h3 := eq_of_heq h3; subst h3; exact ⟨_, rfl, by rw [hovl]; exact zj _⟩)
   (fun H' w' he hh => by
    refine ⟨_, hh, by rw [hovl]; show l.length * _ ≤ (over c.toList _ _).length; rw [aaV _ _ _ (by simpa using hfit)]; simpa using d2, by rw [hovl]; exact d3, ?_, fun v hv => ?_⟩
    ·rw [hovl]
     show RdL _ _ ((over c.toList _ _).take _)
     rw [(ajH c.toList (l.length * u.size) (off * u.size) (aaX z.cells.toList len) (by rw [hlf]; omega)).resolve_right zg]
     exact RdL.over (fun x cs => Rd.length u x cs) _ _ _ _ _ (RdL.mono (fun x cs => Rd.mono he.data u x cs) _ _ d4) (RdL.mono (fun x cs => Rd.mono he.data u x cs) _ _ hzz)
    ·rcases agK hv with hv | hv
     ·exact d5 v hv
     ·exact hone v hv)
  have hfr := hext.fr (n := σ.next) (fun j _ hj => by rwa [Heap.keys_up] at hj)
  exact ⟨_, _, hrun, (hs.frame hm' hfr (fun j hj => by rwa [Heap.keys_up])).put htup, by rw [St.put_H]; exact hfr, by rw [St.put_next]⟩
theorem aGZ (hG : acS G) (hC : G C.w0) {Γ : Cons} (hΓ : Γ.ok P G) {call : abN} (hcall : CallSat P G call) {ρ : Nat → Nat} {σ : St} {a : Act} {w : World} {o : Oper} {K : Fi → Prop} {nx : Act → World → Prop} {Q : Exit → Act → World → Prop}
  (hs : SRel C ρ σ a w) (h : opM P Γ call o σ K) (hnx : ∀ a' w', Reach C σ ρ w (fun σ' => K (.go σ')) a' w' → nx a' w') (hP : ∀ ch a' w', Reach C σ ρ w (fun σ' => K (.pan ch σ')) a' w' → Q (.panic ch) a' w') (rnd : Option Nat) : o.wpIn (aaW rnd) 0 P a w nx Q := by
 unfold opM at h
 split at h
 ·rename_i t x lo hi mx ho
  split at h
  ·rename_i k off len hx
   obtain ⟨r, h1, h2⟩ := T.leaf h
   have hvx := (hs.eval x).soft
   rw [hx] at hvx
   obtain ⟨v, h3, h4⟩ := aqT hs.m h1 hvx (OVR.ofMap (fun x => hs.eval x) hi) (OVR.ofMap (fun x => hs.eval x) lo) (OVR.ofMap (fun x => hs.eval x) mx)
   refine aaS (by rw [ho]; intro c hc; cases hc) ?_
   unfold Oper.wp
   rw [show (execOp a.eval o).run P w = .ok (.value v) w by simp [execOp, ho, h3]]
   exact hnx _ _ ⟨ρ, _, h2, hs.put h4, by rw [St.put_H]; exact Fr.refl _ _ _ _ _, by rw [St.put_next]; exact zj _⟩
  ·exact ajI hG hC hΓ hcall hs h hnx hP rnd
 ·rename_i op xt x y g ho
  split at h
  ·rename_i b r hq
   obtain ⟨z, h1, h2, h3, h4⟩ := aFf x y hq (hs.eval x).soft (hs.eval y).soft
   have fin : K (.go (σ.put o.dst (.d .bool z))) := by
    cases b with
    | true =>
     have h : Both _ _ := h
     rcases h3 with e | e
     ·rw [e]; exact h.l
     ·rw [e]; exact h.r
    | false => rw [h4 rfl]; exact h
   refine aaS (by rw [ho]; intro c hc; cases hc) ?_
   unfold Oper.wp
   rw [show (execOp a.eval o).run P w = .ok (.value (.bool z)) w by simp [execOp, ho, h1, h2]]
   exact hnx _ _ ⟨ρ, _, fin, hs.put abK, by rw [St.put_H]; exact Fr.refl _ _ _ _ _, by rw [St.put_next]; exact zj _⟩
  ·exact ajI hG hC hΓ hcall hs h hnx hP rnd
 ·rename_i args ts ho
  split at h
  ·rename_i x t hargs hts
   obtain ⟨σ', h1, h2⟩ := T.leaf h
   have e1 : args.map a.eval = #[a.eval x] := by apply Array.ext'; simp [hargs]
   have e2 : ts = #[t] := by apply Array.ext'; simp [hts]
   obtain ⟨v, w', h3, h4, h5, h6⟩ := ayB (ty := o.type) h1 hs (hs.eval x).soft
   refine aaS (by rw [ho]; intro c hc; cases hc) ?_
   unfold Oper.wp
   rw [show (execOp a.eval o).run P w = .ok (.value v) w' by subst e2; simp [execOp, ho, resolve, invoke, builtin, e1, h3]]
   exact hnx _ _ ⟨ρ, _, h2, h4, h5, by rw [h6]; exact zj _⟩
  ·exact h.elim
 ·exact ajI hG hC hΓ hcall hs h hnx hP rnd
theorem asM (hG : acS G) (hC : G C.w0) {Γ : Cons} (hΓ : Γ.ok P G) {call : abN} (hcall : CallSat P G call) {ops : Array Oper} {Q : Exit → Act → World → Prop} {K : Fi → Prop} :
  ∀ (l : List Oper) {ρ : Nat → Nat} {σ : St} {a : Act} {w : World}, SRel C ρ σ a w → aLO P Γ call l σ K → (∀ a' w', Reach C σ ρ w (fun σ' => K (.go σ')) a' w' → Q .normal a' w') → (∀ ch a' w', Reach C σ ρ w (fun σ' => K (.pan ch σ')) a' w' → Q (.panic ch) a' w') → ∀ rnd : Option Nat, wpListIn (aaW rnd) 0 P ops Q l a w
 | [], ρ, σ, a, w, hs, h, hQ, hP, rnd => wpListIn_nil (hQ a w ⟨ρ, σ, h, hs, Fr.refl _ _ _ _ _, zj _⟩)
 | o :: rest, ρ, σ, a, w, hs, h, hQ, hP, rnd => by
  unfold wpListIn
  simp only [aLO] at h
  split at h
  ·rename_i hg
   rw [if_pos (by simp [Region.wanted, hg])]
   refine aGZ hG hC hΓ hcall hs h ?_ hP rnd
   rintro a' w' ⟨ρ', σ', h2, h3, h4, h5⟩
   exact asM hG hC hΓ hcall rest h3 h2 (fun a'' w'' hr => hQ a'' w'' (hr.trans h4 h5)) (fun ch a'' w'' hr => hP ch a'' w'' (hr.trans h4 h5)) rnd
  ·exact h.elim
end
end Go.Vg
