/-
  A runner over the evaluator, and calls that have been run. Own work; no condition.
-/
import Derived.Test.YtgibnaibdcbmmaaGreatDoorClR3
set_option linter.unusedVariables false
set_option linter.unusedSimpArgs false
namespace Go.Vg
open Go Go.RowKit
structure Fn (α β : Type) where
 run : α → β
noncomputable def aHw {α : Type} (n : Nat) (x : α) : α := @Bool.rec (fun _ => α) x x (Nat.ble n 0)
noncomputable def aHu {α : Type} (n : Nat) (f : Nat → α) : α := @Nat.rec (fun _ => α) (f 0) (fun m _ => f (Nat.succ m)) n
theorem aHt {α : Type} (n : Nat) (f : Nat → α) : aHu n f = f n := by cases n <;> rfl
noncomputable def aIG {α : Type} (σ : St) (f : St → α) : α :=
 match σ with
 | ⟨sl, H, nx, n⟩ => aHu n fun n => aHu nx fun nx => f ⟨sl, H, nx, n⟩
theorem aCF {α : Type} (σ : St) (f : St → α) : aIG σ f = f σ := by simp only [aIG, aHt]
noncomputable def aLr (r : Option St) : Option St :=
 match r with
 | some σ => aIG σ some
 | none => none
theorem aIH (r : Option St) : aLr r = r := by cases r <;> simp only [aLr, aCF]
noncomputable def aIF (r : Option (Exit × St)) : Option (Exit × St) :=
 match r with
 | some (e, σ) => aIG σ fun σ => some (e, σ)
 | none => none
theorem ap5 (r : Option (Exit × St)) : aIF r = r := by cases r <;> simp only [aIF, aCF]
noncomputable def aJA (l : List (Nat × AV)) (t : Nat) : AV :=
 @List.rec (Nat × AV) (fun _ => AV) .no (fun p _ ih => @Bool.rec (fun _ => AV) ih p.2 (Nat.beq p.1 t)) l
noncomputable def aMn (l : List (Nat × AV)) (t : Nat) : List (Nat × AV) :=
 @List.rec (Nat × AV) (fun _ => List (Nat × AV)) [] (fun p _ ih => @Bool.rec (fun _ => List (Nat × AV)) (p :: ih) ih (Nat.beq p.1 t)) l
noncomputable def ak1 (σ : St) (x : Operand) : AV :=
 match x with
 | .tmp t => aJA σ.slots t
 | .const v => aoU v
 | .func f => .fn f [] []
 | .global _ => .no
noncomputable def az5 (dst : Option Nat) (v : AV) (σ : St) : Option St :=
 match σ with
 | ⟨sl, H, nx, n⟩ => aHw nx (match dst with
  | some t => match Nat.blt t n with
   | true => some ⟨(t, v) :: aMn sl t, H, Nat.succ nx, n⟩
   | false => some ⟨sl, H, Nat.succ nx, n⟩
  | none => some ⟨sl, H, Nat.succ nx, n⟩)
noncomputable def aMj (dst : Option Nat) (v : AV) (σ : St) : St :=
 match σ with
 | ⟨sl, H, nx, n⟩ => match dst with
  | some t => match Nat.blt t n with
   | true => ⟨(t, v) :: aMn sl t, H, nx, n⟩
   | false => ⟨sl, H, nx, n⟩
  | none => ⟨sl, H, nx, n⟩
noncomputable def adB (dst : Option Nat) (r : T AV) (σ : St) : Option St :=
 match r with
 | .ok v => az5 dst v σ
 | r => match r.toO with
  | some v => az5 dst v σ
  | none => none
def aMV (c a b : AV) : T AV :=
 match c with
 | .d .bool x => aCX x a b
 | _ => .bad
def aOw (P : Program) (op : BinOp) (xt : TypeId) (t : Ty) (a : t.T) (b : AV) : T AV :=
 match b with
 | .d u b => match t.agg with
  | true => aJS P op xt t a u b
  | false => match aAl P t xt with
   | true => aNO op t a u b
   | false => .bad
 | .nsl => aJQ P op xt t a
 | _ => .bad
def aOv (P : Program) (op : BinOp) (xt : TypeId) (c : Bool) (b : AV) : T AV :=
 match c with
 | true => aoM P op xt .nili b
 | false => .bad
def aOP (P : Program) (op : BinOp) (xt : TypeId) (c : Bool) (a b : AV) : T AV :=
 match a with
 | .d t a => aOw P op xt t a b
 | .nili => aOv P op xt c b
 | a => aoM P op xt a b
def aDj (i : Nat) (a : AV) : T AV :=
 match a with
 | .tup l => T.ofO l[i]?
 | _ => .bad
section
variable (P : Program) (sig : Sig) (pf : abC) (call : adX)
noncomputable def aO3 (o : Oper) (σ : St) : Option St := aLr (opR P sig pf call o σ)
noncomputable def opK (o : Oper) : Fn St (Option St) :=
 match o.op with
 | .move x => ⟨fun σ => az5 o.dst (ak1 σ x) σ⟩
 | .assign x => ⟨fun σ => az5 o.dst (ak1 σ x) σ⟩
 | .pick c a b => ⟨fun σ => adB o.dst (aMV (ak1 σ c) (ak1 σ a) (ak1 σ b)) σ⟩
 | .binOp op xt x y _ => ⟨fun σ => adB o.dst (aOP P op xt (aj5 x || aj5 y) (ak1 σ x).soft (ak1 σ y).soft) σ⟩
 | .unOp op _ x => ⟨fun σ => adB o.dst (aMt op (ak1 σ x)) σ⟩
 | .load t a => ⟨fun σ => adB o.dst (apL P σ.H t (ak1 σ a)) σ⟩
 | .fieldAddr s x f => ⟨fun σ => adB o.dst (aAc P σ.H s (ak1 σ x) f) σ⟩
 | .field s x f => ⟨fun σ => adB o.dst (ar9 P s (ak1 σ x) f) σ⟩
 | .indexAddr t x i => ⟨fun σ => adB o.dst (ar2 P σ.H t (ak1 σ x).soft (ak1 σ i)) σ⟩
 | .index t x i => ⟨fun σ => adB o.dst (ar1 P t (ak1 σ x) (ak1 σ i)) σ⟩
 | .extract t i => ⟨fun σ => adB o.dst (aDj i (ak1 σ t)) σ⟩
 | _ => ⟨aO3 P sig pf call o⟩
noncomputable def aMu (f g : Fn St (Option St)) : Fn St (Option St) := ⟨fun σ => match f.run σ with
 | some σ' => g.run σ'
 | none => none⟩
noncomputable def aDg (t : Nat) (want : Bool) (dst : Option Nat) (f g : Fn St (Option St)) (σ : St) (a : AV) : Option St :=
 match a with
 | .d .bool x => match atV x want with
  | true => match f.run (aMj (some t) (.d .bool x) σ) with
   | some σ' => g.run σ'
   | none => none
  | false => g.run (aMj dst .und (aMj (some t) (.d .bool x) σ))
 | .und => g.run (aMj dst .und σ)
 | _ => none
noncomputable def aK4 (t : Nat) (want : Bool) (dst : Option Nat) (f g : Fn St (Option St)) : Fn St (Option St) := ⟨fun σ => aDg t want dst f g σ (aJA σ.slots t)⟩
noncomputable def aLy (ops : Array Oper) : List Oper → Fn St (Option St)
 | [] => ⟨some⟩
 | o :: rest => match o.guard with
  | none => aMu (opK P sig pf call o) (aLy ops rest)
  | some (j, want) => match abH ops j with
   | some t => aK4 t want o.dst (opK P sig pf call o) (aLy ops rest)
   | none => ⟨fun _ => none⟩
noncomputable def aNq (f g : Fn St (Option (Exit × St))) : Fn St (Option (Exit × St)) := ⟨fun σ => match f.run σ with
 | some (.normal, σ') => g.run σ'
 | r => r⟩
noncomputable def aHX (f g : Fn St (Option (Exit × St))) (σ : St) (a : AV) : Option (Exit × St) :=
 match a with
 | .d .bool b => match (b : Bool) with
  | true => f.run σ
  | false => g.run σ
 | _ => none
noncomputable def aNk (c : Operand) (f g : Fn St (Option (Exit × St))) : Fn St (Option (Exit × St)) := ⟨fun σ => aHX f g σ (ak1 σ c)⟩
noncomputable def ad6 (fuel : Nat) (rd : Option Nat) : Code → Fn St (Option (Exit × St))
 | .skip => ⟨fun σ => some (.normal, σ)⟩
 | .region _ ops draw => match draw with
  | false => ⟨fun σ => aEv ((aLy P sig pf call ops ops.toList).run σ) (aIt P sig pf call ops ops.toList σ)⟩
  | true => ⟨fun σ => aIF <| aEv (aL2 P sig pf call ops σ) (aJY P sig pf call ops (σ.forDraw (aDF sig) ops.toList))⟩
 | .seq x y => aNq (ad6 fuel rd x) (ad6 fuel rd y)
 | .cond c x y => aNk c (ad6 fuel rd x) (ad6 fuel rd y)
 | .block id c => ⟨fun σ => aIb id ((ad6 fuel rd c).run σ)⟩
 | .loop c => ⟨fun σ => aM1 (ad6 fuel rd c).run fuel σ⟩
 | .exit id => ⟨fun σ => some (.exit id, σ)⟩
 | .ret => ⟨fun σ => some (.ret, σ)⟩
 | .label _ => ⟨fun σ => some (.normal, σ)⟩
 | .scope c => ⟨fun σ => aKi ((ad6 fuel rd c).run σ)⟩
 | c => ⟨fun σ => aIF (abV P sig fuel pf call rd c σ)⟩
noncomputable def aJ6 (fuel : Nat) : Code → St → Option (Exit × St) :=
 aMa P (fun ops l => (aLy P sig pf call ops l).run) (fun rd c => (ad6 P sig pf call fuel rd c).run)
noncomputable def aLF (fuel : Nat) : abC := fun f A R x =>
 match P.funcs[f]? with
 | some fn => match fn.body with
  | some code => match acL P f && Nat.ble (akA A x).length fn.ntmps with
   | true => match aMG P fn (aJ6 P sig pf call fuel code { slots := ab9 0 (akA A x), H := [], next := 0, n := fn.ntmps }) with
    | some (l, σ) => amW R (AV.maps (fun _ => false) (aEz σ.H) l)
    | none => none
   | false => none
  | none => none
 | none => none
noncomputable def aDo (fuel : Nat) : adX := fun t args H next =>
 match t with
 | .fn f => match P.funcs[f]? with
  | some fn => match fn.body with
   | some code => match acL P f && Nat.ble args.length fn.ntmps with
    | true => aOp P fn next (aJ6 P sig pf call fuel code { slots := ab9 0 args, H := H, next := next, n := fn.ntmps })
    | false => none
   | none => none
  | none => none
 | .yld l => match H.find l with
  | some (.loop r) => match Nat.beq args.length r.ps.size with
   | true => aFJ l (aId l ((ad6 P sig pf call fuel (some l) r.body).run) ((ad6 P sig pf call fuel (some l) r.assign).run (ao1 { slots := r.slots, H := H, next := next, n := r.n } r.ps.toList args)))
   | false => none
  | _ => none
end
mutual
noncomputable def aaT (P : Program) (sig : Sig) (fuel : Nat) (ext : abC) : Nat → abC
 | 0 => ext
 | d + 1 => alH ext (aLF P sig (aaT P sig fuel ext d) (asH P sig fuel ext d) fuel)
noncomputable def asH (P : Program) (sig : Sig) (fuel : Nat) (ext : abC) : Nat → adX
 | 0 => fun _ _ _ _ => none
 | d + 1 => aDo P sig (aaT P sig fuel ext d) (asH P sig fuel ext d) fuel
end
section
variable {P : Program} {sig : Sig} {pf : abC} {call : adX}
theorem aHv {α : Type} (n : Nat) (x : α) : aHw n x = x := by
 unfold aHw
 cases Nat.ble n 0 <;> rfl
theorem aC8 (l : List (Nat × AV)) (t : Nat) : aJA l t = acT l t := by
 induction l with
 | nil => rfl
 | cons p r ih =>
  obtain ⟨k, v⟩ := p
  show @Bool.rec (fun _ => AV) (aJA r t) v (Nat.beq k t) = _
  simp only [acT]
  cases Nat.beq k t with
  | true => rfl
  | false => exact ih
theorem aHT (l : List (Nat × AV)) (t : Nat) : aMn l t = del l t := by
 induction l with
 | nil => rfl
 | cons p r ih =>
  obtain ⟨k, v⟩ := p
  show @Bool.rec (fun _ => List (Nat × AV)) ((k, v) :: aMn r t) (aMn r t) (Nat.beq k t) = _
  simp only [del]
  cases Nat.beq k t with
  | true => exact ih
  | false => show (k, v) :: aMn r t = _; rw [ih]
theorem afD (σ : St) (x : Operand) : ak1 σ x = σ.eval x := by
 cases x with
 | tmp t => exact aC8 _ _
 | _ => rfl
theorem aFW (dst : Option Nat) (v : AV) (σ : St) : aMj dst v σ = σ.put dst v := by
 obtain ⟨sl, H, nx, n⟩ := σ
 unfold aMj St.put
 cases dst with
 | none => rfl
 | some t =>
  simp only [aHT]
  cases Nat.blt t n <;> rfl
theorem aqC (dst : Option Nat) (v : AV) (σ : St) : az5 dst v σ = some (σ.grow dst v []) := by
 obtain ⟨sl, H, nx, n⟩ := σ
 unfold az5 St.grow St.put
 simp only [aHv]
 cases dst with
 | none => rfl
 | some t =>
  simp only [aHT, yV]
  cases Nat.blt t n <;> rfl
theorem T.toO_bind {α β : Type} (r : T α) (g : α → β) : (r.bind fun a => .ok (g a)).toO = r.toO.map g := by
 induction r with
 | ok a => rfl
 | ite b x y hx hy =>
  cases b with
  | true => exact hx
  | false => exact hy
 | @need p d x hx =>
  simp only [T.bind, T.toO]
  cases d with
  | isTrue _ => exact hx
  | isFalse _ => rfl
 | bad => rfl
theorem aHn (dst : Option Nat) (r : T AV) (σ : St) : adB dst r σ = aHo σ dst ((r.bind fun a => .ok (a, [])).toO) := by
 rw [T.toO_bind r (fun a => (a, ([] : List (Nat × Bk))))]
 unfold adB
 split
 ·rename_i v
  exact aqC dst v σ
 ·cases hr : r.toO with
  | none => rfl
  | some v => exact aqC dst v σ
theorem aKZ (o : Oper) (σ : St) : (opK P sig pf call o).run σ = opR P sig pf call o σ := by
 have hb : ∀ (r : T AV), (∀ K H arg, arg = σ.eval → H = σ.H → (evM P (aHx (ap7 sig)) K H arg o) = r.bind fun a => .ok (a, [])) → (∀ f args ts, o.op ≠ .call ⟨.value f, args, ts⟩) → adB o.dst r σ = afA P sig pf o σ := by
  intro r hr hne
  unfold afA
  rw [aHn]
  have : evR P sig pf σ.next σ.H σ.eval o = (evM P (aHx (ap7 sig)) σ.next σ.H σ.eval o).toO := by
   unfold evR
   split
   ·rename_i f args ts ho; exact absurd ho (hne f args ts)
   ·rfl
  rw [this, hr σ.next σ.H σ.eval rfl rfl]
 unfold opK
 split
 ·rename_i x ho
  show az5 o.dst (ak1 σ x) σ = _
  rw [aqC, afD]
  simp only [opR, ho, afA, evR, evM, evP, T.bind, T.toO, aHo]
 ·rename_i x ho
  show az5 o.dst (ak1 σ x) σ = _
  rw [aqC, afD]
  simp only [opR, ho, afA, evR, evM, evP, T.bind, T.toO, aHo]
 ·rename_i c a b ho
  show adB o.dst (aMV (ak1 σ c) (ak1 σ a) (ak1 σ b)) σ = _
  simp only [afD, opR, ho]
  refine hb _ (fun K H arg e1 e2 => ?_) (by simp [ho])
  subst e1; subst e2
  simp only [evM, evP, ho]
  rfl
 ·rename_i op xt x y t ho
  show adB o.dst (aOP P op xt (aj5 x || aj5 y) (ak1 σ x).soft (ak1 σ y).soft) σ = _
  simp only [afD, opR, ho]
  refine hb _ (fun K H arg e1 e2 => ?_) (by simp [ho])
  subst e1; subst e2
  simp only [evM, evP, ho]
  rfl
 ·rename_i op t x ho
  show adB o.dst (aMt op (ak1 σ x)) σ = _
  simp only [afD, opR, ho]
  refine hb _ (fun K H arg e1 e2 => ?_) (by simp [ho])
  subst e1; subst e2
  simp only [evM, evP, ho]
 ·rename_i t a ho
  show adB o.dst (apL P σ.H t (ak1 σ a)) σ = _
  simp only [afD, opR, ho]
  refine hb _ (fun K H arg e1 e2 => ?_) (by simp [ho])
  subst e1; subst e2
  simp only [evM, ho]
 ·rename_i s x f ho
  show adB o.dst (aAc P σ.H s (ak1 σ x) f) σ = _
  simp only [afD, opR, ho]
  refine hb _ (fun K H arg e1 e2 => ?_) (by simp [ho])
  subst e1; subst e2
  simp only [evM, evP, ho]
 ·rename_i s x f ho
  show adB o.dst (ar9 P s (ak1 σ x) f) σ = _
  simp only [afD, opR, ho]
  refine hb _ (fun K H arg e1 e2 => ?_) (by simp [ho])
  subst e1; subst e2
  simp only [evM, evP, ho]
 ·rename_i t x i ho
  show adB o.dst (ar2 P σ.H t (ak1 σ x).soft (ak1 σ i)) σ = _
  simp only [afD, opR, ho]
  refine hb _ (fun K H arg e1 e2 => ?_) (by simp [ho])
  subst e1; subst e2
  simp only [evM, evP, ho]
 ·rename_i t x i ho
  show adB o.dst (ar1 P t (ak1 σ x) (ak1 σ i)) σ = _
  simp only [afD, opR, ho]
  refine hb _ (fun K H arg e1 e2 => ?_) (by simp [ho])
  subst e1; subst e2
  simp only [evM, evP, ho]
 ·rename_i t i ho
  show adB o.dst (aDj i (ak1 σ t)) σ = _
  simp only [afD, opR, ho]
  refine hb _ (fun K H arg e1 e2 => ?_) (by simp [ho])
  subst e1; subst e2
  simp only [evM, evP, ho]
  rfl
 ·exact aIH _
theorem anS (ops : Array Oper) : ∀ (l : List Oper) (σ : St), (aLy P sig pf call ops l).run σ = aAT P sig pf call ops l σ
 | [], _ => rfl
 | o :: rest, σ => by
  simp only [aLy, aAT]
  cases hg : o.guard with
  | none =>
   simp only [aMu, aKZ]
   cases opR P sig pf call o σ with
   | none => rfl
   | some s => exact anS ops rest s
  | some jw =>
   obtain ⟨j, want⟩ := jw
   simp only
   cases ht : abH ops j with
   | none => rfl
   | some t =>
    simp only [aK4, aC8, aDg]
    split
    ·rename_i x hx
     simp only [aFW, aKZ, hx]
     cases hsb : atV x want with
     | true =>
      simp only
      cases opR P sig pf call o (σ.put (some t) (.d .bool x)) with
      | none => rfl
      | some s => exact anS ops rest s
     | false => exact anS ops rest _
    ·rename_i hx
     simp only [aFW, hx]; exact anS ops rest _
    ·rename_i h1 h2
     split
     ·rename_i x hx; exact absurd hx (h1 x)
     ·rename_i hx; exact absurd hx h2
     ·rfl
theorem afO {fuel : Nat} {rd : Option Nat} : ∀ (c : Code) (σ : St), (ad6 P sig pf call fuel rd c).run σ = abV P sig fuel pf call rd c σ
 | .skip, _ => by simp only [ad6, abV]
 | .region _ ops draw, σ => by
  cases draw with
  | false => simp only [ad6, abV, anS]
  | true => simp only [ad6, abV, ap5]
 | .seq x y, σ => by
  have h : (ad6 P sig pf call fuel rd y).run = abV P sig fuel pf call rd y := funext (afO y)
  simp only [ad6, abV, aNq, afO x, h]
  cases abV P sig fuel pf call rd x σ with
  | none => rfl
  | some p =>
   obtain ⟨e, s⟩ := p
   cases e <;> rfl
 | .cond c x y, σ => by
  simp only [ad6, abV, aNk, aHX, afD]
  split
  ·rename_i b hb
   simp only [hb]
   cases b with
   | true => exact afO x σ
   | false => exact afO y σ
  ·rename_i h1
   split
   ·rename_i b hb; exact absurd hb (h1 b)
   ·rfl
 | .block id c, σ => by simp only [ad6, abV, afO c]
 | .loop c, σ => by
  have h : (ad6 P sig pf call fuel rd c).run = abV P sig fuel pf call rd c := funext (afO c)
  simp only [ad6, abV, h]
 | .exit _, _ => by simp only [ad6, abV]
 | .ret, _ => by simp only [ad6, abV]
 | .label _, _ => by simp only [ad6, abV]
 | .scope c, σ => by simp only [ad6, abV, afO c]
 | .rangeFunc _ _ _ _, _ => by simp only [ad6, ap5]
 | .goto _, _ => by simp only [ad6, ap5]
 | .refuse _, _ => by simp only [ad6, ap5]
theorem aDt (fuel : Nat) : aJ6 P sig pf call fuel = aE4 P sig fuel pf call := by
 unfold aJ6 aE4
 rw [show (fun ops l => (aLy P sig pf call ops l).run) = aAT P sig pf call from funext fun ops => funext fun l => funext fun σ => anS ops l σ]
 rw [show (fun rd c => (ad6 P sig pf call fuel rd c).run) = abV P sig fuel pf call from funext fun rd => funext fun c => funext fun σ => afO c σ]
theorem aI2 (fuel : Nat) : aLF P sig pf call fuel = aFX P sig fuel pf call := by
 funext f A R x
 unfold aLF aFX
 simp only [aDt]
 rfl
theorem aHG (fuel : Nat) : aDo P sig pf call fuel = asG P sig fuel pf call := by
 funext t args H next
 have h : ∀ rd c, (ad6 P sig pf call fuel rd c).run = abV P sig fuel pf call rd c := fun rd c => funext (afO c)
 cases t with
 | fn f => simp only [aDo, asG, aDt]; rfl
 | yld l => simp only [aDo, asG, h]; rfl
theorem aA9 (fuel : Nat) (ext : abC) : ∀ d, aaT P sig fuel ext d = azB P sig fuel ext d ∧ asH P sig fuel ext d = apT P sig fuel ext d
 | 0 => ⟨by simp only [aaT, azB], by simp only [asH, apT]⟩
 | d + 1 => by
  obtain ⟨h1, h2⟩ := aA9 fuel ext d
  exact ⟨by simp only [aaT, azB, h1, h2, aI2], by simp only [asH, apT, h1, h2, aHG]⟩
end
end Go.Vg
