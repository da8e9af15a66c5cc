/-
  A runner over the evaluator, and calls that have been run. Own work; no condition.
-/
import Derived.Test.YtlmjbmgabddkiaaGreatDoorClR3
set_option linter.unusedVariables false
set_option linter.unusedSimpArgs false
namespace Go.Vg
open Go Go.RowKit
structure Fn (α β : Type) where
 run : α → β
noncomputable def aHg {α : Type} (n : Nat) (x : α) : α := @Bool.rec (fun _ => α) x x (Nat.ble n 0)
noncomputable def aJY (l : List (Nat × AV)) (t : Nat) : AV :=
 @List.rec (Nat × AV) (fun _ => AV) .no (fun p _ ih => @Bool.rec (fun _ => AV) ih p.2 (Nat.beq p.1 t)) l
noncomputable def aM1 (l : List (Nat × AV)) (t : Nat) : List (Nat × AV) :=
 @List.rec (Nat × AV) (fun _ => List (Nat × AV)) [] (fun p _ ih => @Bool.rec (fun _ => List (Nat × AV)) (p :: ih) ih (Nat.beq p.1 t)) l
noncomputable def ajN (σ : St) (x : Operand) : AV :=
 match x with
 | .tmp t => aJY σ.slots t
 | .const v => anU v
 | .func f => .fn f [] []
 | .global _ => .no
noncomputable def azJ (dst : Option Nat) (v : AV) (σ : St) : Option St :=
 match σ with
 | ⟨sl, H, nx, n⟩ => aHg nx (match dst with
  | some t => match Nat.blt t n with
   | true => some ⟨(t, v) :: aM1 sl t, H, Nat.succ nx, n⟩
   | false => some ⟨sl, H, Nat.succ nx, n⟩
  | none => some ⟨sl, H, Nat.succ nx, n⟩)
noncomputable def aMY (dst : Option Nat) (v : AV) (σ : St) : St :=
 match σ with
 | ⟨sl, H, nx, n⟩ => match dst with
  | some t => match Nat.blt t n with
   | true => ⟨(t, v) :: aM1 sl t, H, nx, n⟩
   | false => ⟨sl, H, nx, n⟩
  | none => ⟨sl, H, nx, n⟩
noncomputable def adV (dst : Option Nat) (r : T AV) (σ : St) : Option St :=
 match r with
 | .ok v => azJ dst v σ
 | r => match r.toO with
  | some v => azJ dst v σ
  | none => none
def aNI (c a b : AV) : T AV :=
 match c with
 | .d .bool x => aCx x a b
 | _ => .bad
def aO1 (P : Program) (op : BinOp) (xt : TypeId) (t : Ty) (a : t.T) (b : AV) : T AV :=
 match b with
 | .d u b => match t.agg with
  | true => aKr P op xt t a u b
  | false => match az7 P t xt with
   | true => aOy op t a u b
   | false => .bad
 | .nsl => aKp P op xt t a
 | _ => .bad
def aO0 (P : Program) (op : BinOp) (xt : TypeId) (c : Bool) (b : AV) : T AV :=
 match c with
 | true => anP P op xt .nili b
 | false => .bad
def aPd (P : Program) (op : BinOp) (xt : TypeId) (c : Bool) (a b : AV) : T AV :=
 match a with
 | .d t a => aO1 P op xt t a b
 | .nili => aO0 P op xt c b
 | a => anP P op xt a b
def aCW (i : Nat) (a : AV) : T AV :=
 match a with
 | .tup l => T.ofO l[i]?
 | _ => .bad
section
variable (P : Program) (sig : Sig) (pf : abI) (call : ae3)
noncomputable def aPl (o : Oper) (σ : St) : Option St := opR P sig pf call o σ
noncomputable def opK (o : Oper) : Fn St (Option St) :=
 match o.op with
 | .move x => ⟨fun σ => azJ o.dst (ajN σ x) σ⟩
 | .assign x => ⟨fun σ => azJ o.dst (ajN σ x) σ⟩
 | .pick c a b => ⟨fun σ => adV o.dst (aNI (ajN σ c) (ajN σ a) (ajN σ b)) σ⟩
 | .binOp op xt x y _ => ⟨fun σ => adV o.dst (aPd P op xt (aiO x || aiO y) (ajN σ x).soft (ajN σ y).soft) σ⟩
 | .unOp op _ x => ⟨fun σ => adV o.dst (aM9 op (ajN σ x)) σ⟩
 | .load t a => ⟨fun σ => adV o.dst (aqW P σ.H t (ajN σ a)) σ⟩
 | .fieldAddr s x f => ⟨fun σ => adV o.dst (az2 P σ.H s (ajN σ x) f) σ⟩
 | .field s x f => ⟨fun σ => adV o.dst (arG P s (ajN σ x) f) σ⟩
 | .indexAddr t x i => ⟨fun σ => adV o.dst (aq3 P σ.H t (ajN σ x).soft (ajN σ i)) σ⟩
 | .index t x i => ⟨fun σ => adV o.dst (aq2 P t (ajN σ x) (ajN σ i)) σ⟩
 | .extract t i => ⟨fun σ => adV o.dst (aCW i (ajN σ t)) σ⟩
 | _ => ⟨aPl P sig pf call o⟩
noncomputable def aNa (f g : Fn St (Option St)) : Fn St (Option St) := ⟨fun σ => match f.run σ with
 | some σ' => g.run σ'
 | none => none⟩
noncomputable def aCS (t : Nat) (want : Bool) (dst : Option Nat) (f g : Fn St (Option St)) (σ : St) (a : AV) : Option St :=
 match a with
 | .d .bool x => match asZ x want with
  | true => match f.run (aMY (some t) (.d .bool x) σ) with
   | some σ' => g.run σ'
   | none => none
  | false => g.run (aMY dst .und (aMY (some t) (.d .bool x) σ))
 | .und => g.run (aMY dst .und σ)
 | _ => none
noncomputable def aLv (t : Nat) (want : Bool) (dst : Option Nat) (f g : Fn St (Option St)) : Fn St (Option St) := ⟨fun σ => aCS t want dst f g σ (aJY σ.slots t)⟩
noncomputable def aLU (ops : Array Oper) : List Oper → Fn St (Option St)
 | [] => ⟨some⟩
 | o :: rest => match o.guard with
  | none => aNa (opK P sig pf call o) (aLU ops rest)
  | some (j, want) => match abK ops j with
   | some t => aLv t want o.dst (opK P sig pf call o) (aLU ops rest)
   | none => ⟨fun _ => none⟩
noncomputable def aOa (f g : Fn St (Option (Exit × St))) : Fn St (Option (Exit × St)) := ⟨fun σ => match f.run σ with
 | some (.normal, σ') => g.run σ'
 | r => r⟩
noncomputable def aHW (f g : Fn St (Option (Exit × St))) (σ : St) (a : AV) : Option (Exit × St) :=
 match a with
 | .d .bool b => match (b : Bool) with
  | true => f.run σ
  | false => g.run σ
 | _ => none
noncomputable def aN5 (c : Operand) (f g : Fn St (Option (Exit × St))) : Fn St (Option (Exit × St)) := ⟨fun σ => aHW f g σ (ajN σ c)⟩
noncomputable def aeN (fuel : Nat) (rd : Option Nat) : Code → Fn St (Option (Exit × St))
 | .skip => ⟨fun σ => some (.normal, σ)⟩
 | .region _ ops draw => match draw with
  | false => ⟨fun σ => aD9 ((aLU P sig pf call ops ops.toList).run σ) (aIG P sig pf call ops ops.toList σ)⟩
  | true => ⟨fun σ => aD9 (aMG P sig pf call ops σ) (aKs P sig pf call ops (σ.forDraw (aFu sig) ops.toList))⟩
 | .seq x y => aOa (aeN fuel rd x) (aeN fuel rd y)
 | .cond c x y => aN5 c (aeN fuel rd x) (aeN fuel rd y)
 | .block id c => ⟨fun σ => aH7 id ((aeN fuel rd c).run σ)⟩
 | .loop c => ⟨fun σ => aGY (aeN fuel rd c).run fuel σ⟩
 | .exit id => ⟨fun σ => some (.exit id, σ)⟩
 | .ret => ⟨fun σ => some (.ret, σ)⟩
 | .label _ => ⟨fun σ => some (.normal, σ)⟩
 | .scope c => ⟨fun σ => aKO ((aeN fuel rd c).run σ)⟩
 | c => ⟨ab1 P sig fuel pf call rd c⟩
noncomputable def aKz (fuel : Nat) : Code → St → Option (Exit × St) :=
 aMN P (fun ops l => (aLU P sig pf call ops l).run) (fun rd c => (aeN P sig pf call fuel rd c).run)
noncomputable def aL5 (fuel : Nat) : abI := fun f A R x =>
 match P.funcs[f]? with
 | some fn => match fn.body with
  | some code => match acO P f && Nat.ble (aiW A x).length fn.ntmps with
   | true => match aNm P fn (aKz P sig pf call fuel code { slots := acK 0 (aiW A x), H := [], next := 0, n := fn.ntmps }) with
    | some (l, σ) => alG R (AV.maps (fun _ => false) (aEe σ.H) l)
    | none => none
   | false => none
  | none => none
 | none => none
noncomputable def aC1 (fuel : Nat) : ae3 := fun t args H next =>
 match t with
 | .fn f => match P.funcs[f]? with
  | some fn => match fn.body with
   | some code => match acO P f && Nat.ble args.length fn.ntmps with
    | true => aOZ P fn next (aKz P sig pf call fuel code { slots := acK 0 args, H := H, next := next, n := fn.ntmps })
    | false => none
   | none => none
  | none => none
 | .yld l => match H.find l with
  | some (.loop r) => match Nat.beq args.length r.ps.size with
   | true => aFA l (aH9 l ((aeN P sig pf call fuel (some l) r.body).run) ((aeN P sig pf call fuel (some l) r.assign).run (anW { slots := r.slots, H := H, next := next, n := r.n } r.ps.toList args)))
   | false => none
  | _ => none
end
mutual
noncomputable def aa8 (P : Program) (sig : Sig) (fuel : Nat) (ext : abI) : Nat → abI
 | 0 => ext
 | d + 1 => aiR ext (aL5 P sig (aa8 P sig fuel ext d) (arR P sig fuel ext d) fuel)
noncomputable def arR (P : Program) (sig : Sig) (fuel : Nat) (ext : abI) : Nat → ae3
 | 0 => fun _ _ _ _ => none
 | d + 1 => aC1 P sig (aa8 P sig fuel ext d) (arR P sig fuel ext d) fuel
end
section
variable {P : Program} {sig : Sig} {pf : abI} {call : ae3}
theorem aHf {α : Type} (n : Nat) (x : α) : aHg n x = x := by
 unfold aHg
 cases Nat.ble n 0 <;> rfl
theorem aCJ (l : List (Nat × AV)) (t : Nat) : aJY l t = adO l t := by
 induction l with
 | nil => rfl
 | cons p r ih =>
  obtain ⟨k, v⟩ := p
  show @Bool.rec (fun _ => AV) (aJY r t) v (Nat.beq k t) = _
  simp only [adO]
  cases Nat.beq k t with
  | true => rfl
  | false => exact ih
theorem aHP (l : List (Nat × AV)) (t : Nat) : aM1 l t = del l t := by
 induction l with
 | nil => rfl
 | cons p r ih =>
  obtain ⟨k, v⟩ := p
  show @Bool.rec (fun _ => List (Nat × AV)) ((k, v) :: aM1 r t) (aM1 r t) (Nat.beq k t) = _
  simp only [del]
  cases Nat.beq k t with
  | true => exact ih
  | false => show (k, v) :: aM1 r t = _; rw [ih]
theorem afN (σ : St) (x : Operand) : ajN σ x = σ.eval x := by
 cases x with
 | tmp t => exact aCJ _ _
 | _ => rfl
theorem aFY (dst : Option Nat) (v : AV) (σ : St) : aMY dst v σ = σ.put dst v := by
 obtain ⟨sl, H, nx, n⟩ := σ
 unfold aMY St.put
 cases dst with
 | none => rfl
 | some t =>
  simp only [aHP]
  cases Nat.blt t n <;> rfl
theorem apC (dst : Option Nat) (v : AV) (σ : St) : azJ dst v σ = some (σ.grow dst v []) := by
 obtain ⟨sl, H, nx, n⟩ := σ
 unfold azJ St.grow St.put
 simp only [aHf]
 cases dst with
 | none => rfl
 | some t =>
  simp only [aHP, yV]
  cases Nat.blt t n <;> rfl
theorem T.toO_bind {α β : Type} (r : T α) (g : α → β) : (r.bind fun a => .ok (g a)).toO = r.toO.map g := by
 induction r with
 | ok a => rfl
 | ite b x y hx hy =>
  cases b with
  | true => exact hx
  | false => exact hy
 | @need p d x hx =>
  simp only [T.bind, T.toO]
  cases d with
  | isTrue _ => exact hx
  | isFalse _ => rfl
 | bad => rfl
theorem aG9 (dst : Option Nat) (r : T AV) (σ : St) : adV dst r σ = aHa σ dst ((r.bind fun a => .ok (a, [])).toO) := by
 rw [T.toO_bind r (fun a => (a, ([] : List (Nat × Bk))))]
 unfold adV
 split
 ·rename_i v
  exact apC dst v σ
 ·cases hr : r.toO with
  | none => rfl
  | some v => exact apC dst v σ
theorem aLm (o : Oper) (σ : St) : (opK P sig pf call o).run σ = opR P sig pf call o σ := by
 have hb : ∀ (r : T AV), (∀ K H arg, arg = σ.eval → H = σ.H → (evM P [] K H arg o) = r.bind fun a => .ok (a, [])) → (∀ f args ts, o.op ≠ .call ⟨.value f, args, ts⟩) → adV o.dst r σ = afM P sig pf o σ := by
  intro r hr hne
  unfold afM
  rw [aG9]
  have : evR P sig pf σ.next σ.H σ.eval o = (evM P [] σ.next σ.H σ.eval o).toO := by
   unfold evR
   split
   ·rename_i f args ts ho; exact absurd ho (hne f args ts)
   ·rfl
  rw [this, hr σ.next σ.H σ.eval rfl rfl]
 unfold opK
 split
 ·rename_i x ho
  show azJ o.dst (ajN σ x) σ = _
  rw [apC, afN]
  simp only [opR, ho, afM, evR, evM, evP, T.bind, T.toO, aHa]
 ·rename_i x ho
  show azJ o.dst (ajN σ x) σ = _
  rw [apC, afN]
  simp only [opR, ho, afM, evR, evM, evP, T.bind, T.toO, aHa]
 ·rename_i c a b ho
  show adV o.dst (aNI (ajN σ c) (ajN σ a) (ajN σ b)) σ = _
  simp only [afN, opR, ho]
  refine hb _ (fun K H arg e1 e2 => ?_) (by simp [ho])
  subst e1; subst e2
  simp only [evM, evP, ho]
  rfl
 ·rename_i op xt x y t ho
  show adV o.dst (aPd P op xt (aiO x || aiO y) (ajN σ x).soft (ajN σ y).soft) σ = _
  simp only [afN, opR, ho]
  refine hb _ (fun K H arg e1 e2 => ?_) (by simp [ho])
  subst e1; subst e2
  simp only [evM, evP, ho]
  rfl
 ·rename_i op t x ho
  show adV o.dst (aM9 op (ajN σ x)) σ = _
  simp only [afN, opR, ho]
  refine hb _ (fun K H arg e1 e2 => ?_) (by simp [ho])
  subst e1; subst e2
  simp only [evM, evP, ho]
 ·rename_i t a ho
  show adV o.dst (aqW P σ.H t (ajN σ a)) σ = _
  simp only [afN, opR, ho]
  refine hb _ (fun K H arg e1 e2 => ?_) (by simp [ho])
  subst e1; subst e2
  simp only [evM, ho]
 ·rename_i s x f ho
  show adV o.dst (az2 P σ.H s (ajN σ x) f) σ = _
  simp only [afN, opR, ho]
  refine hb _ (fun K H arg e1 e2 => ?_) (by simp [ho])
  subst e1; subst e2
  simp only [evM, evP, ho]
 ·rename_i s x f ho
  show adV o.dst (arG P s (ajN σ x) f) σ = _
  simp only [afN, opR, ho]
  refine hb _ (fun K H arg e1 e2 => ?_) (by simp [ho])
  subst e1; subst e2
  simp only [evM, evP, ho]
 ·rename_i t x i ho
  show adV o.dst (aq3 P σ.H t (ajN σ x).soft (ajN σ i)) σ = _
  simp only [afN, opR, ho]
  refine hb _ (fun K H arg e1 e2 => ?_) (by simp [ho])
  subst e1; subst e2
  simp only [evM, evP, ho]
 ·rename_i t x i ho
  show adV o.dst (aq2 P t (ajN σ x) (ajN σ i)) σ = _
  simp only [afN, opR, ho]
  refine hb _ (fun K H arg e1 e2 => ?_) (by simp [ho])
  subst e1; subst e2
  simp only [evM, evP, ho]
 ·rename_i t i ho
  show adV o.dst (aCW i (ajN σ t)) σ = _
  simp only [afN, opR, ho]
  refine hb _ (fun K H arg e1 e2 => ?_) (by simp [ho])
  subst e1; subst e2
  simp only [evM, evP, ho]
  rfl
 ·rfl
theorem amR (ops : Array Oper) : ∀ (l : List Oper) (σ : St), (aLU P sig pf call ops l).run σ = aAN P sig pf call ops l σ
 | [], _ => rfl
 | o :: rest, σ => by
  simp only [aLU, aAN]
  cases hg : o.guard with
  | none =>
   simp only [aNa, aLm]
   cases opR P sig pf call o σ with
   | none => rfl
   | some s => exact amR ops rest s
  | some jw =>
   obtain ⟨j, want⟩ := jw
   simp only
   cases ht : abK ops j with
   | none => rfl
   | some t =>
    simp only [aLv, aCJ, aCS]
    split
    ·rename_i x hx
     simp only [aFY, aLm, hx]
     cases hsb : asZ x want with
     | true =>
      simp only
      cases opR P sig pf call o (σ.put (some t) (.d .bool x)) with
      | none => rfl
      | some s => exact amR ops rest s
     | false => exact amR ops rest _
    ·rename_i hx
     simp only [aFY, hx]; exact amR ops rest _
    ·rename_i h1 h2
     split
     ·rename_i x hx; exact absurd hx (h1 x)
     ·rename_i hx; exact absurd hx h2
     ·rfl
theorem afS {fuel : Nat} {rd : Option Nat} : ∀ (c : Code) (σ : St), (aeN P sig pf call fuel rd c).run σ = ab1 P sig fuel pf call rd c σ
 | .skip, _ => by simp only [aeN, ab1]
 | .region _ ops draw, σ => by
  cases draw with
  | false => simp only [aeN, ab1, amR]
  | true => simp only [aeN, ab1]
 | .seq x y, σ => by
  have h : (aeN P sig pf call fuel rd y).run = ab1 P sig fuel pf call rd y := funext (afS y)
  simp only [aeN, ab1, aOa, afS x, h]
  cases ab1 P sig fuel pf call rd x σ with
  | none => rfl
  | some p =>
   obtain ⟨e, s⟩ := p
   cases e <;> rfl
 | .cond c x y, σ => by
  simp only [aeN, ab1, aN5, aHW, afN]
  split
  ·rename_i b hb
   simp only [hb]
   cases b with
   | true => exact afS x σ
   | false => exact afS y σ
  ·rename_i h1
   split
   ·rename_i b hb; exact absurd hb (h1 b)
   ·rfl
 | .block id c, σ => by simp only [aeN, ab1, afS c]
 | .loop c, σ => by
  have h : (aeN P sig pf call fuel rd c).run = ab1 P sig fuel pf call rd c := funext (afS c)
  simp only [aeN, ab1, h]
 | .exit _, _ => by simp only [aeN, ab1]
 | .ret, _ => by simp only [aeN, ab1]
 | .label _, _ => by simp only [aeN, ab1]
 | .scope c, σ => by simp only [aeN, ab1, afS c]
 | .rangeFunc _ _ _ _, _ => by simp only [aeN]
 | .goto _, _ => by simp only [aeN]
 | .refuse _, _ => by simp only [aeN]
theorem aC8 (fuel : Nat) : aKz P sig pf call fuel = aEN P sig fuel pf call := by
 unfold aKz aEN
 rw [show (fun ops l => (aLU P sig pf call ops l).run) = aAN P sig pf call from funext fun ops => funext fun l => funext fun σ => amR ops l σ]
 rw [show (fun rd c => (aeN P sig pf call fuel rd c).run) = ab1 P sig fuel pf call from funext fun rd => funext fun c => funext fun σ => afS c σ]
theorem aJm (fuel : Nat) : aL5 P sig pf call fuel = aFZ P sig fuel pf call := by
 funext f A R x
 unfold aL5 aFZ
 simp only [aC8]
 rfl
theorem aHI (fuel : Nat) : aC1 P sig pf call fuel = arQ P sig fuel pf call := by
 funext t args H next
 have h : ∀ rd c, (aeN P sig pf call fuel rd c).run = ab1 P sig fuel pf call rd c := fun rd c => funext (afS c)
 cases t with
 | fn f => simp only [aC1, arQ, aC8]; rfl
 | yld l => simp only [aC1, arQ, h]; rfl
theorem aAO (fuel : Nat) (ext : abI) : ∀ d, aa8 P sig fuel ext d = ayO P sig fuel ext d ∧ arR P sig fuel ext d = aoO P sig fuel ext d
 | 0 => ⟨by simp only [aa8, ayO], by simp only [arR, aoO]⟩
 | d + 1 => by
  obtain ⟨h1, h2⟩ := aAO fuel ext d
  exact ⟨by simp only [aa8, ayO, h1, h2, aJm], by simp only [arR, aoO, h1, h2, aHI]⟩
end
end Go.Vg
