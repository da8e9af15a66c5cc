/-
  A runner over the evaluator, and calls that have been run. Own work; no condition.
-/
import Derived.Test.YtebeijpmpjpgcaaGreatDoorClR3
set_option linter.unusedVariables false
set_option linter.unusedSimpArgs false
namespace Go.Vg
open Go Go.RowKit
structure Fn (α β : Type) where
 run : α → β
noncomputable def aGz {α : Type} (n : Nat) (x : α) : α := @Bool.rec (fun _ => α) x x (Nat.ble n 0)
noncomputable def aJc (l : List (Nat × AV)) (t : Nat) : AV :=
 @List.rec (Nat × AV) (fun _ => AV) .no (fun p _ ih => @Bool.rec (fun _ => AV) ih p.2 (Nat.beq p.1 t)) l
noncomputable def aMy (l : List (Nat × AV)) (t : Nat) : List (Nat × AV) :=
 @List.rec (Nat × AV) (fun _ => List (Nat × AV)) [] (fun p _ ih => @Bool.rec (fun _ => List (Nat × AV)) (p :: ih) ih (Nat.beq p.1 t)) l
noncomputable def ajL (σ : St) (x : Operand) : AV :=
 match x with
 | .tmp t => aJc σ.slots t
 | .const v => anE v
 | .func f => .fn f [] []
 | .global _ => .no
noncomputable def ay1 (dst : Option Nat) (v : AV) (σ : St) : Option St :=
 match σ with
 | ⟨sl, H, nx, n⟩ => aGz nx (match dst with
  | some t => match Nat.blt t n with
   | true => some ⟨(t, v) :: aMy sl t, H, Nat.succ nx, n⟩
   | false => some ⟨sl, H, Nat.succ nx, n⟩
  | none => some ⟨sl, H, Nat.succ nx, n⟩)
noncomputable def aMh (dst : Option Nat) (v : AV) (σ : St) : St :=
 match σ with
 | ⟨sl, H, nx, n⟩ => match dst with
  | some t => match Nat.blt t n with
   | true => ⟨(t, v) :: aMy sl t, H, nx, n⟩
   | false => ⟨sl, H, nx, n⟩
  | none => ⟨sl, H, nx, n⟩
noncomputable def ad3 (dst : Option Nat) (r : T AV) (σ : St) : Option St :=
 match r with
 | .ok v => ay1 dst v σ
 | r => match r.toO with
  | some v => ay1 dst v σ
  | none => none
def aNc (c a b : AV) : T AV :=
 match c with
 | .d .bool x => aCg x a b
 | _ => .bad
def aPF (P : Program) (op : BinOp) (xt : TypeId) (t : Ty) (a : t.T) (b : AV) : T AV :=
 match b with
 | .d u b => match t.agg with
  | true => aJD P op xt t a u b
  | false => match azP P t xt with
   | true => aOY op t a u b
   | false => .bad
 | .nsl => aJB P op xt t a
 | _ => .bad
def aPE (P : Program) (op : BinOp) (xt : TypeId) (c : Bool) (b : AV) : T AV :=
 match c with
 | true => anA P op xt .nili b
 | false => .bad
def aQn (P : Program) (op : BinOp) (xt : TypeId) (c : Bool) (a b : AV) : T AV :=
 match a with
 | .d t a => aPF P op xt t a b
 | .nili => aPE P op xt c b
 | a => anA P op xt a b
def aCE (i : Nat) (a : AV) : T AV :=
 match a with
 | .tup l => T.ofO l[i]?
 | _ => .bad
section
variable (P : Program) (sig : Sig) (pf : abO) (call : aeN)
noncomputable def aQK (o : Oper) (σ : St) : Option St := opR P sig pf call o σ
noncomputable def opK (o : Oper) : Fn St (Option St) :=
 match o.op with
 | .move x => ⟨fun σ => ay1 o.dst (ajL σ x) σ⟩
 | .assign x => ⟨fun σ => ay1 o.dst (ajL σ x) σ⟩
 | .pick c a b => ⟨fun σ => ad3 o.dst (aNc (ajL σ c) (ajL σ a) (ajL σ b)) σ⟩
 | .binOp op xt x y _ => ⟨fun σ => ad3 o.dst (aQn P op xt (aiV x || aiV y) (ajL σ x).soft (ajL σ y).soft) σ⟩
 | .unOp op _ x => ⟨fun σ => ad3 o.dst (aMF op (ajL σ x)) σ⟩
 | .load t a => ⟨fun σ => ad3 o.dst (an0 P σ.H t (ajL σ a)) σ⟩
 | .fieldAddr s x f => ⟨fun σ => ad3 o.dst (azH P σ.H s (ajL σ x) f) σ⟩
 | .field s x f => ⟨fun σ => ad3 o.dst (aq9 P s (ajL σ x) f) σ⟩
 | .indexAddr t x i => ⟨fun σ => ad3 o.dst (aqU P σ.H t (ajL σ x).soft (ajL σ i)) σ⟩
 | .index t x i => ⟨fun σ => ad3 o.dst (aqT P t (ajL σ x) (ajL σ i)) σ⟩
 | .extract t i => ⟨fun σ => ad3 o.dst (aCE i (ajL σ t)) σ⟩
 | _ => ⟨aQK P sig pf call o⟩
noncomputable def aMG (f g : Fn St (Option St)) : Fn St (Option St) := ⟨fun σ => match f.run σ with
 | some σ' => g.run σ'
 | none => none⟩
noncomputable def aCz (t : Nat) (want : Bool) (dst : Option Nat) (f g : Fn St (Option St)) (σ : St) (a : AV) : Option St :=
 match a with
 | .d .bool x => match asX x want with
  | true => match f.run (aMh (some t) (.d .bool x) σ) with
   | some σ' => g.run σ'
   | none => none
  | false => g.run (aMh dst .und (aMh (some t) (.d .bool x) σ))
 | .und => g.run (aMh dst .und σ)
 | _ => none
noncomputable def aKS (t : Nat) (want : Bool) (dst : Option Nat) (f g : Fn St (Option St)) : Fn St (Option St) := ⟨fun σ => aCz t want dst f g σ (aJc σ.slots t)⟩
noncomputable def aLa (ops : Array Oper) : List Oper → Fn St (Option St)
 | [] => ⟨some⟩
 | o :: rest => match o.guard with
  | none => aMG (opK P sig pf call o) (aLa ops rest)
  | some (j, want) => match abV ops j with
   | some t => aKS t want o.dst (opK P sig pf call o) (aLa ops rest)
   | none => ⟨fun _ => none⟩
noncomputable def aNW (f g : Fn St (Option (Exit × St))) : Fn St (Option (Exit × St)) := ⟨fun σ => match f.run σ with
 | some (.normal, σ') => g.run σ'
 | r => r⟩
noncomputable def aHf (f g : Fn St (Option (Exit × St))) (σ : St) (a : AV) : Option (Exit × St) :=
 match a with
 | .d .bool b => match (b : Bool) with
  | true => f.run σ
  | false => g.run σ
 | _ => none
noncomputable def aNQ (c : Operand) (f g : Fn St (Option (Exit × St))) : Fn St (Option (Exit × St)) := ⟨fun σ => aHf f g σ (ajL σ c)⟩
noncomputable def aeT (fuel : Nat) (rd : Option Nat) : Code → Fn St (Option (Exit × St))
 | .skip => ⟨fun σ => some (.normal, σ)⟩
 | .region _ ops draw => match draw with
  | false => ⟨fun σ => aDI ((aLa P sig pf call ops ops.toList).run σ) (aHX P sig pf call ops ops.toList σ)⟩
  | true => ⟨fun σ => aDI (aLU P sig pf call ops σ) (aJG P sig pf call ops (σ.forDraw (aDe sig) ops.toList))⟩
 | .seq x y => aNW (aeT fuel rd x) (aeT fuel rd y)
 | .cond c x y => aNQ c (aeT fuel rd x) (aeT fuel rd y)
 | .block id c => ⟨fun σ => aHq id ((aeT fuel rd c).run σ)⟩
 | .loop c => ⟨fun σ => aNm (aeT fuel rd c).run fuel σ⟩
 | .exit id => ⟨fun σ => some (.exit id, σ)⟩
 | .ret => ⟨fun σ => some (.ret, σ)⟩
 | .label _ => ⟨fun σ => some (.normal, σ)⟩
 | .scope c => ⟨fun σ => aJ4 ((aeT fuel rd c).run σ)⟩
 | c => ⟨ab6 P sig fuel pf call rd c⟩
noncomputable def aJN (fuel : Nat) : Code → St → Option (Exit × St) :=
 aL0 P (fun ops l => (aLa P sig pf call ops l).run) (fun rd c => (aeT P sig pf call fuel rd c).run)
noncomputable def aLk (fuel : Nat) : abO := fun f A R x =>
 match P.funcs[f]? with
 | some fn => match fn.body with
  | some code => match ac1 P f && Nat.ble (aiF A x).length fn.ntmps with
   | true => match aMQ P fn (aJN P sig pf call fuel code { slots := acW 0 (aiF A x), H := [], next := 0, n := fn.ntmps }) with
    | some (l, σ) => ak9 R (AV.maps (fun _ => false) (aDM σ.H) l)
    | none => none
   | false => none
  | none => none
 | none => none
noncomputable def aCK (fuel : Nat) : aeN := fun t args H next =>
 match t with
 | .fn f => match P.funcs[f]? with
  | some fn => match fn.body with
   | some code => match ac1 P f && Nat.ble args.length fn.ntmps with
    | true => aPC P fn next (aJN P sig pf call fuel code { slots := acW 0 args, H := H, next := next, n := fn.ntmps })
    | false => none
   | none => none
  | none => none
 | .yld l => match H.find l with
  | some (.loop r) => match Nat.beq args.length r.ps.size with
   | true => aE2 l (aHs l ((aeT P sig pf call fuel (some l) r.body).run) ((aeT P sig pf call fuel (some l) r.assign).run (anH { slots := r.slots, H := H, next := next, n := r.n } r.ps.toList args)))
   | false => none
  | _ => none
end
mutual
noncomputable def abF (P : Program) (sig : Sig) (fuel : Nat) (ext : abO) : Nat → abO
 | 0 => ext
 | d + 1 => aj5 ext (aLk P sig (abF P sig fuel ext d) (arK P sig fuel ext d) fuel)
noncomputable def arK (P : Program) (sig : Sig) (fuel : Nat) (ext : abO) : Nat → aeN
 | 0 => fun _ _ _ _ => none
 | d + 1 => aCK P sig (abF P sig fuel ext d) (arK P sig fuel ext d) fuel
end
section
variable {P : Program} {sig : Sig} {pf : abO} {call : aeN}
theorem aGy {α : Type} (n : Nat) (x : α) : aGz n x = x := by
 unfold aGz
 cases Nat.ble n 0 <;> rfl
theorem aCq (l : List (Nat × AV)) (t : Nat) : aJc l t = adB l t := by
 induction l with
 | nil => rfl
 | cons p r ih =>
  obtain ⟨k, v⟩ := p
  show @Bool.rec (fun _ => AV) (aJc r t) v (Nat.beq k t) = _
  simp only [adB]
  cases Nat.beq k t with
  | true => rfl
  | false => exact ih
theorem aG8 (l : List (Nat × AV)) (t : Nat) : aMy l t = del l t := by
 induction l with
 | nil => rfl
 | cons p r ih =>
  obtain ⟨k, v⟩ := p
  show @Bool.rec (fun _ => List (Nat × AV)) ((k, v) :: aMy r t) (aMy r t) (Nat.beq k t) = _
  simp only [del]
  cases Nat.beq k t with
  | true => exact ih
  | false => show (k, v) :: aMy r t = _; rw [ih]
theorem afN (σ : St) (x : Operand) : ajL σ x = σ.eval x := by
 cases x with
 | tmp t => exact aCq _ _
 | _ => rfl
theorem aFi (dst : Option Nat) (v : AV) (σ : St) : aMh dst v σ = σ.put dst v := by
 obtain ⟨sl, H, nx, n⟩ := σ
 unfold aMh St.put
 cases dst with
 | none => rfl
 | some t =>
  simp only [aG8]
  cases Nat.blt t n <;> rfl
theorem ao6 (dst : Option Nat) (v : AV) (σ : St) : ay1 dst v σ = some (σ.grow dst v []) := by
 obtain ⟨sl, H, nx, n⟩ := σ
 unfold ay1 St.grow St.put
 simp only [aGy]
 cases dst with
 | none => rfl
 | some t =>
  simp only [aG8, yS]
  cases Nat.blt t n <;> rfl
theorem T.toO_bind {α β : Type} (r : T α) (g : α → β) : (r.bind fun a => .ok (g a)).toO = r.toO.map g := by
 induction r with
 | ok a => rfl
 | ite b x y hx hy =>
  cases b with
  | true => exact hx
  | false => exact hy
 | @need p d x hx =>
  simp only [T.bind, T.toO]
  cases d with
  | isTrue _ => exact hx
  | isFalse _ => rfl
 | bad => rfl
theorem aGs (dst : Option Nat) (r : T AV) (σ : St) : ad3 dst r σ = aGt σ dst ((r.bind fun a => .ok (a, [])).toO) := by
 rw [T.toO_bind r (fun a => (a, ([] : List (Nat × Bk))))]
 unfold ad3
 split
 ·rename_i v
  exact ao6 dst v σ
 ·cases hr : r.toO with
  | none => rfl
  | some v => exact ao6 dst v σ
theorem aKB (o : Oper) (σ : St) : (opK P sig pf call o).run σ = opR P sig pf call o σ := by
 have hb : ∀ (r : T AV), (∀ K H arg, arg = σ.eval → H = σ.H → (evM P (aGH (aoX sig)) K H arg o) = r.bind fun a => .ok (a, [])) → (∀ f args ts, o.op ≠ .call ⟨.value f, args, ts⟩) → ad3 o.dst r σ = afM P sig pf o σ := by
  intro r hr hne
  unfold afM
  rw [aGs]
  have : evR P sig pf σ.next σ.H σ.eval o = (evM P (aGH (aoX sig)) σ.next σ.H σ.eval o).toO := by
   unfold evR
   split
   ·rename_i f args ts ho; exact absurd ho (hne f args ts)
   ·rfl
  rw [this, hr σ.next σ.H σ.eval rfl rfl]
 unfold opK
 split
 ·rename_i x ho
  show ay1 o.dst (ajL σ x) σ = _
  rw [ao6, afN]
  simp only [opR, ho, afM, evR, evM, evP, T.bind, T.toO, aGt]
 ·rename_i x ho
  show ay1 o.dst (ajL σ x) σ = _
  rw [ao6, afN]
  simp only [opR, ho, afM, evR, evM, evP, T.bind, T.toO, aGt]
 ·rename_i c a b ho
  show ad3 o.dst (aNc (ajL σ c) (ajL σ a) (ajL σ b)) σ = _
  simp only [afN, opR, ho]
  refine hb _ (fun K H arg e1 e2 => ?_) (by simp [ho])
  subst e1; subst e2
  simp only [evM, evP, ho]
  rfl
 ·rename_i op xt x y t ho
  show ad3 o.dst (aQn P op xt (aiV x || aiV y) (ajL σ x).soft (ajL σ y).soft) σ = _
  simp only [afN, opR, ho]
  refine hb _ (fun K H arg e1 e2 => ?_) (by simp [ho])
  subst e1; subst e2
  simp only [evM, evP, ho]
  rfl
 ·rename_i op t x ho
  show ad3 o.dst (aMF op (ajL σ x)) σ = _
  simp only [afN, opR, ho]
  refine hb _ (fun K H arg e1 e2 => ?_) (by simp [ho])
  subst e1; subst e2
  simp only [evM, evP, ho]
 ·rename_i t a ho
  show ad3 o.dst (an0 P σ.H t (ajL σ a)) σ = _
  simp only [afN, opR, ho]
  refine hb _ (fun K H arg e1 e2 => ?_) (by simp [ho])
  subst e1; subst e2
  simp only [evM, ho]
 ·rename_i s x f ho
  show ad3 o.dst (azH P σ.H s (ajL σ x) f) σ = _
  simp only [afN, opR, ho]
  refine hb _ (fun K H arg e1 e2 => ?_) (by simp [ho])
  subst e1; subst e2
  simp only [evM, evP, ho]
 ·rename_i s x f ho
  show ad3 o.dst (aq9 P s (ajL σ x) f) σ = _
  simp only [afN, opR, ho]
  refine hb _ (fun K H arg e1 e2 => ?_) (by simp [ho])
  subst e1; subst e2
  simp only [evM, evP, ho]
 ·rename_i t x i ho
  show ad3 o.dst (aqU P σ.H t (ajL σ x).soft (ajL σ i)) σ = _
  simp only [afN, opR, ho]
  refine hb _ (fun K H arg e1 e2 => ?_) (by simp [ho])
  subst e1; subst e2
  simp only [evM, evP, ho]
 ·rename_i t x i ho
  show ad3 o.dst (aqT P t (ajL σ x) (ajL σ i)) σ = _
  simp only [afN, opR, ho]
  refine hb _ (fun K H arg e1 e2 => ?_) (by simp [ho])
  subst e1; subst e2
  simp only [evM, evP, ho]
 ·rename_i t i ho
  show ad3 o.dst (aCE i (ajL σ t)) σ = _
  simp only [afN, opR, ho]
  refine hb _ (fun K H arg e1 e2 => ?_) (by simp [ho])
  subst e1; subst e2
  simp only [evM, evP, ho]
  rfl
 ·rfl
theorem amI (ops : Array Oper) : ∀ (l : List Oper) (σ : St), (aLa P sig pf call ops l).run σ = aAx P sig pf call ops l σ
 | [], _ => rfl
 | o :: rest, σ => by
  simp only [aLa, aAx]
  cases hg : o.guard with
  | none =>
   simp only [aMG, aKB]
   cases opR P sig pf call o σ with
   | none => rfl
   | some s => exact amI ops rest s
  | some jw =>
   obtain ⟨j, want⟩ := jw
   simp only
   cases ht : abV ops j with
   | none => rfl
   | some t =>
    simp only [aKS, aCq, aCz]
    split
    ·rename_i x hx
     simp only [aFi, aKB, hx]
     cases hsb : asX x want with
     | true =>
      simp only
      cases opR P sig pf call o (σ.put (some t) (.d .bool x)) with
      | none => rfl
      | some s => exact amI ops rest s
     | false => exact amI ops rest _
    ·rename_i hx
     simp only [aFi, hx]; exact amI ops rest _
    ·rename_i h1 h2
     split
     ·rename_i x hx; exact absurd hx (h1 x)
     ·rename_i hx; exact absurd hx h2
     ·rfl
theorem afR {fuel : Nat} {rd : Option Nat} : ∀ (c : Code) (σ : St), (aeT P sig pf call fuel rd c).run σ = ab6 P sig fuel pf call rd c σ
 | .skip, _ => by simp only [aeT, ab6]
 | .region _ ops draw, σ => by
  cases draw with
  | false => simp only [aeT, ab6, amI]
  | true => simp only [aeT, ab6]
 | .seq x y, σ => by
  have h : (aeT P sig pf call fuel rd y).run = ab6 P sig fuel pf call rd y := funext (afR y)
  simp only [aeT, ab6, aNW, afR x, h]
  cases ab6 P sig fuel pf call rd x σ with
  | none => rfl
  | some p =>
   obtain ⟨e, s⟩ := p
   cases e <;> rfl
 | .cond c x y, σ => by
  simp only [aeT, ab6, aNQ, aHf, afN]
  split
  ·rename_i b hb
   simp only [hb]
   cases b with
   | true => exact afR x σ
   | false => exact afR y σ
  ·rename_i h1
   split
   ·rename_i b hb; exact absurd hb (h1 b)
   ·rfl
 | .block id c, σ => by simp only [aeT, ab6, afR c]
 | .loop c, σ => by
  have h : (aeT P sig pf call fuel rd c).run = ab6 P sig fuel pf call rd c := funext (afR c)
  simp only [aeT, ab6, h]
 | .exit _, _ => by simp only [aeT, ab6]
 | .ret, _ => by simp only [aeT, ab6]
 | .label _, _ => by simp only [aeT, ab6]
 | .scope c, σ => by simp only [aeT, ab6, afR c]
 | .rangeFunc _ _ _ _, _ => by simp only [aeT]
 | .goto _, _ => by simp only [aeT]
 | .refuse _, _ => by simp only [aeT]
theorem aCT (fuel : Nat) : aJN P sig pf call fuel = aEl P sig fuel pf call := by
 unfold aJN aEl
 rw [show (fun ops l => (aLa P sig pf call ops l).run) = aAx P sig pf call from funext fun ops => funext fun l => funext fun σ => amI ops l σ]
 rw [show (fun rd c => (aeT P sig pf call fuel rd c).run) = ab6 P sig fuel pf call from funext fun rd => funext fun c => funext fun σ => afR c σ]
theorem aIB (fuel : Nat) : aLk P sig pf call fuel = aFj P sig fuel pf call := by
 funext f A R x
 unfold aLk aFj
 simp only [aCT]
 rfl
theorem aG0 (fuel : Nat) : aCK P sig pf call fuel = arJ P sig fuel pf call := by
 funext t args H next
 have h : ∀ rd c, (aeT P sig pf call fuel rd c).run = ab6 P sig fuel pf call rd c := fun rd c => funext (afR c)
 cases t with
 | fn f => simp only [aCK, arJ, aCT]; rfl
 | yld l => simp only [aCK, arJ, h]; rfl
theorem apT (fuel : Nat) (ext : abO) : ∀ d, abF P sig fuel ext d = ax7 P sig fuel ext d ∧ arK P sig fuel ext d = an9 P sig fuel ext d
 | 0 => ⟨by simp only [abF, ax7], by simp only [arK, an9]⟩
 | d + 1 => by
  obtain ⟨h1, h2⟩ := apT fuel ext d
  exact ⟨by simp only [abF, ax7, h1, h2, aIB], by simp only [arK, an9, h1, h2, aG0]⟩
end
end Go.Vg
