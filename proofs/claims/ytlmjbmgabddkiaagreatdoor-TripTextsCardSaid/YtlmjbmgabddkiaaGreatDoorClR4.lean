/-
  A runner over the evaluator, and calls that have been run. Own work; no condition.
-/
import Derived.Test.YtlmjbmgabddkiaaGreatDoorClR3
set_option linter.unusedVariables false
set_option linter.unusedSimpArgs false
namespace Go.Vg
open Go Go.RowKit
structure Fn (α β : Type) where
 run : α → β
noncomputable def aG6 {α : Type} (n : Nat) (x : α) : α := @Bool.rec (fun _ => α) x x (Nat.ble n 0)
noncomputable def aJQ (l : List (Nat × AV)) (t : Nat) : AV :=
 @List.rec (Nat × AV) (fun _ => AV) .no (fun p _ ih => @Bool.rec (fun _ => AV) ih p.2 (Nat.beq p.1 t)) l
noncomputable def aMS (l : List (Nat × AV)) (t : Nat) : List (Nat × AV) :=
 @List.rec (Nat × AV) (fun _ => List (Nat × AV)) [] (fun p _ ih => @Bool.rec (fun _ => List (Nat × AV)) (p :: ih) ih (Nat.beq p.1 t)) l
noncomputable def ajC (σ : St) (x : Operand) : AV :=
 match x with
 | .tmp t => aJQ σ.slots t
 | .const v => anC v
 | .func f => .fn f [] []
 | .global _ => .no
noncomputable def ay3 (dst : Option Nat) (v : AV) (σ : St) : Option St :=
 match σ with
 | ⟨sl, H, nx, n⟩ => aG6 nx (match dst with
  | some t => match Nat.blt t n with
   | true => some ⟨(t, v) :: aMS sl t, H, Nat.succ nx, n⟩
   | false => some ⟨sl, H, Nat.succ nx, n⟩
  | none => some ⟨sl, H, Nat.succ nx, n⟩)
noncomputable def aMO (dst : Option Nat) (v : AV) (σ : St) : St :=
 match σ with
 | ⟨sl, H, nx, n⟩ => match dst with
  | some t => match Nat.blt t n with
   | true => ⟨(t, v) :: aMS sl t, H, nx, n⟩
   | false => ⟨sl, H, nx, n⟩
  | none => ⟨sl, H, nx, n⟩
noncomputable def adL (dst : Option Nat) (r : T AV) (σ : St) : Option St :=
 match r with
 | .ok v => ay3 dst v σ
 | r => match r.toO with
  | some v => ay3 dst v σ
  | none => none
def aNA (c a b : AV) : T AV :=
 match c with
 | .d .bool x => aCh x a b
 | _ => .bad
def aO6 (P : Program) (op : BinOp) (xt : TypeId) (t : Ty) (a : t.T) (b : AV) : T AV :=
 match b with
 | .d u b => match t.agg with
  | true => aKh P op xt t a u b
  | false => match azQ P t xt with
   | true => aOz op t a u b
   | false => .bad
 | .nsl => aKf P op xt t a
 | _ => .bad
def aO5 (P : Program) (op : BinOp) (xt : TypeId) (c : Bool) (b : AV) : T AV :=
 match c with
 | true => am7 P op xt .nili b
 | false => .bad
def aPi (P : Program) (op : BinOp) (xt : TypeId) (c : Bool) (a b : AV) : T AV :=
 match a with
 | .d t a => aO6 P op xt t a b
 | .nili => aO5 P op xt c b
 | a => am7 P op xt a b
def aCH (i : Nat) (a : AV) : T AV :=
 match a with
 | .tup l => T.ofO l[i]?
 | _ => .bad
section
variable (P : Program) (sig : Sig) (pf : aa8) (call : aeO)
noncomputable def aPq (o : Oper) (σ : St) : Option St := opR P sig pf call o σ
noncomputable def opK (o : Oper) : Fn St (Option St) :=
 match o.op with
 | .move x => ⟨fun σ => ay3 o.dst (ajC σ x) σ⟩
 | .assign x => ⟨fun σ => ay3 o.dst (ajC σ x) σ⟩
 | .pick c a b => ⟨fun σ => adL o.dst (aNA (ajC σ c) (ajC σ a) (ajC σ b)) σ⟩
 | .binOp op xt x y _ => ⟨fun σ => adL o.dst (aPi P op xt (aiE x || aiE y) (ajC σ x).soft (ajC σ y).soft) σ⟩
 | .unOp op _ x => ⟨fun σ => adL o.dst (aMZ op (ajC σ x)) σ⟩
 | .load t a => ⟨fun σ => adL o.dst (aqG P σ.H t (ajC σ a)) σ⟩
 | .fieldAddr s x f => ⟨fun σ => adL o.dst (azL P σ.H s (ajC σ x) f) σ⟩
 | .field s x f => ⟨fun σ => adL o.dst (aq3 P s (ajC σ x) f) σ⟩
 | .indexAddr t x i => ⟨fun σ => adL o.dst (aqN P σ.H t (ajC σ x).soft (ajC σ i)) σ⟩
 | .index t x i => ⟨fun σ => adL o.dst (aqM P t (ajC σ x) (ajC σ i)) σ⟩
 | .extract t i => ⟨fun σ => adL o.dst (aCH i (ajC σ t)) σ⟩
 | _ => ⟨aPq P sig pf call o⟩
noncomputable def aM0 (f g : Fn St (Option St)) : Fn St (Option St) := ⟨fun σ => match f.run σ with
 | some σ' => g.run σ'
 | none => none⟩
noncomputable def aCD (t : Nat) (want : Bool) (dst : Option Nat) (f g : Fn St (Option St)) (σ : St) (a : AV) : Option St :=
 match a with
 | .d .bool x => match asI x want with
  | true => match f.run (aMO (some t) (.d .bool x) σ) with
   | some σ' => g.run σ'
   | none => none
  | false => g.run (aMO dst .und (aMO (some t) (.d .bool x) σ))
 | .und => g.run (aMO dst .und σ)
 | _ => none
noncomputable def aLk (t : Nat) (want : Bool) (dst : Option Nat) (f g : Fn St (Option St)) : Fn St (Option St) := ⟨fun σ => aCD t want dst f g σ (aJQ σ.slots t)⟩
noncomputable def aLG (ops : Array Oper) : List Oper → Fn St (Option St)
 | [] => ⟨some⟩
 | o :: rest => match o.guard with
  | none => aM0 (opK P sig pf call o) (aLG ops rest)
  | some (j, want) => match abC ops j with
   | some t => aLk t want o.dst (opK P sig pf call o) (aLG ops rest)
   | none => ⟨fun _ => none⟩
noncomputable def aOb (f g : Fn St (Option (Exit × St))) : Fn St (Option (Exit × St)) := ⟨fun σ => match f.run σ with
 | some (.normal, σ') => g.run σ'
 | r => r⟩
noncomputable def aHL (f g : Fn St (Option (Exit × St))) (σ : St) (a : AV) : Option (Exit × St) :=
 match a with
 | .d .bool b => match (b : Bool) with
  | true => f.run σ
  | false => g.run σ
 | _ => none
noncomputable def aN5 (c : Operand) (f g : Fn St (Option (Exit × St))) : Fn St (Option (Exit × St)) := ⟨fun σ => aHL f g σ (ajC σ c)⟩
noncomputable def aeB (fuel : Nat) (rd : Option Nat) : Code → Fn St (Option (Exit × St))
 | .skip => ⟨fun σ => some (.normal, σ)⟩
 | .region _ ops draw => match draw with
  | false => ⟨fun σ => aDV ((aLG P sig pf call ops ops.toList).run σ) (aIy P sig pf call ops ops.toList σ)⟩
  | true => ⟨fun σ => aDV (aMu P sig pf call ops σ) (aKj P sig pf call ops (σ.forDraw (aDe sig) ops.toList))⟩
 | .seq x y => aOb (aeB fuel rd x) (aeB fuel rd y)
 | .cond c x y => aN5 c (aeB fuel rd x) (aeB fuel rd y)
 | .block id c => ⟨fun σ => aHZ id ((aeB fuel rd c).run σ)⟩
 | .loop c => ⟨fun σ => aGJ (aeB fuel rd c).run fuel σ⟩
 | .exit id => ⟨fun σ => some (.exit id, σ)⟩
 | .ret => ⟨fun σ => some (.ret, σ)⟩
 | .label _ => ⟨fun σ => some (.normal, σ)⟩
 | .scope c => ⟨fun σ => aKH ((aeB fuel rd c).run σ)⟩
 | c => ⟨abV P sig fuel pf call rd c⟩
noncomputable def aKs (fuel : Nat) : Code → St → Option (Exit × St) :=
 aMB P (fun ops l => (aLG P sig pf call ops l).run) (fun rd c => (aeB P sig pf call fuel rd c).run)
noncomputable def aLT (fuel : Nat) : aa8 := fun f A R x =>
 match P.funcs[f]? with
 | some fn => match fn.body with
  | some code => match acF P f && Nat.ble (aiM A x).length fn.ntmps with
   | true => match aNe P fn (aKs P sig pf call fuel code { slots := acD 0 (aiM A x), H := [], next := 0, n := fn.ntmps }) with
    | some (l, σ) => ak3 R (AV.maps (fun _ => false) (aD0 σ.H) l)
    | none => none
   | false => none
  | none => none
 | none => none
noncomputable def aCM (fuel : Nat) : aeO := fun t args H next =>
 match t with
 | .fn f => match P.funcs[f]? with
  | some fn => match fn.body with
   | some code => match acF P f && Nat.ble args.length fn.ntmps with
    | true => aO3 P fn next (aKs P sig pf call fuel code { slots := acD 0 args, H := H, next := next, n := fn.ntmps })
    | false => none
   | none => none
  | none => none
 | .yld l => match H.find l with
  | some (.loop r) => match Nat.beq args.length r.ps.size with
   | true => aFj l (aH1 l ((aeB P sig pf call fuel (some l) r.body).run) ((aeB P sig pf call fuel (some l) r.assign).run (anF { slots := r.slots, H := H, next := next, n := r.n } r.ps.toList args)))
   | false => none
  | _ => none
end
mutual
noncomputable def aaZ (P : Program) (sig : Sig) (fuel : Nat) (ext : aa8) : Nat → aa8
 | 0 => ext
 | d + 1 => aiH ext (aLT P sig (aaZ P sig fuel ext d) (arD P sig fuel ext d) fuel)
noncomputable def arD (P : Program) (sig : Sig) (fuel : Nat) (ext : aa8) : Nat → aeO
 | 0 => fun _ _ _ _ => none
 | d + 1 => aCM P sig (aaZ P sig fuel ext d) (arD P sig fuel ext d) fuel
end
section
variable {P : Program} {sig : Sig} {pf : aa8} {call : aeO}
theorem aG5 {α : Type} (n : Nat) (x : α) : aG6 n x = x := by
 unfold aG6
 cases Nat.ble n 0 <;> rfl
theorem aCt (l : List (Nat × AV)) (t : Nat) : aJQ l t = adG l t := by
 induction l with
 | nil => rfl
 | cons p r ih =>
  obtain ⟨k, v⟩ := p
  show @Bool.rec (fun _ => AV) (aJQ r t) v (Nat.beq k t) = _
  simp only [adG]
  cases Nat.beq k t with
  | true => rfl
  | false => exact ih
theorem aHE (l : List (Nat × AV)) (t : Nat) : aMS l t = del l t := by
 induction l with
 | nil => rfl
 | cons p r ih =>
  obtain ⟨k, v⟩ := p
  show @Bool.rec (fun _ => List (Nat × AV)) ((k, v) :: aMS r t) (aMS r t) (Nat.beq k t) = _
  simp only [del]
  cases Nat.beq k t with
  | true => exact ih
  | false => show (k, v) :: aMS r t = _; rw [ih]
theorem ae5 (σ : St) (x : Operand) : ajC σ x = σ.eval x := by
 cases x with
 | tmp t => exact aCt _ _
 | _ => rfl
theorem aFH (dst : Option Nat) (v : AV) (σ : St) : aMO dst v σ = σ.put dst v := by
 obtain ⟨sl, H, nx, n⟩ := σ
 unfold aMO St.put
 cases dst with
 | none => rfl
 | some t =>
  simp only [aHE]
  cases Nat.blt t n <;> rfl
theorem aoU (dst : Option Nat) (v : AV) (σ : St) : ay3 dst v σ = some (σ.grow dst v []) := by
 obtain ⟨sl, H, nx, n⟩ := σ
 unfold ay3 St.grow St.put
 simp only [aG5]
 cases dst with
 | none => rfl
 | some t =>
  simp only [aHE, yk]
  cases Nat.blt t n <;> rfl
theorem T.toO_bind {α β : Type} (r : T α) (g : α → β) : (r.bind fun a => .ok (g a)).toO = r.toO.map g := by
 induction r with
 | ok a => rfl
 | ite b x y hx hy =>
  cases b with
  | true => exact hx
  | false => exact hy
 | @need p d x hx =>
  simp only [T.bind, T.toO]
  cases d with
  | isTrue _ => exact hx
  | isFalse _ => rfl
 | bad => rfl
theorem aG0 (dst : Option Nat) (r : T AV) (σ : St) : adL dst r σ = aG1 σ dst ((r.bind fun a => .ok (a, [])).toO) := by
 rw [T.toO_bind r (fun a => (a, ([] : List (Nat × Bk))))]
 unfold adL
 split
 ·rename_i v
  exact aoU dst v σ
 ·cases hr : r.toO with
  | none => rfl
  | some v => exact aoU dst v σ
theorem aLf (o : Oper) (σ : St) : (opK P sig pf call o).run σ = opR P sig pf call o σ := by
 have hb : ∀ (r : T AV), (∀ K H arg, arg = σ.eval → H = σ.H → (evM P (aHe (aoM sig)) K H arg o) = r.bind fun a => .ok (a, [])) → (∀ f args ts, o.op ≠ .call ⟨.value f, args, ts⟩) → adL o.dst r σ = ae4 P sig pf o σ := by
  intro r hr hne
  unfold ae4
  rw [aG0]
  have : evR P sig pf σ.next σ.H σ.eval o = (evM P (aHe (aoM sig)) σ.next σ.H σ.eval o).toO := by
   unfold evR
   split
   ·rename_i f args ts ho; exact absurd ho (hne f args ts)
   ·rfl
  rw [this, hr σ.next σ.H σ.eval rfl rfl]
 unfold opK
 split
 ·rename_i x ho
  show ay3 o.dst (ajC σ x) σ = _
  rw [aoU, ae5]
  simp only [opR, ho, ae4, evR, evM, evP, T.bind, T.toO, aG1]
 ·rename_i x ho
  show ay3 o.dst (ajC σ x) σ = _
  rw [aoU, ae5]
  simp only [opR, ho, ae4, evR, evM, evP, T.bind, T.toO, aG1]
 ·rename_i c a b ho
  show adL o.dst (aNA (ajC σ c) (ajC σ a) (ajC σ b)) σ = _
  simp only [ae5, opR, ho]
  refine hb _ (fun K H arg e1 e2 => ?_) (by simp [ho])
  subst e1; subst e2
  simp only [evM, evP, ho]
  rfl
 ·rename_i op xt x y t ho
  show adL o.dst (aPi P op xt (aiE x || aiE y) (ajC σ x).soft (ajC σ y).soft) σ = _
  simp only [ae5, opR, ho]
  refine hb _ (fun K H arg e1 e2 => ?_) (by simp [ho])
  subst e1; subst e2
  simp only [evM, evP, ho]
  rfl
 ·rename_i op t x ho
  show adL o.dst (aMZ op (ajC σ x)) σ = _
  simp only [ae5, opR, ho]
  refine hb _ (fun K H arg e1 e2 => ?_) (by simp [ho])
  subst e1; subst e2
  simp only [evM, evP, ho]
 ·rename_i t a ho
  show adL o.dst (aqG P σ.H t (ajC σ a)) σ = _
  simp only [ae5, opR, ho]
  refine hb _ (fun K H arg e1 e2 => ?_) (by simp [ho])
  subst e1; subst e2
  simp only [evM, ho]
 ·rename_i s x f ho
  show adL o.dst (azL P σ.H s (ajC σ x) f) σ = _
  simp only [ae5, opR, ho]
  refine hb _ (fun K H arg e1 e2 => ?_) (by simp [ho])
  subst e1; subst e2
  simp only [evM, evP, ho]
 ·rename_i s x f ho
  show adL o.dst (aq3 P s (ajC σ x) f) σ = _
  simp only [ae5, opR, ho]
  refine hb _ (fun K H arg e1 e2 => ?_) (by simp [ho])
  subst e1; subst e2
  simp only [evM, evP, ho]
 ·rename_i t x i ho
  show adL o.dst (aqN P σ.H t (ajC σ x).soft (ajC σ i)) σ = _
  simp only [ae5, opR, ho]
  refine hb _ (fun K H arg e1 e2 => ?_) (by simp [ho])
  subst e1; subst e2
  simp only [evM, evP, ho]
 ·rename_i t x i ho
  show adL o.dst (aqM P t (ajC σ x) (ajC σ i)) σ = _
  simp only [ae5, opR, ho]
  refine hb _ (fun K H arg e1 e2 => ?_) (by simp [ho])
  subst e1; subst e2
  simp only [evM, evP, ho]
 ·rename_i t i ho
  show adL o.dst (aCH i (ajC σ t)) σ = _
  simp only [ae5, opR, ho]
  refine hb _ (fun K H arg e1 e2 => ?_) (by simp [ho])
  subst e1; subst e2
  simp only [evM, evP, ho]
  rfl
 ·rfl
theorem amB (ops : Array Oper) : ∀ (l : List Oper) (σ : St), (aLG P sig pf call ops l).run σ = aAA P sig pf call ops l σ
 | [], _ => rfl
 | o :: rest, σ => by
  simp only [aLG, aAA]
  cases hg : o.guard with
  | none =>
   simp only [aM0, aLf]
   cases opR P sig pf call o σ with
   | none => rfl
   | some s => exact amB ops rest s
  | some jw =>
   obtain ⟨j, want⟩ := jw
   simp only
   cases ht : abC ops j with
   | none => rfl
   | some t =>
    simp only [aLk, aCt, aCD]
    split
    ·rename_i x hx
     simp only [aFH, aLf, hx]
     cases hsb : asI x want with
     | true =>
      simp only
      cases opR P sig pf call o (σ.put (some t) (.d .bool x)) with
      | none => rfl
      | some s => exact amB ops rest s
     | false => exact amB ops rest _
    ·rename_i hx
     simp only [aFH, hx]; exact amB ops rest _
    ·rename_i h1 h2
     split
     ·rename_i x hx; exact absurd hx (h1 x)
     ·rename_i hx; exact absurd hx h2
     ·rfl
theorem ae9 {fuel : Nat} {rd : Option Nat} : ∀ (c : Code) (σ : St), (aeB P sig pf call fuel rd c).run σ = abV P sig fuel pf call rd c σ
 | .skip, _ => by simp only [aeB, abV]
 | .region _ ops draw, σ => by
  cases draw with
  | false => simp only [aeB, abV, amB]
  | true => simp only [aeB, abV]
 | .seq x y, σ => by
  have h : (aeB P sig pf call fuel rd y).run = abV P sig fuel pf call rd y := funext (ae9 y)
  simp only [aeB, abV, aOb, ae9 x, h]
  cases abV P sig fuel pf call rd x σ with
  | none => rfl
  | some p =>
   obtain ⟨e, s⟩ := p
   cases e <;> rfl
 | .cond c x y, σ => by
  simp only [aeB, abV, aN5, aHL, ae5]
  split
  ·rename_i b hb
   simp only [hb]
   cases b with
   | true => exact ae9 x σ
   | false => exact ae9 y σ
  ·rename_i h1
   split
   ·rename_i b hb; exact absurd hb (h1 b)
   ·rfl
 | .block id c, σ => by simp only [aeB, abV, ae9 c]
 | .loop c, σ => by
  have h : (aeB P sig pf call fuel rd c).run = abV P sig fuel pf call rd c := funext (ae9 c)
  simp only [aeB, abV, h]
 | .exit _, _ => by simp only [aeB, abV]
 | .ret, _ => by simp only [aeB, abV]
 | .label _, _ => by simp only [aeB, abV]
 | .scope c, σ => by simp only [aeB, abV, ae9 c]
 | .rangeFunc _ _ _ _, _ => by simp only [aeB]
 | .goto _, _ => by simp only [aeB]
 | .refuse _, _ => by simp only [aeB]
theorem aCT (fuel : Nat) : aKs P sig pf call fuel = aEu P sig fuel pf call := by
 unfold aKs aEu
 rw [show (fun ops l => (aLG P sig pf call ops l).run) = aAA P sig pf call from funext fun ops => funext fun l => funext fun σ => amB ops l σ]
 rw [show (fun rd c => (aeB P sig pf call fuel rd c).run) = abV P sig fuel pf call from funext fun rd => funext fun c => funext fun σ => ae9 c σ]
theorem aJd (fuel : Nat) : aLT P sig pf call fuel = aFI P sig fuel pf call := by
 funext f A R x
 unfold aLT aFI
 simp only [aCT]
 rfl
theorem aHw (fuel : Nat) : aCM P sig pf call fuel = arC P sig fuel pf call := by
 funext t args H next
 have h : ∀ rd c, (aeB P sig pf call fuel rd c).run = abV P sig fuel pf call rd c := fun rd c => funext (ae9 c)
 cases t with
 | fn f => simp only [aCM, arC, aCT]; rfl
 | yld l => simp only [aCM, arC, h]; rfl
theorem aAB (fuel : Nat) (ext : aa8) : ∀ d, aaZ P sig fuel ext d = ayD P sig fuel ext d ∧ arD P sig fuel ext d = an6 P sig fuel ext d
 | 0 => ⟨by simp only [aaZ, ayD], by simp only [arD, an6]⟩
 | d + 1 => by
  obtain ⟨h1, h2⟩ := aAB fuel ext d
  exact ⟨by simp only [aaZ, ayD, h1, h2, aJd], by simp only [arD, an6, h1, h2, aHw]⟩
end
end Go.Vg
