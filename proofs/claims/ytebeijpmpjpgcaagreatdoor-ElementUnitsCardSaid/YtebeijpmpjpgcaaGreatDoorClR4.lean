/-
  A runner over the evaluator, and calls that have been run. Own work; no condition.
-/
import Derived.Test.YtebeijpmpjpgcaaGreatDoorClR3
set_option linter.unusedVariables false
set_option linter.unusedSimpArgs false
namespace Go.Vg
open Go Go.RowKit
structure Fn (α β : Type) where
 run : α → β
noncomputable def aGT {α : Type} (n : Nat) (x : α) : α := @Bool.rec (fun _ => α) x x (Nat.ble n 0)
noncomputable def aGR {α : Type} (n : Nat) (f : Nat → α) : α := @Nat.rec (fun _ => α) (f 0) (fun m _ => f (Nat.succ m)) n
theorem aGQ {α : Type} (n : Nat) (f : Nat → α) : aGR n f = f n := by cases n <;> rfl
noncomputable def aIu {α : Type} (σ : St) (f : St → α) : α :=
 match σ with
 | ⟨sl, H, nx, n⟩ => aGR n fun n => aGR nx fun nx => f ⟨sl, H, nx, n⟩
theorem aB2 {α : Type} (σ : St) (f : St → α) : aIu σ f = f σ := by simp only [aIu, aGQ]
noncomputable def aLv (r : Option St) : Option St :=
 match r with
 | some σ => aIu σ some
 | none => none
theorem aIv (r : Option St) : aLv r = r := by cases r <;> simp only [aLv, aB2]
noncomputable def aIt (r : Option (Exit × St)) : Option (Exit × St) :=
 match r with
 | some (e, σ) => aIu σ fun σ => some (e, σ)
 | none => none
theorem aoY (r : Option (Exit × St)) : aIt r = r := by cases r <;> simp only [aIt, aB2]
noncomputable def aJB (l : List (Nat × AV)) (t : Nat) : AV :=
 @List.rec (Nat × AV) (fun _ => AV) .no (fun p _ ih => @Bool.rec (fun _ => AV) ih p.2 (Nat.beq p.1 t)) l
noncomputable def aMY (l : List (Nat × AV)) (t : Nat) : List (Nat × AV) :=
 @List.rec (Nat × AV) (fun _ => List (Nat × AV)) [] (fun p _ ih => @Bool.rec (fun _ => List (Nat × AV)) (p :: ih) ih (Nat.beq p.1 t)) l
noncomputable def ajO (σ : St) (x : Operand) : AV :=
 match x with
 | .tmp t => aJB σ.slots t
 | .const v => anH v
 | .func f => .fn f [] []
 | .global _ => .no
noncomputable def azE (dst : Option Nat) (v : AV) (σ : St) : Option St :=
 match σ with
 | ⟨sl, H, nx, n⟩ => aGT nx (match dst with
  | some t => match Nat.blt t n with
   | true => some ⟨(t, v) :: aMY sl t, H, Nat.succ nx, n⟩
   | false => some ⟨sl, H, Nat.succ nx, n⟩
  | none => some ⟨sl, H, Nat.succ nx, n⟩)
noncomputable def aMH (dst : Option Nat) (v : AV) (σ : St) : St :=
 match σ with
 | ⟨sl, H, nx, n⟩ => match dst with
  | some t => match Nat.blt t n with
   | true => ⟨(t, v) :: aMY sl t, H, nx, n⟩
   | false => ⟨sl, H, nx, n⟩
  | none => ⟨sl, H, nx, n⟩
noncomputable def ad3 (dst : Option Nat) (r : T AV) (σ : St) : Option St :=
 match r with
 | .ok v => azE dst v σ
 | r => match r.toO with
  | some v => azE dst v σ
  | none => none
def aNF (c a b : AV) : T AV :=
 match c with
 | .d .bool x => aCm x a b
 | _ => .bad
def aQa (P : Program) (op : BinOp) (xt : TypeId) (t : Ty) (a : t.T) (b : AV) : T AV :=
 match b with
 | .d u b => match t.agg with
  | true => aJ5 P op xt t a u b
  | false => match az2 P t xt with
   | true => aPi op t a u b
   | false => .bad
 | .nsl => aJ3 P op xt t a
 | _ => .bad
def aP9 (P : Program) (op : BinOp) (xt : TypeId) (c : Bool) (b : AV) : T AV :=
 match c with
 | true => anE P op xt .nili b
 | false => .bad
def aQw (P : Program) (op : BinOp) (xt : TypeId) (c : Bool) (a b : AV) : T AV :=
 match a with
 | .d t a => aQa P op xt t a b
 | .nili => aP9 P op xt c b
 | a => anE P op xt a b
def aCO (i : Nat) (a : AV) : T AV :=
 match a with
 | .tup l => T.ofO l[i]?
 | _ => .bad
section
variable (P : Program) (sig : Sig) (pf : abO) (call : aeN)
noncomputable def aQH (o : Oper) (σ : St) : Option St := aLv (opR P sig pf call o σ)
noncomputable def opK (o : Oper) : Fn St (Option St) :=
 match o.op with
 | .move x => ⟨fun σ => azE o.dst (ajO σ x) σ⟩
 | .assign x => ⟨fun σ => azE o.dst (ajO σ x) σ⟩
 | .pick c a b => ⟨fun σ => ad3 o.dst (aNF (ajO σ c) (ajO σ a) (ajO σ b)) σ⟩
 | .binOp op xt x y _ => ⟨fun σ => ad3 o.dst (aQw P op xt (aiX x || aiX y) (ajO σ x).soft (ajO σ y).soft) σ⟩
 | .unOp op _ x => ⟨fun σ => ad3 o.dst (aM5 op (ajO σ x)) σ⟩
 | .load t a => ⟨fun σ => ad3 o.dst (an3 P σ.H t (ajO σ a)) σ⟩
 | .fieldAddr s x f => ⟨fun σ => ad3 o.dst (azU P σ.H s (ajO σ x) f) σ⟩
 | .field s x f => ⟨fun σ => ad3 o.dst (arD P s (ajO σ x) f) σ⟩
 | .indexAddr t x i => ⟨fun σ => ad3 o.dst (aqY P σ.H t (ajO σ x).soft (ajO σ i)) σ⟩
 | .index t x i => ⟨fun σ => ad3 o.dst (aqX P t (ajO σ x) (ajO σ i)) σ⟩
 | .extract t i => ⟨fun σ => ad3 o.dst (aCO i (ajO σ t)) σ⟩
 | _ => ⟨aQH P sig pf call o⟩
noncomputable def aM6 (f g : Fn St (Option St)) : Fn St (Option St) := ⟨fun σ => match f.run σ with
 | some σ' => g.run σ'
 | none => none⟩
noncomputable def aCJ (t : Nat) (want : Bool) (dst : Option Nat) (f g : Fn St (Option St)) (σ : St) (a : AV) : Option St :=
 match a with
 | .d .bool x => match as3 x want with
  | true => match f.run (aMH (some t) (.d .bool x) σ) with
   | some σ' => g.run σ'
   | none => none
  | false => g.run (aMH dst .und (aMH (some t) (.d .bool x) σ))
 | .und => g.run (aMH dst .und σ)
 | _ => none
noncomputable def aLh (t : Nat) (want : Bool) (dst : Option Nat) (f g : Fn St (Option St)) : Fn St (Option St) := ⟨fun σ => aCJ t want dst f g σ (aJB σ.slots t)⟩
noncomputable def aLB (ops : Array Oper) : List Oper → Fn St (Option St)
 | [] => ⟨some⟩
 | o :: rest => match o.guard with
  | none => aM6 (opK P sig pf call o) (aLB ops rest)
  | some (j, want) => match abV ops j with
   | some t => aLh t want o.dst (opK P sig pf call o) (aLB ops rest)
   | none => ⟨fun _ => none⟩
noncomputable def aOm (f g : Fn St (Option (Exit × St))) : Fn St (Option (Exit × St)) := ⟨fun σ => match f.run σ with
 | some (.normal, σ') => g.run σ'
 | r => r⟩
noncomputable def aHA (f g : Fn St (Option (Exit × St))) (σ : St) (a : AV) : Option (Exit × St) :=
 match a with
 | .d .bool b => match (b : Bool) with
  | true => f.run σ
  | false => g.run σ
 | _ => none
noncomputable def aOh (c : Operand) (f g : Fn St (Option (Exit × St))) : Fn St (Option (Exit × St)) := ⟨fun σ => aHA f g σ (ajO σ c)⟩
noncomputable def aeT (fuel : Nat) (rd : Option Nat) : Code → Fn St (Option (Exit × St))
 | .skip => ⟨fun σ => some (.normal, σ)⟩
 | .region _ ops draw => match draw with
  | false => ⟨fun σ => aDS ((aLB P sig pf call ops ops.toList).run σ) (aIh P sig pf call ops ops.toList σ)⟩
  | true => ⟨fun σ => aIt <| aDS (aMk P sig pf call ops σ) (aJ8 P sig pf call ops (σ.forDraw (aDo sig) ops.toList))⟩
 | .seq x y => aOm (aeT fuel rd x) (aeT fuel rd y)
 | .cond c x y => aOh c (aeT fuel rd x) (aeT fuel rd y)
 | .block id c => ⟨fun σ => aHL id ((aeT fuel rd c).run σ)⟩
 | .loop c => ⟨fun σ => aNO (aeT fuel rd c).run fuel σ⟩
 | .exit id => ⟨fun σ => some (.exit id, σ)⟩
 | .ret => ⟨fun σ => some (.ret, σ)⟩
 | .label _ => ⟨fun σ => some (.normal, σ)⟩
 | .scope c => ⟨fun σ => aKw ((aeT fuel rd c).run σ)⟩
 | c => ⟨fun σ => aIt (ab6 P sig fuel pf call rd c σ)⟩
noncomputable def aKf (fuel : Nat) : Code → St → Option (Exit × St) :=
 aMq P (fun ops l => (aLB P sig pf call ops l).run) (fun rd c => (aeT P sig pf call fuel rd c).run)
noncomputable def aLM (fuel : Nat) : abO := fun f A R x =>
 match P.funcs[f]? with
 | some fn => match fn.body with
  | some code => match ac1 P f && Nat.ble (aiI A x).length fn.ntmps with
   | true => match aNh P fn (aKf P sig pf call fuel code { slots := acW 0 (aiI A x), H := [], next := 0, n := fn.ntmps }) with
    | some (l, σ) => alD R (AV.maps (fun _ => false) (aDW σ.H) l)
    | none => none
   | false => none
  | none => none
 | none => none
noncomputable def aCU (fuel : Nat) : aeN := fun t args H next =>
 match t with
 | .fn f => match P.funcs[f]? with
  | some fn => match fn.body with
   | some code => match ac1 P f && Nat.ble args.length fn.ntmps with
    | true => aP5 P fn next (aKf P sig pf call fuel code { slots := acW 0 args, H := H, next := next, n := fn.ntmps })
    | false => none
   | none => none
  | none => none
 | .yld l => match H.find l with
  | some (.loop r) => match Nat.beq args.length r.ps.size with
   | true => aFh l (aHN l ((aeT P sig pf call fuel (some l) r.body).run) ((aeT P sig pf call fuel (some l) r.assign).run (anK { slots := r.slots, H := H, next := next, n := r.n } r.ps.toList args)))
   | false => none
  | _ => none
end
mutual
noncomputable def abF (P : Program) (sig : Sig) (fuel : Nat) (ext : abO) : Nat → abO
 | 0 => ext
 | d + 1 => aj9 ext (aLM P sig (abF P sig fuel ext d) (arO P sig fuel ext d) fuel)
noncomputable def arO (P : Program) (sig : Sig) (fuel : Nat) (ext : abO) : Nat → aeN
 | 0 => fun _ _ _ _ => none
 | d + 1 => aCU P sig (abF P sig fuel ext d) (arO P sig fuel ext d) fuel
end
section
variable {P : Program} {sig : Sig} {pf : abO} {call : aeN}
theorem aGS {α : Type} (n : Nat) (x : α) : aGT n x = x := by
 unfold aGT
 cases Nat.ble n 0 <;> rfl
theorem aCA (l : List (Nat × AV)) (t : Nat) : aJB l t = adA l t := by
 induction l with
 | nil => rfl
 | cons p r ih =>
  obtain ⟨k, v⟩ := p
  show @Bool.rec (fun _ => AV) (aJB r t) v (Nat.beq k t) = _
  simp only [adA]
  cases Nat.beq k t with
  | true => rfl
  | false => exact ih
theorem aHs (l : List (Nat × AV)) (t : Nat) : aMY l t = del l t := by
 induction l with
 | nil => rfl
 | cons p r ih =>
  obtain ⟨k, v⟩ := p
  show @Bool.rec (fun _ => List (Nat × AV)) ((k, v) :: aMY r t) (aMY r t) (Nat.beq k t) = _
  simp only [del]
  cases Nat.beq k t with
  | true => exact ih
  | false => show (k, v) :: aMY r t = _; rw [ih]
theorem afO (σ : St) (x : Operand) : ajO σ x = σ.eval x := by
 cases x with
 | tmp t => exact aCA _ _
 | _ => rfl
theorem aFx (dst : Option Nat) (v : AV) (σ : St) : aMH dst v σ = σ.put dst v := by
 obtain ⟨sl, H, nx, n⟩ := σ
 unfold aMH St.put
 cases dst with
 | none => rfl
 | some t =>
  simp only [aHs]
  cases Nat.blt t n <;> rfl
theorem ao9 (dst : Option Nat) (v : AV) (σ : St) : azE dst v σ = some (σ.grow dst v []) := by
 obtain ⟨sl, H, nx, n⟩ := σ
 unfold azE St.grow St.put
 simp only [aGS]
 cases dst with
 | none => rfl
 | some t =>
  simp only [aHs, yS]
  cases Nat.blt t n <;> rfl
theorem T.toO_bind {α β : Type} (r : T α) (g : α → β) : (r.bind fun a => .ok (g a)).toO = r.toO.map g := by
 induction r with
 | ok a => rfl
 | ite b x y hx hy =>
  cases b with
  | true => exact hx
  | false => exact hy
 | @need p d x hx =>
  simp only [T.bind, T.toO]
  cases d with
  | isTrue _ => exact hx
  | isFalse _ => rfl
 | bad => rfl
theorem aGK (dst : Option Nat) (r : T AV) (σ : St) : ad3 dst r σ = aGL σ dst ((r.bind fun a => .ok (a, [])).toO) := by
 rw [T.toO_bind r (fun a => (a, ([] : List (Nat × Bk))))]
 unfold ad3
 split
 ·rename_i v
  exact ao9 dst v σ
 ·cases hr : r.toO with
  | none => rfl
  | some v => exact ao9 dst v σ
theorem aK3 (o : Oper) (σ : St) : (opK P sig pf call o).run σ = opR P sig pf call o σ := by
 have hb : ∀ (r : T AV), (∀ K H arg, arg = σ.eval → H = σ.H → (evM P (aG1 (ao1 sig)) K H arg o) = r.bind fun a => .ok (a, [])) → (∀ f args ts, o.op ≠ .call ⟨.value f, args, ts⟩) → ad3 o.dst r σ = afN P sig pf o σ := by
  intro r hr hne
  unfold afN
  rw [aGK]
  have : evR P sig pf σ.next σ.H σ.eval o = (evM P (aG1 (ao1 sig)) σ.next σ.H σ.eval o).toO := by
   unfold evR
   split
   ·rename_i f args ts ho; exact absurd ho (hne f args ts)
   ·rfl
  rw [this, hr σ.next σ.H σ.eval rfl rfl]
 unfold opK
 split
 ·rename_i x ho
  show azE o.dst (ajO σ x) σ = _
  rw [ao9, afO]
  simp only [opR, ho, afN, evR, evM, evP, T.bind, T.toO, aGL]
 ·rename_i x ho
  show azE o.dst (ajO σ x) σ = _
  rw [ao9, afO]
  simp only [opR, ho, afN, evR, evM, evP, T.bind, T.toO, aGL]
 ·rename_i c a b ho
  show ad3 o.dst (aNF (ajO σ c) (ajO σ a) (ajO σ b)) σ = _
  simp only [afO, opR, ho]
  refine hb _ (fun K H arg e1 e2 => ?_) (by simp [ho])
  subst e1; subst e2
  simp only [evM, evP, ho]
  rfl
 ·rename_i op xt x y t ho
  show ad3 o.dst (aQw P op xt (aiX x || aiX y) (ajO σ x).soft (ajO σ y).soft) σ = _
  simp only [afO, opR, ho]
  refine hb _ (fun K H arg e1 e2 => ?_) (by simp [ho])
  subst e1; subst e2
  simp only [evM, evP, ho]
  rfl
 ·rename_i op t x ho
  show ad3 o.dst (aM5 op (ajO σ x)) σ = _
  simp only [afO, opR, ho]
  refine hb _ (fun K H arg e1 e2 => ?_) (by simp [ho])
  subst e1; subst e2
  simp only [evM, evP, ho]
 ·rename_i t a ho
  show ad3 o.dst (an3 P σ.H t (ajO σ a)) σ = _
  simp only [afO, opR, ho]
  refine hb _ (fun K H arg e1 e2 => ?_) (by simp [ho])
  subst e1; subst e2
  simp only [evM, ho]
 ·rename_i s x f ho
  show ad3 o.dst (azU P σ.H s (ajO σ x) f) σ = _
  simp only [afO, opR, ho]
  refine hb _ (fun K H arg e1 e2 => ?_) (by simp [ho])
  subst e1; subst e2
  simp only [evM, evP, ho]
 ·rename_i s x f ho
  show ad3 o.dst (arD P s (ajO σ x) f) σ = _
  simp only [afO, opR, ho]
  refine hb _ (fun K H arg e1 e2 => ?_) (by simp [ho])
  subst e1; subst e2
  simp only [evM, evP, ho]
 ·rename_i t x i ho
  show ad3 o.dst (aqY P σ.H t (ajO σ x).soft (ajO σ i)) σ = _
  simp only [afO, opR, ho]
  refine hb _ (fun K H arg e1 e2 => ?_) (by simp [ho])
  subst e1; subst e2
  simp only [evM, evP, ho]
 ·rename_i t x i ho
  show ad3 o.dst (aqX P t (ajO σ x) (ajO σ i)) σ = _
  simp only [afO, opR, ho]
  refine hb _ (fun K H arg e1 e2 => ?_) (by simp [ho])
  subst e1; subst e2
  simp only [evM, evP, ho]
 ·rename_i t i ho
  show ad3 o.dst (aCO i (ajO σ t)) σ = _
  simp only [afO, opR, ho]
  refine hb _ (fun K H arg e1 e2 => ?_) (by simp [ho])
  subst e1; subst e2
  simp only [evM, evP, ho]
  rfl
 ·exact aIv _
theorem amM (ops : Array Oper) : ∀ (l : List Oper) (σ : St), (aLB P sig pf call ops l).run σ = aAB P sig pf call ops l σ
 | [], _ => rfl
 | o :: rest, σ => by
  simp only [aLB, aAB]
  cases hg : o.guard with
  | none =>
   simp only [aM6, aK3]
   cases opR P sig pf call o σ with
   | none => rfl
   | some s => exact amM ops rest s
  | some jw =>
   obtain ⟨j, want⟩ := jw
   simp only
   cases ht : abV ops j with
   | none => rfl
   | some t =>
    simp only [aLh, aCA, aCJ]
    split
    ·rename_i x hx
     simp only [aFx, aK3, hx]
     cases hsb : as3 x want with
     | true =>
      simp only
      cases opR P sig pf call o (σ.put (some t) (.d .bool x)) with
      | none => rfl
      | some s => exact amM ops rest s
     | false => exact amM ops rest _
    ·rename_i hx
     simp only [aFx, hx]; exact amM ops rest _
    ·rename_i h1 h2
     split
     ·rename_i x hx; exact absurd hx (h1 x)
     ·rename_i hx; exact absurd hx h2
     ·rfl
theorem afS {fuel : Nat} {rd : Option Nat} : ∀ (c : Code) (σ : St), (aeT P sig pf call fuel rd c).run σ = ab6 P sig fuel pf call rd c σ
 | .skip, _ => by simp only [aeT, ab6]
 | .region _ ops draw, σ => by
  cases draw with
  | false => simp only [aeT, ab6, amM]
  | true => simp only [aeT, ab6, aoY]
 | .seq x y, σ => by
  have h : (aeT P sig pf call fuel rd y).run = ab6 P sig fuel pf call rd y := funext (afS y)
  simp only [aeT, ab6, aOm, afS x, h]
  cases ab6 P sig fuel pf call rd x σ with
  | none => rfl
  | some p =>
   obtain ⟨e, s⟩ := p
   cases e <;> rfl
 | .cond c x y, σ => by
  simp only [aeT, ab6, aOh, aHA, afO]
  split
  ·rename_i b hb
   simp only [hb]
   cases b with
   | true => exact afS x σ
   | false => exact afS y σ
  ·rename_i h1
   split
   ·rename_i b hb; exact absurd hb (h1 b)
   ·rfl
 | .block id c, σ => by simp only [aeT, ab6, afS c]
 | .loop c, σ => by
  have h : (aeT P sig pf call fuel rd c).run = ab6 P sig fuel pf call rd c := funext (afS c)
  simp only [aeT, ab6, h]
 | .exit _, _ => by simp only [aeT, ab6]
 | .ret, _ => by simp only [aeT, ab6]
 | .label _, _ => by simp only [aeT, ab6]
 | .scope c, σ => by simp only [aeT, ab6, afS c]
 | .rangeFunc _ _ _ _, _ => by simp only [aeT, aoY]
 | .goto _, _ => by simp only [aeT, aoY]
 | .refuse _, _ => by simp only [aeT, aoY]
theorem aC3 (fuel : Nat) : aKf P sig pf call fuel = aEx P sig fuel pf call := by
 unfold aKf aEx
 rw [show (fun ops l => (aLB P sig pf call ops l).run) = aAB P sig pf call from funext fun ops => funext fun l => funext fun σ => amM ops l σ]
 rw [show (fun rd c => (aeT P sig pf call fuel rd c).run) = ab6 P sig fuel pf call from funext fun rd => funext fun c => funext fun σ => afS c σ]
theorem aIV (fuel : Nat) : aLM P sig pf call fuel = aFy P sig fuel pf call := by
 funext f A R x
 unfold aLM aFy
 simp only [aC3]
 rfl
theorem aHk (fuel : Nat) : aCU P sig pf call fuel = arN P sig fuel pf call := by
 funext t args H next
 have h : ∀ rd c, (aeT P sig pf call fuel rd c).run = ab6 P sig fuel pf call rd c := fun rd c => funext (afS c)
 cases t with
 | fn f => simp only [aCU, arN, aC3]; rfl
 | yld l => simp only [aCU, arN, h]; rfl
theorem apW (fuel : Nat) (ext : abO) : ∀ d, abF P sig fuel ext d = ayG P sig fuel ext d ∧ arO P sig fuel ext d = aoC P sig fuel ext d
 | 0 => ⟨by simp only [abF, ayG], by simp only [arO, aoC]⟩
 | d + 1 => by
  obtain ⟨h1, h2⟩ := apW fuel ext d
  exact ⟨by simp only [abF, ayG, h1, h2, aIV], by simp only [arO, aoC, h1, h2, aHk]⟩
end
end Go.Vg
