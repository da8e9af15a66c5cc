/-
  A runner over the evaluator, and calls that have been run. Own work; no condition.
-/
import Derived.Test.YtlmjbmgabddkiaaGreatDoorClR3
set_option linter.unusedVariables false
set_option linter.unusedSimpArgs false
namespace Go.Vg
open Go Go.RowKit
structure Fn (α β : Type) where
 run : α → β
noncomputable def aKZ {α : Type} (n : Nat) (x : α) : α := @Bool.rec (fun _ => α) x x (Nat.ble n 0)
noncomputable def aNX (l : List (Nat × AV)) (t : Nat) : AV :=
 @List.rec (Nat × AV) (fun _ => AV) .no (fun p _ ih => @Bool.rec (fun _ => AV) ih p.2 (Nat.beq p.1 t)) l
noncomputable def aRd (l : List (Nat × AV)) (t : Nat) : List (Nat × AV) :=
 @List.rec (Nat × AV) (fun _ => List (Nat × AV)) [] (fun p _ ih => @Bool.rec (fun _ => List (Nat × AV)) (p :: ih) ih (Nat.beq p.1 t)) l
noncomputable def alP (σ : St) (x : Operand) : AV :=
 match x with
 | .tmp t => aNX σ.slots t
 | .const v => aqJ v
 | .func f => .fn f [] []
 | .global _ => .no
noncomputable def aCx (dst : Option Nat) (v : AV) (σ : St) : Option St :=
 match σ with
 | ⟨sl, H, nx, n⟩ => aKZ nx (match dst with
  | some t => match Nat.blt t n with
   | true => some ⟨(t, v) :: aRd sl t, H, Nat.succ nx, n⟩
   | false => some ⟨sl, H, Nat.succ nx, n⟩
  | none => some ⟨sl, H, Nat.succ nx, n⟩)
noncomputable def aRa (dst : Option Nat) (v : AV) (σ : St) : St :=
 match σ with
 | ⟨sl, H, nx, n⟩ => match dst with
  | some t => match Nat.blt t n with
   | true => ⟨(t, v) :: aRd sl t, H, nx, n⟩
   | false => ⟨sl, H, nx, n⟩
  | none => ⟨sl, H, nx, n⟩
noncomputable def aeT (dst : Option Nat) (r : T AV) (σ : St) : Option St :=
 match r with
 | .ok v => aCx dst v σ
 | r => match r.toO with
  | some v => aCx dst v σ
  | none => none
def aRY (c a b : AV) : T AV :=
 match c with
 | .d .bool x => aFS x a b
 | _ => .bad
def aTn (P : Program) (op : BinOp) (xt : TypeId) (t : Ty) (a : t.T) (b : AV) : T AV :=
 match b with
 | .d u b => match t.agg with
  | true => aOt P op xt t a u b
  | false => match aCW P t xt with
   | true => aST op t a u b
   | false => .bad
 | .nsl => aOr P op xt t a
 | _ => .bad
def aTm (P : Program) (op : BinOp) (xt : TypeId) (c : Bool) (b : AV) : T AV :=
 match c with
 | true => aqG P op xt .nili b
 | false => .bad
def aTA (P : Program) (op : BinOp) (xt : TypeId) (c : Bool) (a b : AV) : T AV :=
 match a with
 | .d t a => aTn P op xt t a b
 | .nili => aTm P op xt c b
 | a => aqG P op xt a b
def aGi (i : Nat) (a : AV) : T AV :=
 match a with
 | .tup l => T.ofO l[i]?
 | _ => .bad
section
variable (P : Program) (sig : Sig) (pf : abP) (call : af3)
noncomputable def aTQ (o : Oper) (σ : St) : Option St := opR P sig pf call o σ
noncomputable def opK (o : Oper) : Fn St (Option St) :=
 match o.op with
 | .move x => ⟨fun σ => aCx o.dst (alP σ x) σ⟩
 | .assign x => ⟨fun σ => aCx o.dst (alP σ x) σ⟩
 | .pick c a b => ⟨fun σ => aeT o.dst (aRY (alP σ c) (alP σ a) (alP σ b)) σ⟩
 | .binOp op xt x y _ => ⟨fun σ => aeT o.dst (aTA P op xt (akO x || akO y) (alP σ x).soft (alP σ y).soft) σ⟩
 | .unOp op _ x => ⟨fun σ => aeT o.dst (aRm op (alP σ x)) σ⟩
 | .load t a => ⟨fun σ => aeT o.dst (aq7 P σ.H t (alP σ a)) σ⟩
 | .fieldAddr s x f => ⟨fun σ => aeT o.dst (aCQ P σ.H s (alP σ x) f) σ⟩
 | .field s x f => ⟨fun σ => aeT o.dst (auV P s (alP σ x) f) σ⟩
 | .indexAddr t x i => ⟨fun σ => aeT o.dst (auH P σ.H t (alP σ x).soft (alP σ i)) σ⟩
 | .index t x i => ⟨fun σ => aeT o.dst (auG P t (alP σ x) (alP σ i)) σ⟩
 | .extract t i => ⟨fun σ => aeT o.dst (aGi i (alP σ t)) σ⟩
 | _ => ⟨aTQ P sig pf call o⟩
noncomputable def aRn (f g : Fn St (Option St)) : Fn St (Option St) := ⟨fun σ => match f.run σ with
 | some σ' => g.run σ'
 | none => none⟩
noncomputable def aGe (t : Nat) (want : Bool) (dst : Option Nat) (f g : Fn St (Option St)) (σ : St) (a : AV) : Option St :=
 match a with
 | .d .bool x => match awM x want with
  | true => match f.run (aRa (some t) (.d .bool x) σ) with
   | some σ' => g.run σ'
   | none => none
  | false => g.run (aRa dst .und (aRa (some t) (.d .bool x) σ))
 | .und => g.run (aRa dst .und σ)
 | _ => none
noncomputable def aPy (t : Nat) (want : Bool) (dst : Option Nat) (f g : Fn St (Option St)) : Fn St (Option St) := ⟨fun σ => aGe t want dst f g σ (aNX σ.slots t)⟩
noncomputable def aP1 (ops : Array Oper) : List Oper → Fn St (Option St)
 | [] => ⟨some⟩
 | o :: rest => match o.guard with
  | none => aRn (opK P sig pf call o) (aP1 ops rest)
  | some (j, want) => match abY ops j with
   | some t => aPy t want o.dst (opK P sig pf call o) (aP1 ops rest)
   | none => ⟨fun _ => none⟩
noncomputable def aSx (f g : Fn St (Option (Exit × St))) : Fn St (Option (Exit × St)) := ⟨fun σ => match f.run σ with
 | some (.normal, σ') => g.run σ'
 | r => r⟩
noncomputable def aLI (f g : Fn St (Option (Exit × St))) (σ : St) (a : AV) : Option (Exit × St) :=
 match a with
 | .d .bool b => match (b : Bool) with
  | true => f.run σ
  | false => g.run σ
 | _ => none
noncomputable def aSp (c : Operand) (f g : Fn St (Option (Exit × St))) : Fn St (Option (Exit × St)) := ⟨fun σ => aLI f g σ (alP σ c)⟩
noncomputable def afM (fuel : Nat) (rd : Option Nat) : Code → Fn St (Option (Exit × St))
 | .skip => ⟨fun σ => some (.normal, σ)⟩
 | .region _ ops draw => match draw with
  | false => ⟨fun σ => aHI ((aP1 P sig pf call ops ops.toList).run σ) (aMx P sig pf call ops ops.toList σ)⟩
  | true => ⟨fun σ => aHI (aQR P sig pf call ops σ) (aOw P sig pf call ops (σ.forDraw (aGR sig) ops.toList))⟩
 | .seq x y => aSx (afM fuel rd x) (afM fuel rd y)
 | .cond c x y => aSp c (afM fuel rd x) (afM fuel rd y)
 | .block id c => ⟨fun σ => aLU id ((afM fuel rd c).run σ)⟩
 | .loop c => ⟨fun σ => aKD (afM fuel rd c).run fuel σ⟩
 | .exit id => ⟨fun σ => some (.exit id, σ)⟩
 | .ret => ⟨fun σ => some (.ret, σ)⟩
 | .label _ => ⟨fun σ => some (.normal, σ)⟩
 | .scope c => ⟨fun σ => aOT ((afM fuel rd c).run σ)⟩
 | c => ⟨acM P sig fuel pf call rd c⟩
noncomputable def aOE (fuel : Nat) : Code → St → Option (Exit × St) :=
 aQZ P (fun ops l => (aP1 P sig pf call ops l).run) (fun rd c => (afM P sig pf call fuel rd c).run)
noncomputable def aQd (fuel : Nat) : abP := fun f A R x =>
 match P.funcs[f]? with
 | some fn => match fn.body with
  | some code => match adG P f && Nat.ble (akW A x).length fn.ntmps with
   | true => match aRB P fn (aOE P sig pf call fuel code { slots := adA 0 (akW A x), H := [], next := 0, n := fn.ntmps }) with
    | some (l, σ) => anL R (AV.maps (fun _ => false) (aHM σ.H) l)
    | none => none
   | false => none
  | none => none
 | none => none
noncomputable def aGn (fuel : Nat) : af3 := fun t args H next =>
 match t with
 | .fn f => match P.funcs[f]? with
  | some fn => match fn.body with
   | some code => match adG P f && Nat.ble args.length fn.ntmps with
    | true => aTk P fn next (aOE P sig pf call fuel code { slots := adA 0 args, H := H, next := next, n := fn.ntmps })
    | false => none
   | none => none
  | none => none
 | .yld l => match H.find l with
  | some (.loop r) => match Nat.beq args.length r.ps.size with
   | true => aI5 l (aLW l ((afM P sig pf call fuel (some l) r.body).run) ((afM P sig pf call fuel (some l) r.assign).run (aqL { slots := r.slots, H := H, next := next, n := r.n } r.ps.toList args)))
   | false => none
  | _ => none
end
mutual
noncomputable def abE (P : Program) (sig : Sig) (fuel : Nat) (ext : abP) : Nat → abP
 | 0 => ext
 | d + 1 => akR ext (aQd P sig (abE P sig fuel ext d) (au6 P sig fuel ext d) fuel)
noncomputable def au6 (P : Program) (sig : Sig) (fuel : Nat) (ext : abP) : Nat → af3
 | 0 => fun _ _ _ _ => none
 | d + 1 => aGn P sig (abE P sig fuel ext d) (au6 P sig fuel ext d) fuel
end
section
variable {P : Program} {sig : Sig} {pf : abP} {call : af3}
theorem aKY {α : Type} (n : Nat) (x : α) : aKZ n x = x := by
 unfold aKZ
 cases Nat.ble n 0 <;> rfl
theorem aF5 (l : List (Nat × AV)) (t : Nat) : aNX l t = adU l t := by
 induction l with
 | nil => rfl
 | cons p r ih =>
  obtain ⟨k, v⟩ := p
  show @Bool.rec (fun _ => AV) (aNX r t) v (Nat.beq k t) = _
  simp only [adU]
  cases Nat.beq k t with
  | true => rfl
  | false => exact ih
theorem aLB (l : List (Nat × AV)) (t : Nat) : aRd l t = del l t := by
 induction l with
 | nil => rfl
 | cons p r ih =>
  obtain ⟨k, v⟩ := p
  show @Bool.rec (fun _ => List (Nat × AV)) ((k, v) :: aRd r t) (aRd r t) (Nat.beq k t) = _
  simp only [del]
  cases Nat.beq k t with
  | true => exact ih
  | false => show (k, v) :: aRd r t = _; rw [ih]
theorem agQ (σ : St) (x : Operand) : alP σ x = σ.eval x := by
 cases x with
 | tmp t => exact aF5 _ _
 | _ => rfl
theorem aJx (dst : Option Nat) (v : AV) (σ : St) : aRa dst v σ = σ.put dst v := by
 obtain ⟨sl, H, nx, n⟩ := σ
 unfold aRa St.put
 cases dst with
 | none => rfl
 | some t =>
  simp only [aLB]
  cases Nat.blt t n <;> rfl
theorem asC (dst : Option Nat) (v : AV) (σ : St) : aCx dst v σ = some (σ.grow dst v []) := by
 obtain ⟨sl, H, nx, n⟩ := σ
 unfold aCx St.grow St.put
 simp only [aKY]
 cases dst with
 | none => rfl
 | some t =>
  simp only [aLB, yX]
  cases Nat.blt t n <;> rfl
theorem T.toO_bind {α β : Type} (r : T α) (g : α → β) : (r.bind fun a => .ok (g a)).toO = r.toO.map g := by
 induction r with
 | ok a => rfl
 | ite b x y hx hy =>
  cases b with
  | true => exact hx
  | false => exact hy
 | @need p d x hx =>
  simp only [T.bind, T.toO]
  cases d with
  | isTrue _ => exact hx
  | isFalse _ => rfl
 | bad => rfl
theorem aKS (dst : Option Nat) (r : T AV) (σ : St) : aeT dst r σ = aKT σ dst ((r.bind fun a => .ok (a, [])).toO) := by
 rw [T.toO_bind r (fun a => (a, ([] : List (Nat × Bk))))]
 unfold aeT
 split
 ·rename_i v
  exact asC dst v σ
 ·cases hr : r.toO with
  | none => rfl
  | some v => exact asC dst v σ
theorem aPr (o : Oper) (σ : St) : (opK P sig pf call o).run σ = opR P sig pf call o σ := by
 have hb : ∀ (r : T AV), (∀ K H arg, arg = σ.eval → H = σ.H → (evM P (aK7 (ar2 sig)) K H arg o) = r.bind fun a => .ok (a, [])) → (∀ f args ts, o.op ≠ .call ⟨.value f, args, ts⟩) → aeT o.dst r σ = agO P sig pf o σ := by
  intro r hr hne
  unfold agO
  rw [aKS]
  have : evR P sig pf σ.next σ.H σ.eval o = (evM P (aK7 (ar2 sig)) σ.next σ.H σ.eval o).toO := by
   unfold evR
   split
   ·rename_i f args ts ho; exact absurd ho (hne f args ts)
   ·rfl
  rw [this, hr σ.next σ.H σ.eval rfl rfl]
 unfold opK
 split
 ·rename_i x ho
  show aCx o.dst (alP σ x) σ = _
  rw [asC, agQ]
  simp only [opR, ho, agO, evR, evM, evP, T.bind, T.toO, aKT]
 ·rename_i x ho
  show aCx o.dst (alP σ x) σ = _
  rw [asC, agQ]
  simp only [opR, ho, agO, evR, evM, evP, T.bind, T.toO, aKT]
 ·rename_i c a b ho
  show aeT o.dst (aRY (alP σ c) (alP σ a) (alP σ b)) σ = _
  simp only [agQ, opR, ho]
  refine hb _ (fun K H arg e1 e2 => ?_) (by simp [ho])
  subst e1; subst e2
  simp only [evM, evP, ho]
  rfl
 ·rename_i op xt x y t ho
  show aeT o.dst (aTA P op xt (akO x || akO y) (alP σ x).soft (alP σ y).soft) σ = _
  simp only [agQ, opR, ho]
  refine hb _ (fun K H arg e1 e2 => ?_) (by simp [ho])
  subst e1; subst e2
  simp only [evM, evP, ho]
  rfl
 ·rename_i op t x ho
  show aeT o.dst (aRm op (alP σ x)) σ = _
  simp only [agQ, opR, ho]
  refine hb _ (fun K H arg e1 e2 => ?_) (by simp [ho])
  subst e1; subst e2
  simp only [evM, evP, ho]
 ·rename_i t a ho
  show aeT o.dst (aq7 P σ.H t (alP σ a)) σ = _
  simp only [agQ, opR, ho]
  refine hb _ (fun K H arg e1 e2 => ?_) (by simp [ho])
  subst e1; subst e2
  simp only [evM, ho]
 ·rename_i s x f ho
  show aeT o.dst (aCQ P σ.H s (alP σ x) f) σ = _
  simp only [agQ, opR, ho]
  refine hb _ (fun K H arg e1 e2 => ?_) (by simp [ho])
  subst e1; subst e2
  simp only [evM, evP, ho]
 ·rename_i s x f ho
  show aeT o.dst (auV P s (alP σ x) f) σ = _
  simp only [agQ, opR, ho]
  refine hb _ (fun K H arg e1 e2 => ?_) (by simp [ho])
  subst e1; subst e2
  simp only [evM, evP, ho]
 ·rename_i t x i ho
  show aeT o.dst (auH P σ.H t (alP σ x).soft (alP σ i)) σ = _
  simp only [agQ, opR, ho]
  refine hb _ (fun K H arg e1 e2 => ?_) (by simp [ho])
  subst e1; subst e2
  simp only [evM, evP, ho]
 ·rename_i t x i ho
  show aeT o.dst (auG P t (alP σ x) (alP σ i)) σ = _
  simp only [agQ, opR, ho]
  refine hb _ (fun K H arg e1 e2 => ?_) (by simp [ho])
  subst e1; subst e2
  simp only [evM, evP, ho]
 ·rename_i t i ho
  show aeT o.dst (aGi i (alP σ t)) σ = _
  simp only [agQ, opR, ho]
  refine hb _ (fun K H arg e1 e2 => ?_) (by simp [ho])
  subst e1; subst e2
  simp only [evM, evP, ho]
  rfl
 ·rfl
theorem ao8 (ops : Array Oper) : ∀ (l : List Oper) (σ : St), (aP1 P sig pf call ops l).run σ = aDQ P sig pf call ops l σ
 | [], _ => rfl
 | o :: rest, σ => by
  simp only [aP1, aDQ]
  cases hg : o.guard with
  | none =>
   simp only [aRn, aPr]
   cases opR P sig pf call o σ with
   | none => rfl
   | some s => exact ao8 ops rest s
  | some jw =>
   obtain ⟨j, want⟩ := jw
   simp only
   cases ht : abY ops j with
   | none => rfl
   | some t =>
    simp only [aPy, aF5, aGe]
    split
    ·rename_i x hx
     simp only [aJx, aPr, hx]
     cases hsb : awM x want with
     | true =>
      simp only
      cases opR P sig pf call o (σ.put (some t) (.d .bool x)) with
      | none => rfl
      | some s => exact ao8 ops rest s
     | false => exact ao8 ops rest _
    ·rename_i hx
     simp only [aJx, hx]; exact ao8 ops rest _
    ·rename_i h1 h2
     split
     ·rename_i x hx; exact absurd hx (h1 x)
     ·rename_i hx; exact absurd hx h2
     ·rfl
theorem agU {fuel : Nat} {rd : Option Nat} : ∀ (c : Code) (σ : St), (afM P sig pf call fuel rd c).run σ = acM P sig fuel pf call rd c σ
 | .skip, _ => by simp only [afM, acM]
 | .region _ ops draw, σ => by
  cases draw with
  | false => simp only [afM, acM, ao8]
  | true => simp only [afM, acM]
 | .seq x y, σ => by
  have h : (afM P sig pf call fuel rd y).run = acM P sig fuel pf call rd y := funext (agU y)
  simp only [afM, acM, aSx, agU x, h]
  cases acM P sig fuel pf call rd x σ with
  | none => rfl
  | some p =>
   obtain ⟨e, s⟩ := p
   cases e <;> rfl
 | .cond c x y, σ => by
  simp only [afM, acM, aSp, aLI, agQ]
  split
  ·rename_i b hb
   simp only [hb]
   cases b with
   | true => exact agU x σ
   | false => exact agU y σ
  ·rename_i h1
   split
   ·rename_i b hb; exact absurd hb (h1 b)
   ·rfl
 | .block id c, σ => by simp only [afM, acM, agU c]
 | .loop c, σ => by
  have h : (afM P sig pf call fuel rd c).run = acM P sig fuel pf call rd c := funext (agU c)
  simp only [afM, acM, h]
 | .exit _, _ => by simp only [afM, acM]
 | .ret, _ => by simp only [afM, acM]
 | .label _, _ => by simp only [afM, acM]
 | .scope c, σ => by simp only [afM, acM, agU c]
 | .rangeFunc _ _ _ _, _ => by simp only [afM]
 | .goto _, _ => by simp only [afM]
 | .refuse _, _ => by simp only [afM]
theorem aGv (fuel : Nat) : aOE P sig pf call fuel = aIl P sig fuel pf call := by
 unfold aOE aIl
 rw [show (fun ops l => (aP1 P sig pf call ops l).run) = aDQ P sig pf call from funext fun ops => funext fun l => funext fun σ => ao8 ops l σ]
 rw [show (fun rd c => (afM P sig pf call fuel rd c).run) = acM P sig fuel pf call from funext fun rd => funext fun c => funext fun σ => agU c σ]
theorem aNi (fuel : Nat) : aQd P sig pf call fuel = aJy P sig fuel pf call := by
 funext f A R x
 unfold aQd aJy
 simp only [aGv]
 rfl
theorem aLs (fuel : Nat) : aGn P sig pf call fuel = au5 P sig fuel pf call := by
 funext t args H next
 have h : ∀ rd c, (afM P sig pf call fuel rd c).run = acM P sig fuel pf call rd c := fun rd c => funext (agU c)
 cases t with
 | fn f => simp only [aGn, au5, aGv]; rfl
 | yld l => simp only [aGn, au5, h]; rfl
theorem aDR (fuel : Nat) (ext : abP) : ∀ d, abE P sig fuel ext d = aB2 P sig fuel ext d ∧ au6 P sig fuel ext d = arE P sig fuel ext d
 | 0 => ⟨by simp only [abE, aB2], by simp only [au6, arE]⟩
 | d + 1 => by
  obtain ⟨h1, h2⟩ := aDR fuel ext d
  exact ⟨by simp only [abE, aB2, h1, h2, aNi], by simp only [au6, arE, h1, h2, aLs]⟩
end
end Go.Vg
