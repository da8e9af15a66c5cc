/-
  A runner over the evaluator, and calls that have been run. Own work; no condition.
-/
import Derived.Test.YtffkcjooibmgfaaGreatDoorClR3
set_option linter.unusedVariables false
set_option linter.unusedSimpArgs false
namespace Go.Vg
open Go Go.RowKit
structure Fn (α β : Type) where
 run : α → β
noncomputable def aE0 {α : Type} (n : Nat) (x : α) : α := @Bool.rec (fun _ => α) x x (Nat.ble n 0)
noncomputable def aEY {α : Type} (n : Nat) (f : Nat → α) : α := @Nat.rec (fun _ => α) (f 0) (fun m _ => f (Nat.succ m)) n
theorem aEX {α : Type} (n : Nat) (f : Nat → α) : aEY n f = f n := by cases n <;> rfl
noncomputable def aF9 {α : Type} (σ : St) (f : St → α) : α :=
 match σ with
 | ⟨sl, H, nx, n⟩ => aEY n fun n => aEY nx fun nx => f ⟨sl, H, nx, n⟩
theorem aAK {α : Type} (σ : St) (f : St → α) : aF9 σ f = f σ := by simp only [aF9, aEX]
noncomputable def aII (r : Option St) : Option St :=
 match r with
 | some σ => aF9 σ some
 | none => none
theorem aGa (r : Option St) : aII r = r := by cases r <;> simp only [aII, aAK]
noncomputable def aF8 (r : Option (Exit × St)) : Option (Exit × St) :=
 match r with
 | some (e, σ) => aF9 σ fun σ => some (e, σ)
 | none => none
theorem an6 (r : Option (Exit × St)) : aF8 r = r := by cases r <;> simp only [aF8, aAK]
noncomputable def aG5 (l : List (Nat × AV)) (t : Nat) : AV :=
 @List.rec (Nat × AV) (fun _ => AV) .no (fun p _ ih => @Bool.rec (fun _ => AV) ih p.2 (Nat.beq p.1 t)) l
noncomputable def aJB (l : List (Nat × AV)) (t : Nat) : List (Nat × AV) :=
 @List.rec (Nat × AV) (fun _ => List (Nat × AV)) [] (fun p _ ih => @Bool.rec (fun _ => List (Nat × AV)) (p :: ih) ih (Nat.beq p.1 t)) l
noncomputable def ajW (σ : St) (x : Operand) : AV :=
 match x with
 | .tmp t => aG5 σ.slots t
 | .const v => amV v
 | .func f => .fn f [] []
 | .global _ => .no
noncomputable def axB (dst : Option Nat) (v : AV) (σ : St) : Option St :=
 match σ with
 | ⟨sl, H, nx, n⟩ => aE0 nx (match dst with
  | some t => match Nat.blt t n with
   | true => some ⟨(t, v) :: aJB sl t, H, Nat.succ nx, n⟩
   | false => some ⟨sl, H, Nat.succ nx, n⟩
  | none => some ⟨sl, H, Nat.succ nx, n⟩)
noncomputable def aJx (dst : Option Nat) (v : AV) (σ : St) : St :=
 match σ with
 | ⟨sl, H, nx, n⟩ => match dst with
  | some t => match Nat.blt t n with
   | true => ⟨(t, v) :: aJB sl t, H, nx, n⟩
   | false => ⟨sl, H, nx, n⟩
  | none => ⟨sl, H, nx, n⟩
noncomputable def ac8 (dst : Option Nat) (r : T AV) (σ : St) : Option St :=
 match r with
 | .ok v => axB dst v σ
 | r => match r.toO with
  | some v => axB dst v σ
  | none => none
def aKf (c a b : AV) : T AV :=
 match c with
 | .d .bool x => aA1 x a b
 | _ => .bad
def aLJ (P : Program) (op : BinOp) (xt : TypeId) (t : Ty) (a : t.T) (b : AV) : T AV :=
 match b with
 | .d u b => match t.agg with
  | true => aHk P op xt t a u b
  | false => match axP P t xt with
   | true => aK5 op t a u b
   | false => .bad
 | .nsl => aHi P op xt t a
 | _ => .bad
def aLI (P : Program) (op : BinOp) (xt : TypeId) (c : Bool) (b : AV) : T AV :=
 match c with
 | true => amO P op xt .nili b
 | false => .bad
def aL3 (P : Program) (op : BinOp) (xt : TypeId) (c : Bool) (a b : AV) : T AV :=
 match a with
 | .d t a => aLJ P op xt t a b
 | .nili => aLI P op xt c b
 | a => amO P op xt a b
def aBl (i : Nat) (a : AV) : T AV :=
 match a with
 | .tup l => T.ofO l[i]?
 | _ => .bad
section
variable (P : Program) (sig : Sig) (pf : aa6) (call : adR)
noncomputable def aMh (o : Oper) (σ : St) : Option St := aII (opR P sig pf call o σ)
noncomputable def opK (o : Oper) : Fn St (Option St) :=
 match o.op with
 | .move x => ⟨fun σ => axB o.dst (ajW σ x) σ⟩
 | .assign x => ⟨fun σ => axB o.dst (ajW σ x) σ⟩
 | .pick c a b => ⟨fun σ => ac8 o.dst (aKf (ajW σ c) (ajW σ a) (ajW σ b)) σ⟩
 | .binOp op xt x y _ => ⟨fun σ => ac8 o.dst (aL3 P op xt (ai1 x || ai1 y) (ajW σ x).soft (ajW σ y).soft) σ⟩
 | .unOp op _ x => ⟨fun σ => ac8 o.dst (aJH op (ajW σ x)) σ⟩
 | .load t a => ⟨fun σ => ac8 o.dst (anJ P σ.H t (ajW σ a)) σ⟩
 | .fieldAddr s x f => ⟨fun σ => ac8 o.dst (axI P σ.H s (ajW σ x) f) σ⟩
 | .field s x f => ⟨fun σ => ac8 o.dst (ap3 P s (ajW σ x) f) σ⟩
 | .indexAddr t x i => ⟨fun σ => ac8 o.dst (apW P σ.H t (ajW σ x).soft (ajW σ i)) σ⟩
 | .index t x i => ⟨fun σ => ac8 o.dst (apV P t (ajW σ x) (ajW σ i)) σ⟩
 | .extract t i => ⟨fun σ => ac8 o.dst (aBl i (ajW σ t)) σ⟩
 | _ => ⟨aMh P sig pf call o⟩
noncomputable def aJI (f g : Fn St (Option St)) : Fn St (Option St) := ⟨fun σ => match f.run σ with
 | some σ' => g.run σ'
 | none => none⟩
noncomputable def aBi (t : Nat) (want : Bool) (dst : Option Nat) (f g : Fn St (Option St)) (σ : St) (a : AV) : Option St :=
 match a with
 | .d .bool x => match arM x want with
  | true => match f.run (aJx (some t) (.d .bool x) σ) with
   | some σ' => g.run σ'
   | none => none
  | false => g.run (aJx dst .und (aJx (some t) (.d .bool x) σ))
 | .und => g.run (aJx dst .und σ)
 | _ => none
noncomputable def aIo (t : Nat) (want : Bool) (dst : Option Nat) (f g : Fn St (Option St)) : Fn St (Option St) := ⟨fun σ => aBi t want dst f g σ (aG5 σ.slots t)⟩
noncomputable def aIP (ops : Array Oper) : List Oper → Fn St (Option St)
 | [] => ⟨some⟩
 | o :: rest => match o.guard with
  | none => aJI (opK P sig pf call o) (aIP ops rest)
  | some (j, want) => match abC ops j with
   | some t => aIo t want o.dst (opK P sig pf call o) (aIP ops rest)
   | none => ⟨fun _ => none⟩
noncomputable def aKJ (f g : Fn St (Option (Exit × St))) : Fn St (Option (Exit × St)) := ⟨fun σ => match f.run σ with
 | some (.normal, σ') => g.run σ'
 | r => r⟩
noncomputable def aFr (f g : Fn St (Option (Exit × St))) (σ : St) (a : AV) : Option (Exit × St) :=
 match a with
 | .d .bool b => match (b : Bool) with
  | true => f.run σ
  | false => g.run σ
 | _ => none
noncomputable def aKD (c : Operand) (f g : Fn St (Option (Exit × St))) : Fn St (Option (Exit × St)) := ⟨fun σ => aFr f g σ (ajW σ c)⟩
noncomputable def ad1 (fuel : Nat) (rd : Option Nat) : Code → Fn St (Option (Exit × St))
 | .skip => ⟨fun σ => some (.normal, σ)⟩
 | .region _ ops draw => match draw with
  | false => ⟨fun σ => aCj ((aIP P sig pf call ops ops.toList).run σ) (aFU P sig pf call ops ops.toList σ)⟩
  | true => ⟨fun σ => aF8 <| aCj (aJh P sig pf call ops σ) (aHq P sig pf call ops (σ.forDraw (aBJ sig) ops.toList))⟩
 | .seq x y => aKJ (ad1 fuel rd x) (ad1 fuel rd y)
 | .cond c x y => aKD c (ad1 fuel rd x) (ad1 fuel rd y)
 | .block id c => ⟨fun σ => aFF id ((ad1 fuel rd c).run σ)⟩
 | .loop c => ⟨fun σ => aKl (ad1 fuel rd c).run fuel σ⟩
 | .exit id => ⟨fun σ => some (.exit id, σ)⟩
 | .ret => ⟨fun σ => some (.ret, σ)⟩
 | .label _ => ⟨fun σ => some (.normal, σ)⟩
 | .scope c => ⟨fun σ => aHK ((ad1 fuel rd c).run σ)⟩
 | c => ⟨fun σ => aF8 (abO P sig fuel pf call rd c σ)⟩
noncomputable def aHz (fuel : Nat) : Code → St → Option (Exit × St) :=
 aJp P (fun ops l => (aIP P sig pf call ops l).run) (fun rd c => (ad1 P sig pf call fuel rd c).run)
noncomputable def aIV (fuel : Nat) : aa6 := fun f A R x =>
 match P.funcs[f]? with
 | some fn => match fn.body with
  | some code => match acG P f && Nat.ble (ai7 A x).length fn.ntmps with
   | true => match aJS P fn (aHz P sig pf call fuel code { slots := ab7 0 (ai7 A x), H := [], next := 0, n := fn.ntmps }) with
    | some (l, σ) => ak6 R (AV.maps (fun _ => false) (aCm σ.H) l)
    | none => none
   | false => none
  | none => none
 | none => none
noncomputable def aBq (fuel : Nat) : adR := fun t args H next =>
 match t with
 | .fn f => match P.funcs[f]? with
  | some fn => match fn.body with
   | some code => match acG P f && Nat.ble args.length fn.ntmps with
    | true => aLD P fn next (aHz P sig pf call fuel code { slots := ab7 0 args, H := H, next := next, n := fn.ntmps })
    | false => none
   | none => none
  | none => none
 | .yld l => match H.find l with
  | some (.loop r) => match Nat.beq args.length r.ps.size with
   | true => aDo l (aFG l ((ad1 P sig pf call fuel (some l) r.body).run) ((ad1 P sig pf call fuel (some l) r.assign).run (am1 { slots := r.slots, H := H, next := next, n := r.n } r.ps.toList args)))
   | false => none
  | _ => none
end
mutual
noncomputable def aaR (P : Program) (sig : Sig) (fuel : Nat) (ext : aa6) : Nat → aa6
 | 0 => ext
 | d + 1 => aj9 ext (aIV P sig (aaR P sig fuel ext d) (ap9 P sig fuel ext d) fuel)
noncomputable def ap9 (P : Program) (sig : Sig) (fuel : Nat) (ext : aa6) : Nat → adR
 | 0 => fun _ _ _ _ => none
 | d + 1 => aBq P sig (aaR P sig fuel ext d) (ap9 P sig fuel ext d) fuel
end
section
variable {P : Program} {sig : Sig} {pf : aa6} {call : adR}
theorem aEZ {α : Type} (n : Nat) (x : α) : aE0 n x = x := by
 unfold aE0
 cases Nat.ble n 0 <;> rfl
theorem aBb (l : List (Nat × AV)) (t : Nat) : aG5 l t = acO l t := by
 induction l with
 | nil => rfl
 | cons p r ih =>
  obtain ⟨k, v⟩ := p
  show @Bool.rec (fun _ => AV) (aG5 r t) v (Nat.beq k t) = _
  simp only [acO]
  cases Nat.beq k t with
  | true => rfl
  | false => exact ih
theorem aFn (l : List (Nat × AV)) (t : Nat) : aJB l t = del l t := by
 induction l with
 | nil => rfl
 | cons p r ih =>
  obtain ⟨k, v⟩ := p
  show @Bool.rec (fun _ => List (Nat × AV)) ((k, v) :: aJB r t) (aJB r t) (Nat.beq k t) = _
  simp only [del]
  cases Nat.beq k t with
  | true => exact ih
  | false => show (k, v) :: aJB r t = _; rw [ih]
theorem ae8 (σ : St) (x : Operand) : ajW σ x = σ.eval x := by
 cases x with
 | tmp t => exact aBb _ _
 | _ => rfl
theorem aDA (dst : Option Nat) (v : AV) (σ : St) : aJx dst v σ = σ.put dst v := by
 obtain ⟨sl, H, nx, n⟩ := σ
 unfold aJx St.put
 cases dst with
 | none => rfl
 | some t =>
  simp only [aFn]
  cases Nat.blt t n <;> rfl
theorem aoD (dst : Option Nat) (v : AV) (σ : St) : axB dst v σ = some (σ.grow dst v []) := by
 obtain ⟨sl, H, nx, n⟩ := σ
 unfold axB St.grow St.put
 simp only [aEZ]
 cases dst with
 | none => rfl
 | some t =>
  simp only [aFn, yC]
  cases Nat.blt t n <;> rfl
theorem T.toO_bind {α β : Type} (r : T α) (g : α → β) : (r.bind fun a => .ok (g a)).toO = r.toO.map g := by
 induction r with
 | ok a => rfl
 | ite b x y hx hy =>
  cases b with
  | true => exact hx
  | false => exact hy
 | @need p d x hx =>
  simp only [T.bind, T.toO]
  cases d with
  | isTrue _ => exact hx
  | isFalse _ => rfl
 | bad => rfl
theorem aEQ (dst : Option Nat) (r : T AV) (σ : St) : ac8 dst r σ = aER σ dst ((r.bind fun a => .ok (a, [])).toO) := by
 rw [T.toO_bind r (fun a => (a, ([] : List (Nat × Bk))))]
 unfold ac8
 split
 ·rename_i v
  exact aoD dst v σ
 ·cases hr : r.toO with
  | none => rfl
  | some v => exact aoD dst v σ
theorem aIj (o : Oper) (σ : St) : (opK P sig pf call o).run σ = opR P sig pf call o σ := by
 have hb : ∀ (r : T AV), (∀ K H arg, arg = σ.eval → H = σ.H → (evM P (aE1 (an8 sig)) K H arg o) = r.bind fun a => .ok (a, [])) → (∀ f args ts, o.op ≠ .call ⟨.value f, args, ts⟩) → ac8 o.dst r σ = ae5 P sig pf o σ := by
  intro r hr hne
  unfold ae5
  rw [aEQ]
  have : evR P sig pf σ.next σ.H σ.eval o = (evM P (aE1 (an8 sig)) σ.next σ.H σ.eval o).toO := by
   unfold evR
   split
   ·rename_i f args ts ho; exact absurd ho (hne f args ts)
   ·rfl
  rw [this, hr σ.next σ.H σ.eval rfl rfl]
 unfold opK
 split
 ·rename_i x ho
  show axB o.dst (ajW σ x) σ = _
  rw [aoD, ae8]
  simp only [opR, ho, ae5, evR, evM, evP, T.bind, T.toO, aER]
 ·rename_i x ho
  show axB o.dst (ajW σ x) σ = _
  rw [aoD, ae8]
  simp only [opR, ho, ae5, evR, evM, evP, T.bind, T.toO, aER]
 ·rename_i c a b ho
  show ac8 o.dst (aKf (ajW σ c) (ajW σ a) (ajW σ b)) σ = _
  simp only [ae8, opR, ho]
  refine hb _ (fun K H arg e1 e2 => ?_) (by simp [ho])
  subst e1; subst e2
  simp only [evM, evP, ho]
  rfl
 ·rename_i op xt x y t ho
  show ac8 o.dst (aL3 P op xt (ai1 x || ai1 y) (ajW σ x).soft (ajW σ y).soft) σ = _
  simp only [ae8, opR, ho]
  refine hb _ (fun K H arg e1 e2 => ?_) (by simp [ho])
  subst e1; subst e2
  simp only [evM, evP, ho]
  rfl
 ·rename_i op t x ho
  show ac8 o.dst (aJH op (ajW σ x)) σ = _
  simp only [ae8, opR, ho]
  refine hb _ (fun K H arg e1 e2 => ?_) (by simp [ho])
  subst e1; subst e2
  simp only [evM, evP, ho]
 ·rename_i t a ho
  show ac8 o.dst (anJ P σ.H t (ajW σ a)) σ = _
  simp only [ae8, opR, ho]
  refine hb _ (fun K H arg e1 e2 => ?_) (by simp [ho])
  subst e1; subst e2
  simp only [evM, ho]
 ·rename_i s x f ho
  show ac8 o.dst (axI P σ.H s (ajW σ x) f) σ = _
  simp only [ae8, opR, ho]
  refine hb _ (fun K H arg e1 e2 => ?_) (by simp [ho])
  subst e1; subst e2
  simp only [evM, evP, ho]
 ·rename_i s x f ho
  show ac8 o.dst (ap3 P s (ajW σ x) f) σ = _
  simp only [ae8, opR, ho]
  refine hb _ (fun K H arg e1 e2 => ?_) (by simp [ho])
  subst e1; subst e2
  simp only [evM, evP, ho]
 ·rename_i t x i ho
  show ac8 o.dst (apW P σ.H t (ajW σ x).soft (ajW σ i)) σ = _
  simp only [ae8, opR, ho]
  refine hb _ (fun K H arg e1 e2 => ?_) (by simp [ho])
  subst e1; subst e2
  simp only [evM, evP, ho]
 ·rename_i t x i ho
  show ac8 o.dst (apV P t (ajW σ x) (ajW σ i)) σ = _
  simp only [ae8, opR, ho]
  refine hb _ (fun K H arg e1 e2 => ?_) (by simp [ho])
  subst e1; subst e2
  simp only [evM, evP, ho]
 ·rename_i t i ho
  show ac8 o.dst (aBl i (ajW σ t)) σ = _
  simp only [ae8, opR, ho]
  refine hb _ (fun K H arg e1 e2 => ?_) (by simp [ho])
  subst e1; subst e2
  simp only [evM, evP, ho]
  rfl
 ·exact aGa _
theorem al4 (ops : Array Oper) : ∀ (l : List Oper) (σ : St), (aIP P sig pf call ops l).run σ = ayM P sig pf call ops l σ
 | [], _ => rfl
 | o :: rest, σ => by
  simp only [aIP, ayM]
  cases hg : o.guard with
  | none =>
   simp only [aJI, aIj]
   cases opR P sig pf call o σ with
   | none => rfl
   | some s => exact al4 ops rest s
  | some jw =>
   obtain ⟨j, want⟩ := jw
   simp only
   cases ht : abC ops j with
   | none => rfl
   | some t =>
    simp only [aIo, aBb, aBi]
    split
    ·rename_i x hx
     simp only [aDA, aIj, hx]
     cases hsb : arM x want with
     | true =>
      simp only
      cases opR P sig pf call o (σ.put (some t) (.d .bool x)) with
      | none => rfl
      | some s => exact al4 ops rest s
     | false => exact al4 ops rest _
    ·rename_i hx
     simp only [aDA, hx]; exact al4 ops rest _
    ·rename_i h1 h2
     split
     ·rename_i x hx; exact absurd hx (h1 x)
     ·rename_i hx; exact absurd hx h2
     ·rfl
theorem afF {fuel : Nat} {rd : Option Nat} : ∀ (c : Code) (σ : St), (ad1 P sig pf call fuel rd c).run σ = abO P sig fuel pf call rd c σ
 | .skip, _ => by simp only [ad1, abO]
 | .region _ ops draw, σ => by
  cases draw with
  | false => simp only [ad1, abO, al4]
  | true => simp only [ad1, abO, an6]
 | .seq x y, σ => by
  have h : (ad1 P sig pf call fuel rd y).run = abO P sig fuel pf call rd y := funext (afF y)
  simp only [ad1, abO, aKJ, afF x, h]
  cases abO P sig fuel pf call rd x σ with
  | none => rfl
  | some p =>
   obtain ⟨e, s⟩ := p
   cases e <;> rfl
 | .cond c x y, σ => by
  simp only [ad1, abO, aKD, aFr, ae8]
  split
  ·rename_i b hb
   simp only [hb]
   cases b with
   | true => exact afF x σ
   | false => exact afF y σ
  ·rename_i h1
   split
   ·rename_i b hb; exact absurd hb (h1 b)
   ·rfl
 | .block id c, σ => by simp only [ad1, abO, afF c]
 | .loop c, σ => by
  have h : (ad1 P sig pf call fuel rd c).run = abO P sig fuel pf call rd c := funext (afF c)
  simp only [ad1, abO, h]
 | .exit _, _ => by simp only [ad1, abO]
 | .ret, _ => by simp only [ad1, abO]
 | .label _, _ => by simp only [ad1, abO]
 | .scope c, σ => by simp only [ad1, abO, afF c]
 | .rangeFunc _ _ _ _, _ => by simp only [ad1, an6]
 | .goto _, _ => by simp only [ad1, an6]
 | .refuse _, _ => by simp only [ad1, an6]
theorem aBx (fuel : Nat) : aHz P sig pf call fuel = aCO P sig fuel pf call := by
 unfold aHz aCO
 rw [show (fun ops l => (aIP P sig pf call ops l).run) = ayM P sig pf call from funext fun ops => funext fun l => funext fun σ => al4 ops l σ]
 rw [show (fun rd c => (ad1 P sig pf call fuel rd c).run) = abO P sig fuel pf call from funext fun rd => funext fun c => funext fun σ => afF c σ]
theorem aGr (fuel : Nat) : aIV P sig pf call fuel = aDB P sig fuel pf call := by
 funext f A R x
 unfold aIV aDB
 simp only [aBx]
 rfl
theorem aFa (fuel : Nat) : aBq P sig pf call fuel = ap8 P sig fuel pf call := by
 funext t args H next
 have h : ∀ rd c, (ad1 P sig pf call fuel rd c).run = abO P sig fuel pf call rd c := fun rd c => funext (afF c)
 cases t with
 | fn f => simp only [aBq, ap8, aBx]; rfl
 | yld l => simp only [aBq, ap8, h]; rfl
theorem ay3 (fuel : Nat) (ext : aa6) : ∀ d, aaR P sig fuel ext d = awJ P sig fuel ext d ∧ ap9 P sig fuel ext d = anR P sig fuel ext d
 | 0 => ⟨by simp only [aaR, awJ], by simp only [ap9, anR]⟩
 | d + 1 => by
  obtain ⟨h1, h2⟩ := ay3 fuel ext d
  exact ⟨by simp only [aaR, awJ, h1, h2, aGr], by simp only [ap9, anR, h1, h2, aFa]⟩
end
end Go.Vg
