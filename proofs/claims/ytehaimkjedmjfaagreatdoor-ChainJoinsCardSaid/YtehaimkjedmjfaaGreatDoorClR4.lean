/-
  A runner over the evaluator, and calls that have been run. Own work; no condition.
-/
import Derived.Test.YtehaimkjedmjfaaGreatDoorClR3
set_option linter.unusedVariables false
set_option linter.unusedSimpArgs false
namespace Go.Vg
open Go Go.RowKit
structure Fn (α β : Type) where
 run : α → β
noncomputable def aGW {α : Type} (n : Nat) (x : α) : α := @Bool.rec (fun _ => α) x x (Nat.ble n 0)
noncomputable def aGU {α : Type} (n : Nat) (f : Nat → α) : α := @Nat.rec (fun _ => α) (f 0) (fun m _ => f (Nat.succ m)) n
theorem aGT {α : Type} (n : Nat) (f : Nat → α) : aGU n f = f n := by cases n <;> rfl
noncomputable def aH3 {α : Type} (σ : St) (f : St → α) : α :=
 match σ with
 | ⟨sl, H, nx, n⟩ => aGU n fun n => aGU nx fun nx => f ⟨sl, H, nx, n⟩
theorem aCc {α : Type} (σ : St) (f : St → α) : aH3 σ f = f σ := by simp only [aH3, aGT]
noncomputable def aKN (r : Option St) : Option St :=
 match r with
 | some σ => aH3 σ some
 | none => none
theorem aH4 (r : Option St) : aKN r = r := by cases r <;> simp only [aKN, aCc]
noncomputable def aH2 (r : Option (Exit × St)) : Option (Exit × St) :=
 match r with
 | some (e, σ) => aH3 σ fun σ => some (e, σ)
 | none => none
theorem apN (r : Option (Exit × St)) : aH2 r = r := by cases r <;> simp only [aH2, aCc]
noncomputable def aIV (l : List (Nat × AV)) (t : Nat) : AV :=
 @List.rec (Nat × AV) (fun _ => AV) .no (fun p _ ih => @Bool.rec (fun _ => AV) ih p.2 (Nat.beq p.1 t)) l
noncomputable def aLG (l : List (Nat × AV)) (t : Nat) : List (Nat × AV) :=
 @List.rec (Nat × AV) (fun _ => List (Nat × AV)) [] (fun p _ ih => @Bool.rec (fun _ => List (Nat × AV)) (p :: ih) ih (Nat.beq p.1 t)) l
noncomputable def akS (σ : St) (x : Operand) : AV :=
 match x with
 | .tmp t => aIV σ.slots t
 | .const v => aoE v
 | .func f => .fn f [] []
 | .global _ => .no
noncomputable def azH (dst : Option Nat) (v : AV) (σ : St) : Option St :=
 match σ with
 | ⟨sl, H, nx, n⟩ => aGW nx (match dst with
  | some t => match Nat.blt t n with
   | true => some ⟨(t, v) :: aLG sl t, H, Nat.succ nx, n⟩
   | false => some ⟨sl, H, Nat.succ nx, n⟩
  | none => some ⟨sl, H, Nat.succ nx, n⟩)
noncomputable def aLC (dst : Option Nat) (v : AV) (σ : St) : St :=
 match σ with
 | ⟨sl, H, nx, n⟩ => match dst with
  | some t => match Nat.blt t n with
   | true => ⟨(t, v) :: aLG sl t, H, nx, n⟩
   | false => ⟨sl, H, nx, n⟩
  | none => ⟨sl, H, nx, n⟩
noncomputable def adE (dst : Option Nat) (r : T AV) (σ : St) : Option St :=
 match r with
 | .ok v => azH dst v σ
 | r => match r.toO with
  | some v => azH dst v σ
  | none => none
def aMh (c a b : AV) : T AV :=
 match c with
 | .d .bool x => aCs x a b
 | _ => .bad
def aNQ (P : Program) (op : BinOp) (xt : TypeId) (t : Ty) (a : t.T) (b : AV) : T AV :=
 match b with
 | .d u b => match t.agg with
  | true => aJc P op xt t a u b
  | false => match azW P t xt with
   | true => aM7 op t a u b
   | false => .bad
 | .nsl => aJa P op xt t a
 | _ => .bad
def aNP (P : Program) (op : BinOp) (xt : TypeId) (c : Bool) (b : AV) : T AV :=
 match c with
 | true => an7 P op xt .nili b
 | false => .bad
def aN8 (P : Program) (op : BinOp) (xt : TypeId) (c : Bool) (a b : AV) : T AV :=
 match a with
 | .d t a => aNQ P op xt t a b
 | .nili => aNP P op xt c b
 | a => an7 P op xt a b
def aCO (i : Nat) (a : AV) : T AV :=
 match a with
 | .tup l => T.ofO l[i]?
 | _ => .bad
section
variable (P : Program) (sig : Sig) (pf : abA) (call : adY)
noncomputable def aOm (o : Oper) (σ : St) : Option St := aKN (opR P sig pf call o σ)
noncomputable def opK (o : Oper) : Fn St (Option St) :=
 match o.op with
 | .move x => ⟨fun σ => azH o.dst (akS σ x) σ⟩
 | .assign x => ⟨fun σ => azH o.dst (akS σ x) σ⟩
 | .pick c a b => ⟨fun σ => adE o.dst (aMh (akS σ c) (akS σ a) (akS σ b)) σ⟩
 | .binOp op xt x y _ => ⟨fun σ => adE o.dst (aN8 P op xt (ajV x || ajV y) (akS σ x).soft (akS σ y).soft) σ⟩
 | .unOp op _ x => ⟨fun σ => adE o.dst (aLQ op (akS σ x)) σ⟩
 | .load t a => ⟨fun σ => adE o.dst (ao2 P σ.H t (akS σ a)) σ⟩
 | .fieldAddr s x f => ⟨fun σ => adE o.dst (azO P σ.H s (akS σ x) f) σ⟩
 | .field s x f => ⟨fun σ => adE o.dst (arU P s (akS σ x) f) σ⟩
 | .indexAddr t x i => ⟨fun σ => adE o.dst (arN P σ.H t (akS σ x).soft (akS σ i)) σ⟩
 | .index t x i => ⟨fun σ => adE o.dst (arM P t (akS σ x) (akS σ i)) σ⟩
 | .extract t i => ⟨fun σ => adE o.dst (aCO i (akS σ t)) σ⟩
 | _ => ⟨aOm P sig pf call o⟩
noncomputable def aLR (f g : Fn St (Option St)) : Fn St (Option St) := ⟨fun σ => match f.run σ with
 | some σ' => g.run σ'
 | none => none⟩
noncomputable def aCK (t : Nat) (want : Bool) (dst : Option Nat) (f g : Fn St (Option St)) (σ : St) (a : AV) : Option St :=
 match a with
 | .d .bool x => match as9 x want with
  | true => match f.run (aLC (some t) (.d .bool x) σ) with
   | some σ' => g.run σ'
   | none => none
  | false => g.run (aLC dst .und (aLC (some t) (.d .bool x) σ))
 | .und => g.run (aLC dst .und σ)
 | _ => none
noncomputable def aKq (t : Nat) (want : Bool) (dst : Option Nat) (f g : Fn St (Option St)) : Fn St (Option St) := ⟨fun σ => aCK t want dst f g σ (aIV σ.slots t)⟩
noncomputable def aKR (ops : Array Oper) : List Oper → Fn St (Option St)
 | [] => ⟨some⟩
 | o :: rest => match o.guard with
  | none => aLR (opK P sig pf call o) (aKR ops rest)
  | some (j, want) => match abG ops j with
   | some t => aKq t want o.dst (opK P sig pf call o) (aKR ops rest)
   | none => ⟨fun _ => none⟩
noncomputable def aML (f g : Fn St (Option (Exit × St))) : Fn St (Option (Exit × St)) := ⟨fun σ => match f.run σ with
 | some (.normal, σ') => g.run σ'
 | r => r⟩
noncomputable def aHm (f g : Fn St (Option (Exit × St))) (σ : St) (a : AV) : Option (Exit × St) :=
 match a with
 | .d .bool b => match (b : Bool) with
  | true => f.run σ
  | false => g.run σ
 | _ => none
noncomputable def aMF (c : Operand) (f g : Fn St (Option (Exit × St))) : Fn St (Option (Exit × St)) := ⟨fun σ => aHm f g σ (akS σ c)⟩
noncomputable def ad6 (fuel : Nat) (rd : Option Nat) : Code → Fn St (Option (Exit × St))
 | .skip => ⟨fun σ => some (.normal, σ)⟩
 | .region _ ops draw => match draw with
  | false => ⟨fun σ => aD1 ((aKR P sig pf call ops ops.toList).run σ) (aHQ P sig pf call ops ops.toList σ)⟩
  | true => ⟨fun σ => aH2 <| aD1 (aLj P sig pf call ops σ) (aJi P sig pf call ops (σ.forDraw (aDb sig) ops.toList))⟩
 | .seq x y => aML (ad6 fuel rd x) (ad6 fuel rd y)
 | .cond c x y => aMF c (ad6 fuel rd x) (ad6 fuel rd y)
 | .block id c => ⟨fun σ => aHz id ((ad6 fuel rd c).run σ)⟩
 | .loop c => ⟨fun σ => aMn (ad6 fuel rd c).run fuel σ⟩
 | .exit id => ⟨fun σ => some (.exit id, σ)⟩
 | .ret => ⟨fun σ => some (.ret, σ)⟩
 | .label _ => ⟨fun σ => some (.normal, σ)⟩
 | .scope c => ⟨fun σ => aJC ((ad6 fuel rd c).run σ)⟩
 | c => ⟨fun σ => aH2 (abU P sig fuel pf call rd c σ)⟩
noncomputable def aJq (fuel : Nat) : Code → St → Option (Exit × St) :=
 aLs P (fun ops l => (aKR P sig pf call ops l).run) (fun rd c => (ad6 P sig pf call fuel rd c).run)
noncomputable def aKY (fuel : Nat) : abA := fun f A R x =>
 match P.funcs[f]? with
 | some fn => match fn.body with
  | some code => match acJ P f && Nat.ble (aj2 A x).length fn.ntmps with
   | true => match aL3 P fn (aJq P sig pf call fuel code { slots := ab8 0 (aj2 A x), H := [], next := 0, n := fn.ntmps }) with
    | some (l, σ) => amD R (AV.maps (fun _ => false) (aD5 σ.H) l)
    | none => none
   | false => none
  | none => none
 | none => none
noncomputable def aCT (fuel : Nat) : adY := fun t args H next =>
 match t with
 | .fn f => match P.funcs[f]? with
  | some fn => match fn.body with
   | some code => match acJ P f && Nat.ble args.length fn.ntmps with
    | true => aNJ P fn next (aJq P sig pf call fuel code { slots := ab8 0 args, H := H, next := next, n := fn.ntmps })
    | false => none
   | none => none
  | none => none
 | .yld l => match H.find l with
  | some (.loop r) => match Nat.beq args.length r.ps.size with
   | true => aE8 l (aHB l ((ad6 P sig pf call fuel (some l) r.body).run) ((ad6 P sig pf call fuel (some l) r.assign).run (aoJ { slots := r.slots, H := H, next := next, n := r.n } r.ps.toList args)))
   | false => none
  | _ => none
end
mutual
noncomputable def aaT (P : Program) (sig : Sig) (fuel : Nat) (ext : abA) : Nat → abA
 | 0 => ext
 | d + 1 => ak7 ext (aKY P sig (aaT P sig fuel ext d) (ar1 P sig fuel ext d) fuel)
noncomputable def ar1 (P : Program) (sig : Sig) (fuel : Nat) (ext : abA) : Nat → adY
 | 0 => fun _ _ _ _ => none
 | d + 1 => aCT P sig (aaT P sig fuel ext d) (ar1 P sig fuel ext d) fuel
end
section
variable {P : Program} {sig : Sig} {pf : abA} {call : adY}
theorem aGV {α : Type} (n : Nat) (x : α) : aGW n x = x := by
 unfold aGW
 cases Nat.ble n 0 <;> rfl
theorem aCD (l : List (Nat × AV)) (t : Nat) : aIV l t = acR l t := by
 induction l with
 | nil => rfl
 | cons p r ih =>
  obtain ⟨k, v⟩ := p
  show @Bool.rec (fun _ => AV) (aIV r t) v (Nat.beq k t) = _
  simp only [acR]
  cases Nat.beq k t with
  | true => rfl
  | false => exact ih
theorem aHi (l : List (Nat × AV)) (t : Nat) : aLG l t = del l t := by
 induction l with
 | nil => rfl
 | cons p r ih =>
  obtain ⟨k, v⟩ := p
  show @Bool.rec (fun _ => List (Nat × AV)) ((k, v) :: aLG r t) (aLG r t) (Nat.beq k t) = _
  simp only [del]
  cases Nat.beq k t with
  | true => exact ih
  | false => show (k, v) :: aLG r t = _; rw [ih]
theorem afF (σ : St) (x : Operand) : akS σ x = σ.eval x := by
 cases x with
 | tmp t => exact aCD _ _
 | _ => rfl
theorem aFm (dst : Option Nat) (v : AV) (σ : St) : aLC dst v σ = σ.put dst v := by
 obtain ⟨sl, H, nx, n⟩ := σ
 unfold aLC St.put
 cases dst with
 | none => rfl
 | some t =>
  simp only [aHi]
  cases Nat.blt t n <;> rfl
theorem apU (dst : Option Nat) (v : AV) (σ : St) : azH dst v σ = some (σ.grow dst v []) := by
 obtain ⟨sl, H, nx, n⟩ := σ
 unfold azH St.grow St.put
 simp only [aGV]
 cases dst with
 | none => rfl
 | some t =>
  simp only [aHi, yE]
  cases Nat.blt t n <;> rfl
theorem T.toO_bind {α β : Type} (r : T α) (g : α → β) : (r.bind fun a => .ok (g a)).toO = r.toO.map g := by
 induction r with
 | ok a => rfl
 | ite b x y hx hy =>
  cases b with
  | true => exact hx
  | false => exact hy
 | @need p d x hx =>
  simp only [T.bind, T.toO]
  cases d with
  | isTrue _ => exact hx
  | isFalse _ => rfl
 | bad => rfl
theorem aGO (dst : Option Nat) (r : T AV) (σ : St) : adE dst r σ = aGP σ dst ((r.bind fun a => .ok (a, [])).toO) := by
 rw [T.toO_bind r (fun a => (a, ([] : List (Nat × Bk))))]
 unfold adE
 split
 ·rename_i v
  exact apU dst v σ
 ·cases hr : r.toO with
  | none => rfl
  | some v => exact apU dst v σ
theorem aKl (o : Oper) (σ : St) : (opK P sig pf call o).run σ = opR P sig pf call o σ := by
 have hb : ∀ (r : T AV), (∀ K H arg, arg = σ.eval → H = σ.H → (evM P (aGX (apP sig)) K H arg o) = r.bind fun a => .ok (a, [])) → (∀ f args ts, o.op ≠ .call ⟨.value f, args, ts⟩) → adE o.dst r σ = afC P sig pf o σ := by
  intro r hr hne
  unfold afC
  rw [aGO]
  have : evR P sig pf σ.next σ.H σ.eval o = (evM P (aGX (apP sig)) σ.next σ.H σ.eval o).toO := by
   unfold evR
   split
   ·rename_i f args ts ho; exact absurd ho (hne f args ts)
   ·rfl
  rw [this, hr σ.next σ.H σ.eval rfl rfl]
 unfold opK
 split
 ·rename_i x ho
  show azH o.dst (akS σ x) σ = _
  rw [apU, afF]
  simp only [opR, ho, afC, evR, evM, evP, T.bind, T.toO, aGP]
 ·rename_i x ho
  show azH o.dst (akS σ x) σ = _
  rw [apU, afF]
  simp only [opR, ho, afC, evR, evM, evP, T.bind, T.toO, aGP]
 ·rename_i c a b ho
  show adE o.dst (aMh (akS σ c) (akS σ a) (akS σ b)) σ = _
  simp only [afF, opR, ho]
  refine hb _ (fun K H arg e1 e2 => ?_) (by simp [ho])
  subst e1; subst e2
  simp only [evM, evP, ho]
  rfl
 ·rename_i op xt x y t ho
  show adE o.dst (aN8 P op xt (ajV x || ajV y) (akS σ x).soft (akS σ y).soft) σ = _
  simp only [afF, opR, ho]
  refine hb _ (fun K H arg e1 e2 => ?_) (by simp [ho])
  subst e1; subst e2
  simp only [evM, evP, ho]
  rfl
 ·rename_i op t x ho
  show adE o.dst (aLQ op (akS σ x)) σ = _
  simp only [afF, opR, ho]
  refine hb _ (fun K H arg e1 e2 => ?_) (by simp [ho])
  subst e1; subst e2
  simp only [evM, evP, ho]
 ·rename_i t a ho
  show adE o.dst (ao2 P σ.H t (akS σ a)) σ = _
  simp only [afF, opR, ho]
  refine hb _ (fun K H arg e1 e2 => ?_) (by simp [ho])
  subst e1; subst e2
  simp only [evM, ho]
 ·rename_i s x f ho
  show adE o.dst (azO P σ.H s (akS σ x) f) σ = _
  simp only [afF, opR, ho]
  refine hb _ (fun K H arg e1 e2 => ?_) (by simp [ho])
  subst e1; subst e2
  simp only [evM, evP, ho]
 ·rename_i s x f ho
  show adE o.dst (arU P s (akS σ x) f) σ = _
  simp only [afF, opR, ho]
  refine hb _ (fun K H arg e1 e2 => ?_) (by simp [ho])
  subst e1; subst e2
  simp only [evM, evP, ho]
 ·rename_i t x i ho
  show adE o.dst (arN P σ.H t (akS σ x).soft (akS σ i)) σ = _
  simp only [afF, opR, ho]
  refine hb _ (fun K H arg e1 e2 => ?_) (by simp [ho])
  subst e1; subst e2
  simp only [evM, evP, ho]
 ·rename_i t x i ho
  show adE o.dst (arM P t (akS σ x) (akS σ i)) σ = _
  simp only [afF, opR, ho]
  refine hb _ (fun K H arg e1 e2 => ?_) (by simp [ho])
  subst e1; subst e2
  simp only [evM, evP, ho]
 ·rename_i t i ho
  show adE o.dst (aCO i (akS σ t)) σ = _
  simp only [afF, opR, ho]
  refine hb _ (fun K H arg e1 e2 => ?_) (by simp [ho])
  subst e1; subst e2
  simp only [evM, evP, ho]
  rfl
 ·exact aH4 _
theorem anF (ops : Array Oper) : ∀ (l : List Oper) (σ : St), (aKR P sig pf call ops l).run σ = aAy P sig pf call ops l σ
 | [], _ => rfl
 | o :: rest, σ => by
  simp only [aKR, aAy]
  cases hg : o.guard with
  | none =>
   simp only [aLR, aKl]
   cases opR P sig pf call o σ with
   | none => rfl
   | some s => exact anF ops rest s
  | some jw =>
   obtain ⟨j, want⟩ := jw
   simp only
   cases ht : abG ops j with
   | none => rfl
   | some t =>
    simp only [aKq, aCD, aCK]
    split
    ·rename_i x hx
     simp only [aFm, aKl, hx]
     cases hsb : as9 x want with
     | true =>
      simp only
      cases opR P sig pf call o (σ.put (some t) (.d .bool x)) with
      | none => rfl
      | some s => exact anF ops rest s
     | false => exact anF ops rest _
    ·rename_i hx
     simp only [aFm, hx]; exact anF ops rest _
    ·rename_i h1 h2
     split
     ·rename_i x hx; exact absurd hx (h1 x)
     ·rename_i hx; exact absurd hx h2
     ·rfl
theorem afQ {fuel : Nat} {rd : Option Nat} : ∀ (c : Code) (σ : St), (ad6 P sig pf call fuel rd c).run σ = abU P sig fuel pf call rd c σ
 | .skip, _ => by simp only [ad6, abU]
 | .region _ ops draw, σ => by
  cases draw with
  | false => simp only [ad6, abU, anF]
  | true => simp only [ad6, abU, apN]
 | .seq x y, σ => by
  have h : (ad6 P sig pf call fuel rd y).run = abU P sig fuel pf call rd y := funext (afQ y)
  simp only [ad6, abU, aML, afQ x, h]
  cases abU P sig fuel pf call rd x σ with
  | none => rfl
  | some p =>
   obtain ⟨e, s⟩ := p
   cases e <;> rfl
 | .cond c x y, σ => by
  simp only [ad6, abU, aMF, aHm, afF]
  split
  ·rename_i b hb
   simp only [hb]
   cases b with
   | true => exact afQ x σ
   | false => exact afQ y σ
  ·rename_i h1
   split
   ·rename_i b hb; exact absurd hb (h1 b)
   ·rfl
 | .block id c, σ => by simp only [ad6, abU, afQ c]
 | .loop c, σ => by
  have h : (ad6 P sig pf call fuel rd c).run = abU P sig fuel pf call rd c := funext (afQ c)
  simp only [ad6, abU, h]
 | .exit _, _ => by simp only [ad6, abU]
 | .ret, _ => by simp only [ad6, abU]
 | .label _, _ => by simp only [ad6, abU]
 | .scope c, σ => by simp only [ad6, abU, afQ c]
 | .rangeFunc _ _ _ _, _ => by simp only [ad6, apN]
 | .goto _, _ => by simp only [ad6, apN]
 | .refuse _, _ => by simp only [ad6, apN]
theorem aCZ (fuel : Nat) : aJq P sig pf call fuel = aEx P sig fuel pf call := by
 unfold aJq aEx
 rw [show (fun ops l => (aKR P sig pf call ops l).run) = aAy P sig pf call from funext fun ops => funext fun l => funext fun σ => anF ops l σ]
 rw [show (fun rd c => (ad6 P sig pf call fuel rd c).run) = abU P sig fuel pf call from funext fun rd => funext fun c => funext fun σ => afQ c σ]
theorem aIp (fuel : Nat) : aKY P sig pf call fuel = aFn P sig fuel pf call := by
 funext f A R x
 unfold aKY aFn
 simp only [aCZ]
 rfl
theorem aG6 (fuel : Nat) : aCT P sig pf call fuel = ar0 P sig fuel pf call := by
 funext t args H next
 have h : ∀ rd c, (ad6 P sig pf call fuel rd c).run = abU P sig fuel pf call rd c := fun rd c => funext (afQ c)
 cases t with
 | fn f => simp only [aCT, ar0, aCZ]; rfl
 | yld l => simp only [aCT, ar0, h]; rfl
theorem aAL (fuel : Nat) (ext : abA) : ∀ d, aaT P sig fuel ext d = ayO P sig fuel ext d ∧ ar1 P sig fuel ext d = apA P sig fuel ext d
 | 0 => ⟨by simp only [aaT, ayO], by simp only [ar1, apA]⟩
 | d + 1 => by
  obtain ⟨h1, h2⟩ := aAL fuel ext d
  exact ⟨by simp only [aaT, ayO, h1, h2, aIp], by simp only [ar1, apA, h1, h2, aG6]⟩
end
end Go.Vg
