/-
  A runner over the evaluator, and calls that have been run. Own work; no condition.
-/
import Derived.Test.YteidbklnpgfldaaGreatDoorClR3
set_option linter.unusedVariables false
set_option linter.unusedSimpArgs false
namespace Go.Vg
open Go Go.RowKit
structure Fn (α β : Type) where
 run : α → β
noncomputable def aIB {α : Type} (n : Nat) (x : α) : α := @Bool.rec (fun _ => α) x x (Nat.ble n 0)
noncomputable def aIz {α : Type} (n : Nat) (f : Nat → α) : α := @Nat.rec (fun _ => α) (f 0) (fun m _ => f (Nat.succ m)) n
theorem aIy {α : Type} (n : Nat) (f : Nat → α) : aIz n f = f n := by cases n <;> rfl
noncomputable def aJ8 {α : Type} (σ : St) (f : St → α) : α :=
 match σ with
 | ⟨sl, H, nx, n⟩ => aIz n fun n => aIz nx fun nx => f ⟨sl, H, nx, n⟩
theorem aDj {α : Type} (σ : St) (f : St → α) : aJ8 σ f = f σ := by simp only [aJ8, aIy]
noncomputable def aNL (r : Option St) : Option St :=
 match r with
 | some σ => aJ8 σ some
 | none => none
theorem aJ9 (r : Option St) : aNL r = r := by cases r <;> simp only [aNL, aDj]
noncomputable def aJ7 (r : Option (Exit × St)) : Option (Exit × St) :=
 match r with
 | some (e, σ) => aJ8 σ fun σ => some (e, σ)
 | none => none
theorem apX (r : Option (Exit × St)) : aJ7 r = r := by cases r <;> simp only [aJ7, aDj]
noncomputable def aLx (l : List (Nat × AV)) (t : Nat) : AV :=
 @List.rec (Nat × AV) (fun _ => AV) .no (fun p _ ih => @Bool.rec (fun _ => AV) ih p.2 (Nat.beq p.1 t)) l
noncomputable def aO3 (l : List (Nat × AV)) (t : Nat) : List (Nat × AV) :=
 @List.rec (Nat × AV) (fun _ => List (Nat × AV)) [] (fun p _ ih => @Bool.rec (fun _ => List (Nat × AV)) (p :: ih) ih (Nat.beq p.1 t)) l
noncomputable def akI (σ : St) (x : Operand) : AV :=
 match x with
 | .tmp t => aLx σ.slots t
 | .const v => aoH v
 | .func f => .fn f [] []
 | .global _ => .no
noncomputable def aAv (dst : Option Nat) (v : AV) (σ : St) : Option St :=
 match σ with
 | ⟨sl, H, nx, n⟩ => aIB nx (match dst with
  | some t => match Nat.blt t n with
   | true => some ⟨(t, v) :: aO3 sl t, H, Nat.succ nx, n⟩
   | false => some ⟨sl, H, Nat.succ nx, n⟩
  | none => some ⟨sl, H, Nat.succ nx, n⟩)
noncomputable def aO0 (dst : Option Nat) (v : AV) (σ : St) : St :=
 match σ with
 | ⟨sl, H, nx, n⟩ => match dst with
  | some t => match Nat.blt t n with
   | true => ⟨(t, v) :: aO3 sl t, H, nx, n⟩
   | false => ⟨sl, H, nx, n⟩
  | none => ⟨sl, H, nx, n⟩
noncomputable def adL (dst : Option Nat) (r : T AV) (σ : St) : Option St :=
 match r with
 | .ok v => aAv dst v σ
 | r => match r.toO with
  | some v => aAv dst v σ
  | none => none
def aPS (c a b : AV) : T AV :=
 match c with
 | .d .bool x => aDE x a b
 | _ => .bad
def aRM (P : Program) (op : BinOp) (xt : TypeId) (t : Ty) (a : t.T) (b : AV) : T AV :=
 match b with
 | .d u b => match t.agg with
  | true => aLT P op xt t a u b
  | false => match aAU P t xt with
   | true => aQV op t a u b
   | false => .bad
 | .nsl => aLR P op xt t a
 | _ => .bad
def aRL (P : Program) (op : BinOp) (xt : TypeId) (c : Bool) (b : AV) : T AV :=
 match c with
 | true => aoD P op xt .nili b
 | false => .bad
def aR3 (P : Program) (op : BinOp) (xt : TypeId) (c : Bool) (a b : AV) : T AV :=
 match a with
 | .d t a => aRM P op xt t a b
 | .nili => aRL P op xt c b
 | a => aoD P op xt a b
def aD4 (i : Nat) (a : AV) : T AV :=
 match a with
 | .tup l => T.ofO l[i]?
 | _ => .bad
section
variable (P : Program) (sig : Sig) (pf : aa4) (call : ad2)
noncomputable def aSg (o : Oper) (σ : St) : Option St := aNL (opR P sig pf call o σ)
noncomputable def opK (o : Oper) : Fn St (Option St) :=
 match o.op with
 | .move x => ⟨fun σ => aAv o.dst (akI σ x) σ⟩
 | .assign x => ⟨fun σ => aAv o.dst (akI σ x) σ⟩
 | .pick c a b => ⟨fun σ => adL o.dst (aPS (akI σ c) (akI σ a) (akI σ b)) σ⟩
 | .binOp op xt x y _ => ⟨fun σ => adL o.dst (aR3 P op xt (ajP x || ajP y) (akI σ x).soft (akI σ y).soft) σ⟩
 | .unOp op _ x => ⟨fun σ => adL o.dst (aO8 op (akI σ x)) σ⟩
 | .load t a => ⟨fun σ => adL o.dst (ao3 P σ.H t (akI σ a)) σ⟩
 | .fieldAddr s x f => ⟨fun σ => adL o.dst (aAM P σ.H s (akI σ x) f) σ⟩
 | .field s x f => ⟨fun σ => adL o.dst (asJ P s (akI σ x) f) σ⟩
 | .indexAddr t x i => ⟨fun σ => adL o.dst (ar7 P σ.H t (akI σ x).soft (akI σ i)) σ⟩
 | .index t x i => ⟨fun σ => adL o.dst (ar6 P t (akI σ x) (akI σ i)) σ⟩
 | .extract t i => ⟨fun σ => adL o.dst (aD4 i (akI σ t)) σ⟩
 | _ => ⟨aSg P sig pf call o⟩
noncomputable def aO9 (f g : Fn St (Option St)) : Fn St (Option St) := ⟨fun σ => match f.run σ with
 | some σ' => g.run σ'
 | none => none⟩
noncomputable def aDZ (t : Nat) (want : Bool) (dst : Option Nat) (f g : Fn St (Option St)) (σ : St) (a : AV) : Option St :=
 match a with
 | .d .bool x => match at2 x want with
  | true => match f.run (aO0 (some t) (.d .bool x) σ) with
   | some σ' => g.run σ'
   | none => none
  | false => g.run (aO0 dst .und (aO0 (some t) (.d .bool x) σ))
 | .und => g.run (aO0 dst .und σ)
 | _ => none
noncomputable def aNs (t : Nat) (want : Bool) (dst : Option Nat) (f g : Fn St (Option St)) : Fn St (Option St) := ⟨fun σ => aDZ t want dst f g σ (aLx σ.slots t)⟩
noncomputable def aNT (ops : Array Oper) : List Oper → Fn St (Option St)
 | [] => ⟨some⟩
 | o :: rest => match o.guard with
  | none => aO9 (opK P sig pf call o) (aNT ops rest)
  | some (j, want) => match abB ops j with
   | some t => aNs t want o.dst (opK P sig pf call o) (aNT ops rest)
   | none => ⟨fun _ => none⟩
noncomputable def aQy (f g : Fn St (Option (Exit × St))) : Fn St (Option (Exit × St)) := ⟨fun σ => match f.run σ with
 | some (.normal, σ') => g.run σ'
 | r => r⟩
noncomputable def aJh (f g : Fn St (Option (Exit × St))) (σ : St) (a : AV) : Option (Exit × St) :=
 match a with
 | .d .bool b => match (b : Bool) with
  | true => f.run σ
  | false => g.run σ
 | _ => none
noncomputable def aQs (c : Operand) (f g : Fn St (Option (Exit × St))) : Fn St (Option (Exit × St)) := ⟨fun σ => aJh f g σ (akI σ c)⟩
noncomputable def aeC (fuel : Nat) (rd : Option Nat) : Code → Fn St (Option (Exit × St))
 | .skip => ⟨fun σ => some (.normal, σ)⟩
 | .region _ ops draw => match draw with
  | false => ⟨fun σ => aFe ((aNT P sig pf call ops ops.toList).run σ) (aJV P sig pf call ops ops.toList σ)⟩
  | true => ⟨fun σ => aJ7 <| aFe (aOI P sig pf call ops σ) (aLW P sig pf call ops (σ.forDraw (aEv sig) ops.toList))⟩
 | .seq x y => aQy (aeC fuel rd x) (aeC fuel rd y)
 | .cond c x y => aQs c (aeC fuel rd x) (aeC fuel rd y)
 | .block id c => ⟨fun σ => aJr id ((aeC fuel rd c).run σ)⟩
 | .loop c => ⟨fun σ => aP8 (aeC fuel rd c).run fuel σ⟩
 | .exit id => ⟨fun σ => some (.exit id, σ)⟩
 | .ret => ⟨fun σ => some (.ret, σ)⟩
 | .label _ => ⟨fun σ => some (.normal, σ)⟩
 | .scope c => ⟨fun σ => aMj ((aeC fuel rd c).run σ)⟩
 | c => ⟨fun σ => aJ7 (abT P sig fuel pf call rd c σ)⟩
noncomputable def aL2 (fuel : Nat) : Code → St → Option (Exit × St) :=
 aOR P (fun ops l => (aNT P sig pf call ops l).run) (fun rd c => (aeC P sig pf call fuel rd c).run)
noncomputable def aN6 (fuel : Nat) : aa4 := fun f A R x =>
 match P.funcs[f]? with
 | some fn => match fn.body with
  | some code => match acM P f && Nat.ble (ajY A x).length fn.ntmps with
   | true => match aPi P fn (aL2 P sig pf call fuel code { slots := acF 0 (ajY A x), H := [], next := 0, n := fn.ntmps }) with
    | some (l, σ) => al7 R (AV.maps (fun _ => false) (aFj σ.H) l)
    | none => none
   | false => none
  | none => none
 | none => none
noncomputable def aD9 (fuel : Nat) : ad2 := fun t args H next =>
 match t with
 | .fn f => match P.funcs[f]? with
  | some fn => match fn.body with
   | some code => match acM P f && Nat.ble args.length fn.ntmps with
    | true => aRG P fn next (aL2 P sig pf call fuel code { slots := acF 0 args, H := H, next := next, n := fn.ntmps })
    | false => none
   | none => none
  | none => none
 | .yld l => match H.find l with
  | some (.loop r) => match Nat.beq args.length r.ps.size with
   | true => aGu l (aJt l ((aeC P sig pf call fuel (some l) r.body).run) ((aeC P sig pf call fuel (some l) r.assign).run (aoJ { slots := r.slots, H := H, next := next, n := r.n } r.ps.toList args)))
   | false => none
  | _ => none
end
mutual
noncomputable def aaG (P : Program) (sig : Sig) (fuel : Nat) (ext : aa4) : Nat → aa4
 | 0 => ext
 | d + 1 => ahK ext (aN6 P sig (aaG P sig fuel ext d) (asS P sig fuel ext d) fuel)
noncomputable def asS (P : Program) (sig : Sig) (fuel : Nat) (ext : aa4) : Nat → ad2
 | 0 => fun _ _ _ _ => none
 | d + 1 => aD9 P sig (aaG P sig fuel ext d) (asS P sig fuel ext d) fuel
end
section
variable {P : Program} {sig : Sig} {pf : aa4} {call : ad2}
theorem aIA {α : Type} (n : Nat) (x : α) : aIB n x = x := by
 unfold aIB
 cases Nat.ble n 0 <;> rfl
theorem aDQ (l : List (Nat × AV)) (t : Nat) : aLx l t = acT l t := by
 induction l with
 | nil => rfl
 | cons p r ih =>
  obtain ⟨k, v⟩ := p
  show @Bool.rec (fun _ => AV) (aLx r t) v (Nat.beq k t) = _
  simp only [acT]
  cases Nat.beq k t with
  | true => rfl
  | false => exact ih
theorem aI9 (l : List (Nat × AV)) (t : Nat) : aO3 l t = del l t := by
 induction l with
 | nil => rfl
 | cons p r ih =>
  obtain ⟨k, v⟩ := p
  show @Bool.rec (fun _ => List (Nat × AV)) ((k, v) :: aO3 r t) (aO3 r t) (Nat.beq k t) = _
  simp only [del]
  cases Nat.beq k t with
  | true => exact ih
  | false => show (k, v) :: aO3 r t = _; rw [ih]
theorem ae6 (σ : St) (x : Operand) : akI σ x = σ.eval x := by
 cases x with
 | tmp t => exact aDQ _ _
 | _ => rfl
theorem aGK (dst : Option Nat) (v : AV) (σ : St) : aO0 dst v σ = σ.put dst v := by
 obtain ⟨sl, H, nx, n⟩ := σ
 unfold aO0 St.put
 cases dst with
 | none => rfl
 | some t =>
  simp only [aI9]
  cases Nat.blt t n <;> rfl
theorem ap6 (dst : Option Nat) (v : AV) (σ : St) : aAv dst v σ = some (σ.grow dst v []) := by
 obtain ⟨sl, H, nx, n⟩ := σ
 unfold aAv St.grow St.put
 simp only [aIA]
 cases dst with
 | none => rfl
 | some t =>
  simp only [aI9, xb]
  cases Nat.blt t n <;> rfl
theorem T.toO_bind {α β : Type} (r : T α) (g : α → β) : (r.bind fun a => .ok (g a)).toO = r.toO.map g := by
 induction r with
 | ok a => rfl
 | ite b x y hx hy =>
  cases b with
  | true => exact hx
  | false => exact hy
 | @need p d x hx =>
  simp only [T.bind, T.toO]
  cases d with
  | isTrue _ => exact hx
  | isFalse _ => rfl
 | bad => rfl
theorem aIs (dst : Option Nat) (r : T AV) (σ : St) : adL dst r σ = aIt σ dst ((r.bind fun a => .ok (a, [])).toO) := by
 rw [T.toO_bind r (fun a => (a, ([] : List (Nat × Bk))))]
 unfold adL
 split
 ·rename_i v
  exact ap6 dst v σ
 ·cases hr : r.toO with
  | none => rfl
  | some v => exact ap6 dst v σ
theorem aNg (o : Oper) (σ : St) : (opK P sig pf call o).run σ = opR P sig pf call o σ := by
 have hb : ∀ (r : T AV), (∀ K H arg, arg = σ.eval → H = σ.H → (evM P (aIK (apZ sig)) K H arg o) = r.bind fun a => .ok (a, [])) → (∀ f args ts, o.op ≠ .call ⟨.value f, args, ts⟩) → adL o.dst r σ = ae3 P sig pf o σ := by
  intro r hr hne
  unfold ae3
  rw [aIs]
  have : evR P sig pf σ.next σ.H σ.eval o = (evM P (aIK (apZ sig)) σ.next σ.H σ.eval o).toO := by
   unfold evR
   split
   ·rename_i f args ts ho; exact absurd ho (hne f args ts)
   ·rfl
  rw [this, hr σ.next σ.H σ.eval rfl rfl]
 unfold opK
 split
 ·rename_i x ho
  show aAv o.dst (akI σ x) σ = _
  rw [ap6, ae6]
  simp only [opR, ho, ae3, evR, evM, evP, T.bind, T.toO, aIt]
 ·rename_i x ho
  show aAv o.dst (akI σ x) σ = _
  rw [ap6, ae6]
  simp only [opR, ho, ae3, evR, evM, evP, T.bind, T.toO, aIt]
 ·rename_i c a b ho
  show adL o.dst (aPS (akI σ c) (akI σ a) (akI σ b)) σ = _
  simp only [ae6, opR, ho]
  refine hb _ (fun K H arg e1 e2 => ?_) (by simp [ho])
  subst e1; subst e2
  simp only [evM, evP, ho]
  rfl
 ·rename_i op xt x y t ho
  show adL o.dst (aR3 P op xt (ajP x || ajP y) (akI σ x).soft (akI σ y).soft) σ = _
  simp only [ae6, opR, ho]
  refine hb _ (fun K H arg e1 e2 => ?_) (by simp [ho])
  subst e1; subst e2
  simp only [evM, evP, ho]
  rfl
 ·rename_i op t x ho
  show adL o.dst (aO8 op (akI σ x)) σ = _
  simp only [ae6, opR, ho]
  refine hb _ (fun K H arg e1 e2 => ?_) (by simp [ho])
  subst e1; subst e2
  simp only [evM, evP, ho]
 ·rename_i t a ho
  show adL o.dst (ao3 P σ.H t (akI σ a)) σ = _
  simp only [ae6, opR, ho]
  refine hb _ (fun K H arg e1 e2 => ?_) (by simp [ho])
  subst e1; subst e2
  simp only [evM, ho]
 ·rename_i s x f ho
  show adL o.dst (aAM P σ.H s (akI σ x) f) σ = _
  simp only [ae6, opR, ho]
  refine hb _ (fun K H arg e1 e2 => ?_) (by simp [ho])
  subst e1; subst e2
  simp only [evM, evP, ho]
 ·rename_i s x f ho
  show adL o.dst (asJ P s (akI σ x) f) σ = _
  simp only [ae6, opR, ho]
  refine hb _ (fun K H arg e1 e2 => ?_) (by simp [ho])
  subst e1; subst e2
  simp only [evM, evP, ho]
 ·rename_i t x i ho
  show adL o.dst (ar7 P σ.H t (akI σ x).soft (akI σ i)) σ = _
  simp only [ae6, opR, ho]
  refine hb _ (fun K H arg e1 e2 => ?_) (by simp [ho])
  subst e1; subst e2
  simp only [evM, evP, ho]
 ·rename_i t x i ho
  show adL o.dst (ar6 P t (akI σ x) (akI σ i)) σ = _
  simp only [ae6, opR, ho]
  refine hb _ (fun K H arg e1 e2 => ?_) (by simp [ho])
  subst e1; subst e2
  simp only [evM, evP, ho]
 ·rename_i t i ho
  show adL o.dst (aD4 i (akI σ t)) σ = _
  simp only [ae6, opR, ho]
  refine hb _ (fun K H arg e1 e2 => ?_) (by simp [ho])
  subst e1; subst e2
  simp only [evM, evP, ho]
  rfl
 ·exact aJ9 _
theorem anL (ops : Array Oper) : ∀ (l : List Oper) (σ : St), (aNT P sig pf call ops l).run σ = aBv P sig pf call ops l σ
 | [], _ => rfl
 | o :: rest, σ => by
  simp only [aNT, aBv]
  cases hg : o.guard with
  | none =>
   simp only [aO9, aNg]
   cases opR P sig pf call o σ with
   | none => rfl
   | some s => exact anL ops rest s
  | some jw =>
   obtain ⟨j, want⟩ := jw
   simp only
   cases ht : abB ops j with
   | none => rfl
   | some t =>
    simp only [aNs, aDQ, aDZ]
    split
    ·rename_i x hx
     simp only [aGK, aNg, hx]
     cases hsb : at2 x want with
     | true =>
      simp only
      cases opR P sig pf call o (σ.put (some t) (.d .bool x)) with
      | none => rfl
      | some s => exact anL ops rest s
     | false => exact anL ops rest _
    ·rename_i hx
     simp only [aGK, hx]; exact anL ops rest _
    ·rename_i h1 h2
     split
     ·rename_i x hx; exact absurd hx (h1 x)
     ·rename_i hx; exact absurd hx h2
     ·rfl
theorem afC {fuel : Nat} {rd : Option Nat} : ∀ (c : Code) (σ : St), (aeC P sig pf call fuel rd c).run σ = abT P sig fuel pf call rd c σ
 | .skip, _ => by simp only [aeC, abT]
 | .region _ ops draw, σ => by
  cases draw with
  | false => simp only [aeC, abT, anL]
  | true => simp only [aeC, abT, apX]
 | .seq x y, σ => by
  have h : (aeC P sig pf call fuel rd y).run = abT P sig fuel pf call rd y := funext (afC y)
  simp only [aeC, abT, aQy, afC x, h]
  cases abT P sig fuel pf call rd x σ with
  | none => rfl
  | some p =>
   obtain ⟨e, s⟩ := p
   cases e <;> rfl
 | .cond c x y, σ => by
  simp only [aeC, abT, aQs, aJh, ae6]
  split
  ·rename_i b hb
   simp only [hb]
   cases b with
   | true => exact afC x σ
   | false => exact afC y σ
  ·rename_i h1
   split
   ·rename_i b hb; exact absurd hb (h1 b)
   ·rfl
 | .block id c, σ => by simp only [aeC, abT, afC c]
 | .loop c, σ => by
  have h : (aeC P sig pf call fuel rd c).run = abT P sig fuel pf call rd c := funext (afC c)
  simp only [aeC, abT, h]
 | .exit _, _ => by simp only [aeC, abT]
 | .ret, _ => by simp only [aeC, abT]
 | .label _, _ => by simp only [aeC, abT]
 | .scope c, σ => by simp only [aeC, abT, afC c]
 | .rangeFunc _ _ _ _, _ => by simp only [aeC, apX]
 | .goto _, _ => by simp only [aeC, apX]
 | .refuse _, _ => by simp only [aeC, apX]
theorem aEf (fuel : Nat) : aL2 P sig pf call fuel = aFK P sig fuel pf call := by
 unfold aL2 aFK
 rw [show (fun ops l => (aNT P sig pf call ops l).run) = aBv P sig pf call from funext fun ops => funext fun l => funext fun σ => anL ops l σ]
 rw [show (fun rd c => (aeC P sig pf call fuel rd c).run) = abT P sig fuel pf call from funext fun rd => funext fun c => funext fun σ => afC c σ]
theorem aKD (fuel : Nat) : aN6 P sig pf call fuel = aGL P sig fuel pf call := by
 funext f A R x
 unfold aN6 aGL
 simp only [aEf]
 rfl
theorem aIZ (fuel : Nat) : aD9 P sig pf call fuel = asR P sig fuel pf call := by
 funext t args H next
 have h : ∀ rd c, (aeC P sig pf call fuel rd c).run = abT P sig fuel pf call rd c := fun rd c => funext (afC c)
 cases t with
 | fn f => simp only [aD9, asR, aEf]; rfl
 | yld l => simp only [aD9, asR, h]; rfl
theorem aBP (fuel : Nat) (ext : aa4) : ∀ d, aaG P sig fuel ext d = azR P sig fuel ext d ∧ asS P sig fuel ext d = apD P sig fuel ext d
 | 0 => ⟨by simp only [aaG, azR], by simp only [asS, apD]⟩
 | d + 1 => by
  obtain ⟨h1, h2⟩ := aBP fuel ext d
  exact ⟨by simp only [aaG, azR, h1, h2, aKD], by simp only [asS, apD, h1, h2, aIZ]⟩
end
end Go.Vg
