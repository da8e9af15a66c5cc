/-
  The runner, part K: the same in a form that a checker evaluates fast. Own work; no condition.
-/
import Derived.Test.YtbfajgbedclfeaaGreatDoorRunC
namespace Go.Vg
open Go Go.RowKit

/-- A function that is held: where it is made of closed terms, its making is done once. -/
structure Fn (α β : Type) where
  run : α → β

noncomputable def forceN {α : Type} (n : Nat) (x : α) : α := @Bool.rec (fun _ => α) x x (Nat.ble n 0)

/-- A number is made a literal. -/
noncomputable def forceS {α : Type} (n : Nat) (f : Nat → α) : α := @Nat.rec (fun _ => α) (f 0) (fun m _ => f (Nat.succ m)) n
theorem forceS_eq {α : Type} (n : Nat) (f : Nat → α) : forceS n f = f n := by cases n <;> rfl
noncomputable def trimS {α : Type} (σ : St) (f : St → α) : α :=
  match σ with
  | ⟨sl, H, nx, n⟩ => forceS n fun n => forceS nx fun nx => f ⟨sl, H, nx, n⟩
theorem trimS_eq {α : Type} (σ : St) (f : St → α) : trimS σ f = f σ := by simp only [trimS, forceS_eq]
noncomputable def trimK (r : Option St) : Option St :=
  match r with
  | some σ => trimS σ some
  | none => none
theorem trimK_eq (r : Option St) : trimK r = r := by cases r <;> simp only [trimK, trimS_eq]
noncomputable def trimX (r : Option (Exit × St)) : Option (Exit × St) :=
  match r with
  | some (e, σ) => trimS σ fun σ => some (e, σ)
  | none => none
theorem trimX_eq (r : Option (Exit × St)) : trimX r = r := by cases r <;> simp only [trimX, trimS_eq]

noncomputable def lookK (l : List (Nat × AV)) (t : Nat) : AV :=
  @List.rec (Nat × AV) (fun _ => AV) .no (fun p _ ih => @Bool.rec (fun _ => AV) ih p.2 (Nat.beq p.1 t)) l

noncomputable def delK (l : List (Nat × AV)) (t : Nat) : List (Nat × AV) :=
  @List.rec (Nat × AV) (fun _ => List (Nat × AV)) [] (fun p _ ih => @Bool.rec (fun _ => List (Nat × AV)) (p :: ih) ih (Nat.beq p.1 t)) l

noncomputable def argK (σ : St) (x : Operand) : AV :=
  match x with
  | .tmp t => lookK σ.slots t
  | .const v => constAg v
  | .func f => .fn f [] []
  | .global _ => .no

noncomputable def growK (dst : Option Nat) (v : AV) (σ : St) : Option St :=
  match σ with
  | ⟨sl, H, nx, n⟩ => forceN nx (match dst with
    | some t => match Nat.blt t n with
      | true => some ⟨(t, v) :: delK sl t, H, Nat.succ nx, n⟩
      | false => some ⟨sl, H, Nat.succ nx, n⟩
    | none => some ⟨sl, H, Nat.succ nx, n⟩)

noncomputable def putK (dst : Option Nat) (v : AV) (σ : St) : St :=
  match σ with
  | ⟨sl, H, nx, n⟩ => match dst with
    | some t => match Nat.blt t n with
      | true => ⟨(t, v) :: delK sl t, H, nx, n⟩
      | false => ⟨sl, H, nx, n⟩
    | none => ⟨sl, H, nx, n⟩

noncomputable def growTK (dst : Option Nat) (r : T AV) (σ : St) : Option St :=
  match r with
  | .ok v => growK dst v σ
  | r => match r.toO with
    | some v => growK dst v σ
    | none => none

def pickK (c a b : AV) : T AV :=
  match c with
  | .d .bool x => pickAV x a b
  | _ => .bad

def binDK (P : Program) (op : BinOp) (xt : TypeId) (t : Ty) (a : t.T) (b : AV) : T AV :=
  match b with
  | .d u b => match t.agg with
    | true => eqAgg P op xt t a u b
    | false => match eqType P t xt with
      | true => binD op t a u b
      | false => .bad
  | .nsl => eqNil P op xt t a
  | _ => .bad

def binNK (P : Program) (op : BinOp) (xt : TypeId) (c : Bool) (b : AV) : T AV :=
  match c with
  | true => eqOther P op xt .nili b
  | false => .bad

def binK (P : Program) (op : BinOp) (xt : TypeId) (c : Bool) (a b : AV) : T AV :=
  match a with
  | .d t a => binDK P op xt t a b
  | .nili => binNK P op xt c b
  | a => eqOther P op xt a b

def extractK (i : Nat) (a : AV) : T AV :=
  match a with
  | .tup l => T.ofO l[i]?
  | _ => .bad

section
variable (P : Program) (sig : Sig) (pf : PureT) (call : CallR)

noncomputable def genK (o : Oper) (σ : St) : Option St := trimK (opR P sig pf call o σ)

/-- One operation. -/
noncomputable def opK (o : Oper) : Fn St (Option St) :=
  match o.op with
  | .move x => ⟨fun σ => growK o.dst (argK σ x) σ⟩
  | .assign x => ⟨fun σ => growK o.dst (argK σ x) σ⟩
  | .pick c a b => ⟨fun σ => growTK o.dst (pickK (argK σ c) (argK σ a) (argK σ b)) σ⟩
  | .binOp op xt x y _ => ⟨fun σ => growTK o.dst (binK P op xt (isConst x || isConst y) (argK σ x).soft (argK σ y).soft) σ⟩
  | .unOp op _ x => ⟨fun σ => growTK o.dst (unAV op (argK σ x)) σ⟩
  | .load t a => ⟨fun σ => growTK o.dst (loadAV P σ.H t (argK σ a)) σ⟩
  | .fieldAddr s x f => ⟨fun σ => growTK o.dst (fAddrH P σ.H s (argK σ x) f) σ⟩
  | .field s x f => ⟨fun σ => growTK o.dst (fieldAV P s (argK σ x) f) σ⟩
  | .indexAddr t x i => ⟨fun σ => growTK o.dst (iAddrAV P σ.H t (argK σ x).soft (argK σ i)) σ⟩
  | .index t x i => ⟨fun σ => growTK o.dst (indexAV P t (argK σ x) (argK σ i)) σ⟩
  | .extract t i => ⟨fun σ => growTK o.dst (extractK i (argK σ t)) σ⟩
  | _ => ⟨genK P sig pf call o⟩

noncomputable def thenK (f g : Fn St (Option St)) : Fn St (Option St) := ⟨fun σ => match f.run σ with
  | some σ' => g.run σ'
  | none => none⟩

noncomputable def guardRun (t : Nat) (want : Bool) (dst : Option Nat) (f g : Fn St (Option St)) (σ : St) (a : AV) : Option St :=
  match a with
  | .d .bool x => match sameB x want with
    | true => match f.run (putK (some t) (.d .bool x) σ) with
      | some σ' => g.run σ'
      | none => none
    | false => g.run (putK dst .und (putK (some t) (.d .bool x) σ))
  | .und => g.run (putK dst .und σ)
  | _ => none

noncomputable def guardK (t : Nat) (want : Bool) (dst : Option Nat) (f g : Fn St (Option St)) : Fn St (Option St) := ⟨fun σ => guardRun t want dst f g σ (lookK σ.slots t)⟩

noncomputable def seqK (ops : Array Oper) : List Oper → Fn St (Option St)
  | [] => ⟨some⟩
  | o :: rest => match o.guard with
    | none => thenK (opK P sig pf call o) (seqK ops rest)
    | some (j, want) => match guardSlot ops j with
      | some t => guardK t want o.dst (opK P sig pf call o) (seqK ops rest)
      | none => ⟨fun _ => none⟩

noncomputable def bindK (f g : Fn St (Option (Exit × St))) : Fn St (Option (Exit × St)) := ⟨fun σ => match f.run σ with
  | some (.normal, σ') => g.run σ'
  | r => r⟩

noncomputable def condRun (f g : Fn St (Option (Exit × St))) (σ : St) (a : AV) : Option (Exit × St) :=
  match a with
  | .d .bool b => match (b : Bool) with
    | true => f.run σ
    | false => g.run σ
  | _ => none

noncomputable def condK (c : Operand) (f g : Fn St (Option (Exit × St))) : Fn St (Option (Exit × St)) := ⟨fun σ => condRun f g σ (argK σ c)⟩

noncomputable def codeK (fuel : Nat) (rd : Option Nat) : Code → Fn St (Option (Exit × St))
  | .skip => ⟨fun σ => some (.normal, σ)⟩
  | .region _ ops draw => match draw with
    | false => ⟨fun σ => normR ((seqK P sig pf call ops ops.toList).run σ) (seqP P sig pf call ops ops.toList σ)⟩
    | true => ⟨fun σ => trimX <| normR (drawX P sig pf call ops σ) (drawP P sig pf call ops (σ.forDraw (sigSl sig) ops.toList))⟩
  | .seq x y => bindK (codeK fuel rd x) (codeK fuel rd y)
  | .cond c x y => condK c (codeK fuel rd x) (codeK fuel rd y)
  | .block id c => ⟨fun σ => blockR id ((codeK fuel rd c).run σ)⟩
  | .loop c => ⟨fun σ => loopR (codeK fuel rd c).run fuel σ⟩
  | .exit id => ⟨fun σ => some (.exit id, σ)⟩
  | .ret => ⟨fun σ => some (.ret, σ)⟩
  | .label _ => ⟨fun σ => some (.normal, σ)⟩
  | .scope c => ⟨fun σ => scopeR ((codeK fuel rd c).run σ)⟩
  | c => ⟨fun σ => trimX (codeR P sig fuel pf call rd c σ)⟩

noncomputable def bodyK (fuel : Nat) : Code → St → Option (Exit × St) :=
  bodyX P (fun ops l => (seqK P sig pf call ops l).run) (fun rd c => (codeK P sig pf call fuel rd c).run)

noncomputable def pureK (fuel : Nat) : PureT := fun f A R x =>
  match P.funcs[f]? with
  | some fn => match fn.body with
    | some code => match enters P f && Nat.ble (argAVs A x).length fn.ntmps with
      | true => match retR P fn (bodyK P sig pf call fuel code { slots := numbered 0 (argAVs A x), H := [], next := 0, n := fn.ntmps }) with
        | some (l, σ) => toRes R (AV.maps (fun _ => false) (lendF σ.H) l)
        | none => none
      | false => none
    | none => none
  | none => none

noncomputable def enterK (fuel : Nat) : CallR := fun t args H next =>
  match t with
  | .fn f => match P.funcs[f]? with
    | some fn => match fn.body with
      | some code => match enters P f && Nat.ble args.length fn.ntmps with
        | true => endR P fn next (bodyK P sig pf call fuel code { slots := numbered 0 args, H := H, next := next, n := fn.ntmps })
        | false => none
      | none => none
    | none => none
  | .yld l => match H.find l with
    | some (.loop r) => match Nat.beq args.length r.ps.size with
      | true => roundR l (beginR l ((codeK P sig pf call fuel (some l) r.body).run) ((codeK P sig pf call fuel (some l) r.assign).run (bindS { slots := r.slots, H := H, next := next, n := r.n } r.ps.toList args)))
      | false => none
    | _ => none
end

mutual
noncomputable def pureKD (P : Program) (sig : Sig) (fuel : Nat) (ext : PureT) : Nat → PureT
  | 0 => ext
  | d + 1 => firstR ext (pureK P sig (pureKD P sig fuel ext d) (enterKD P sig fuel ext d) fuel)
noncomputable def enterKD (P : Program) (sig : Sig) (fuel : Nat) (ext : PureT) : Nat → CallR
  | 0 => fun _ _ _ _ => none
  | d + 1 => enterK P sig (pureKD P sig fuel ext d) (enterKD P sig fuel ext d) fuel
end

section
variable {P : Program} {sig : Sig} {pf : PureT} {call : CallR}

theorem forceN_eq {α : Type} (n : Nat) (x : α) : forceN n x = x := by
  unfold forceN
  cases Nat.ble n 0 <;> rfl

theorem lookK_eq (l : List (Nat × AV)) (t : Nat) : lookK l t = look l t := by
  induction l with
  | nil => rfl
  | cons p r ih =>
    obtain ⟨k, v⟩ := p
    show @Bool.rec (fun _ => AV) (lookK r t) v (Nat.beq k t) = _
    simp only [look]
    cases Nat.beq k t with
    | true => rfl
    | false => exact ih

theorem delK_eq (l : List (Nat × AV)) (t : Nat) : delK l t = del l t := by
  induction l with
  | nil => rfl
  | cons p r ih =>
    obtain ⟨k, v⟩ := p
    show @Bool.rec (fun _ => List (Nat × AV)) ((k, v) :: delK r t) (delK r t) (Nat.beq k t) = _
    simp only [del]
    cases Nat.beq k t with
    | true => exact ih
    | false => show (k, v) :: delK r t = _; rw [ih]

theorem argK_eq (σ : St) (x : Operand) : argK σ x = σ.eval x := by
  cases x with
  | tmp t => exact lookK_eq _ _
  | _ => rfl

theorem putK_eq (dst : Option Nat) (v : AV) (σ : St) : putK dst v σ = σ.put dst v := by
  obtain ⟨sl, H, nx, n⟩ := σ
  unfold putK St.put
  cases dst with
  | none => rfl
  | some t =>
    simp only [delK_eq]
    cases Nat.blt t n <;> rfl

theorem growK_eq (dst : Option Nat) (v : AV) (σ : St) : growK dst v σ = some (σ.grow dst v []) := by
  obtain ⟨sl, H, nx, n⟩ := σ
  unfold growK St.grow St.put
  simp only [forceN_eq]
  cases dst with
  | none => rfl
  | some t =>
    simp only [delK_eq, List.nil_append]
    cases Nat.blt t n <;> rfl

theorem T.toO_bind {α β : Type} (r : T α) (g : α → β) : (r.bind fun a => .ok (g a)).toO = r.toO.map g := by
  induction r with
  | ok a => rfl
  | ite b x y hx hy =>
    cases b with
    | true => exact hx
    | false => exact hy
  | @need p d x hx =>
    simp only [T.bind, T.toO]
    cases d with
    | isTrue _ => exact hx
    | isFalse _ => rfl
  | bad => rfl

theorem growTK_eq (dst : Option Nat) (r : T AV) (σ : St) : growTK dst r σ = growR σ dst ((r.bind fun a => .ok (a, [])).toO) := by
  rw [T.toO_bind r (fun a => (a, ([] : List (Nat × Bk))))]
  unfold growTK
  split
  · rename_i v
    exact growK_eq dst v σ
  · cases hr : r.toO with
    | none => rfl
    | some v => exact growK_eq dst v σ

theorem opK_eq (o : Oper) (σ : St) : (opK P sig pf call o).run σ = opR P sig pf call o σ := by
  have hb : ∀ (r : T AV), (∀ K H arg, arg = σ.eval → H = σ.H → (evM P (flagC (sigTwice sig)) K H arg o) = r.bind fun a => .ok (a, [])) → (∀ f args ts, o.op ≠ .call ⟨.value f, args, ts⟩) → growTK o.dst r σ = opBuild P sig pf o σ := by
    intro r hr hne
    unfold opBuild
    rw [growTK_eq]
    have : evR P sig pf σ.next σ.H σ.eval o = (evM P (flagC (sigTwice sig)) σ.next σ.H σ.eval o).toO := by
      unfold evR
      split
      · rename_i f args ts ho; exact absurd ho (hne f args ts)
      · rfl
    rw [this, hr σ.next σ.H σ.eval rfl rfl]
  unfold opK
  split
  · rename_i x ho
    show growK o.dst (argK σ x) σ = _
    rw [growK_eq, argK_eq]
    simp only [opR, ho, opBuild, evR, evM, evP, T.bind, T.toO, growR]
  · rename_i x ho
    show growK o.dst (argK σ x) σ = _
    rw [growK_eq, argK_eq]
    simp only [opR, ho, opBuild, evR, evM, evP, T.bind, T.toO, growR]
  · rename_i c a b ho
    show growTK o.dst (pickK (argK σ c) (argK σ a) (argK σ b)) σ = _
    simp only [argK_eq, opR, ho]
    refine hb _ (fun K H arg e1 e2 => ?_) (by simp [ho])
    subst e1; subst e2
    simp only [evM, evP, ho]
    rfl
  · rename_i op xt x y t ho
    show growTK o.dst (binK P op xt (isConst x || isConst y) (argK σ x).soft (argK σ y).soft) σ = _
    simp only [argK_eq, opR, ho]
    refine hb _ (fun K H arg e1 e2 => ?_) (by simp [ho])
    subst e1; subst e2
    simp only [evM, evP, ho]
    rfl
  · rename_i op t x ho
    show growTK o.dst (unAV op (argK σ x)) σ = _
    simp only [argK_eq, opR, ho]
    refine hb _ (fun K H arg e1 e2 => ?_) (by simp [ho])
    subst e1; subst e2
    simp only [evM, evP, ho]
  · rename_i t a ho
    show growTK o.dst (loadAV P σ.H t (argK σ a)) σ = _
    simp only [argK_eq, opR, ho]
    refine hb _ (fun K H arg e1 e2 => ?_) (by simp [ho])
    subst e1; subst e2
    simp only [evM, ho]
  · rename_i s x f ho
    show growTK o.dst (fAddrH P σ.H s (argK σ x) f) σ = _
    simp only [argK_eq, opR, ho]
    refine hb _ (fun K H arg e1 e2 => ?_) (by simp [ho])
    subst e1; subst e2
    simp only [evM, evP, ho]
  · rename_i s x f ho
    show growTK o.dst (fieldAV P s (argK σ x) f) σ = _
    simp only [argK_eq, opR, ho]
    refine hb _ (fun K H arg e1 e2 => ?_) (by simp [ho])
    subst e1; subst e2
    simp only [evM, evP, ho]
  · rename_i t x i ho
    show growTK o.dst (iAddrAV P σ.H t (argK σ x).soft (argK σ i)) σ = _
    simp only [argK_eq, opR, ho]
    refine hb _ (fun K H arg e1 e2 => ?_) (by simp [ho])
    subst e1; subst e2
    simp only [evM, evP, ho]
  · rename_i t x i ho
    show growTK o.dst (indexAV P t (argK σ x) (argK σ i)) σ = _
    simp only [argK_eq, opR, ho]
    refine hb _ (fun K H arg e1 e2 => ?_) (by simp [ho])
    subst e1; subst e2
    simp only [evM, evP, ho]
  · rename_i t i ho
    show growTK o.dst (extractK i (argK σ t)) σ = _
    simp only [argK_eq, opR, ho]
    refine hb _ (fun K H arg e1 e2 => ?_) (by simp [ho])
    subst e1; subst e2
    simp only [evM, evP, ho]
    rfl
  · exact trimK_eq _

theorem seqK_eq (ops : Array Oper) : ∀ (l : List Oper) (σ : St), (seqK P sig pf call ops l).run σ = seqR P sig pf call ops l σ
  | [], _ => rfl
  | o :: rest, σ => by
    simp only [seqK, seqR]
    cases hg : o.guard with
    | none =>
      simp only [thenK, opK_eq]
      cases opR P sig pf call o σ with
      | none => rfl
      | some s => exact seqK_eq ops rest s
    | some jw =>
      obtain ⟨j, want⟩ := jw
      simp only
      cases ht : guardSlot ops j with
      | none => rfl
      | some t =>
        simp only [guardK, lookK_eq, guardRun]
        split
        · rename_i x hx
          simp only [putK_eq, opK_eq, hx]
          cases hsb : sameB x want with
          | true =>
            simp only
            cases opR P sig pf call o (σ.put (some t) (.d .bool x)) with
            | none => rfl
            | some s => exact seqK_eq ops rest s
          | false => exact seqK_eq ops rest _
        · rename_i hx
          simp only [putK_eq, hx]; exact seqK_eq ops rest _
        · rename_i h1 h2
          split
          · rename_i x hx; exact absurd hx (h1 x)
          · rename_i hx; exact absurd hx h2
          · rfl

theorem codeK_eq {fuel : Nat} {rd : Option Nat} : ∀ (c : Code) (σ : St), (codeK P sig pf call fuel rd c).run σ = codeR P sig fuel pf call rd c σ
  | .skip, _ => by simp only [codeK, codeR]
  | .region _ ops draw, σ => by
    cases draw with
    | false => simp only [codeK, codeR, seqK_eq]
    | true => simp only [codeK, codeR, trimX_eq]
  | .seq x y, σ => by
    have h : (codeK P sig pf call fuel rd y).run = codeR P sig fuel pf call rd y := funext (codeK_eq y)
    simp only [codeK, codeR, bindK, codeK_eq x, h]
    cases codeR P sig fuel pf call rd x σ with
    | none => rfl
    | some p =>
      obtain ⟨e, s⟩ := p
      cases e <;> rfl
  | .cond c x y, σ => by
    simp only [codeK, codeR, condK, condRun, argK_eq]
    split
    · rename_i b hb
      simp only [hb]
      cases b with
      | true => exact codeK_eq x σ
      | false => exact codeK_eq y σ
    · rename_i h1
      split
      · rename_i b hb; exact absurd hb (h1 b)
      · rfl
  | .block id c, σ => by simp only [codeK, codeR, codeK_eq c]
  | .loop c, σ => by
    have h : (codeK P sig pf call fuel rd c).run = codeR P sig fuel pf call rd c := funext (codeK_eq c)
    simp only [codeK, codeR, h]
  | .exit _, _ => by simp only [codeK, codeR]
  | .ret, _ => by simp only [codeK, codeR]
  | .label _, _ => by simp only [codeK, codeR]
  | .scope c, σ => by simp only [codeK, codeR, codeK_eq c]
  | .rangeFunc _ _ _ _, _ => by simp only [codeK, trimX_eq]
  | .goto _, _ => by simp only [codeK, trimX_eq]
  | .refuse _, _ => by simp only [codeK, trimX_eq]

theorem bodyK_eq (fuel : Nat) : bodyK P sig pf call fuel = bodyR P sig fuel pf call := by
  unfold bodyK bodyR
  rw [show (fun ops l => (seqK P sig pf call ops l).run) = seqR P sig pf call from funext fun ops => funext fun l => funext fun σ => seqK_eq ops l σ]
  rw [show (fun rd c => (codeK P sig pf call fuel rd c).run) = codeR P sig fuel pf call from funext fun rd => funext fun c => funext fun σ => codeK_eq c σ]

theorem pureK_eq (fuel : Nat) : pureK P sig pf call fuel = pureR P sig fuel pf call := by
  funext f A R x
  unfold pureK pureR
  simp only [bodyK_eq]
  rfl

theorem enterK_eq (fuel : Nat) : enterK P sig pf call fuel = enterR P sig fuel pf call := by
  funext t args H next
  have h : ∀ rd c, (codeK P sig pf call fuel rd c).run = codeR P sig fuel pf call rd c := fun rd c => funext (codeK_eq c)
  cases t with
  | fn f => simp only [enterK, enterR, bodyK_eq]; rfl
  | yld l => simp only [enterK, enterR, h]; rfl

theorem runK_eq (fuel : Nat) (ext : PureT) : ∀ d, pureKD P sig fuel ext d = pureD P sig fuel ext d ∧ enterKD P sig fuel ext d = enterD P sig fuel ext d
  | 0 => ⟨by simp only [pureKD, pureD], by simp only [enterKD, enterD]⟩
  | d + 1 => by
    obtain ⟨h1, h2⟩ := runK_eq fuel ext d
    exact ⟨by simp only [pureKD, pureD, h1, h2, pureK_eq], by simp only [enterKD, enterD, h1, h2, enterK_eq]⟩

end
end Go.Vg
