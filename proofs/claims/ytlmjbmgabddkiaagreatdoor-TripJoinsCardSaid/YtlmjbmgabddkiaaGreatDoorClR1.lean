/-
  A runner over the evaluator, and calls that have been run. Own work; no condition.
-/
import Derived.Test.YtlmjbmgabddkiaaGreatDoorClE5
set_option linter.unusedVariables false
set_option linter.unusedSimpArgs false
namespace Go.Vg
open Go Go.RowKit
abbrev abP := Nat → (A R : Ty) → A.T → Option R.T
abbrev af3 := Tgt → List AV → Heap → Nat → Option (AV × Heap × Nat)
abbrev Sig := List (Nat × (Ty × Ty))
def Sig.find : Sig → Nat → Option (Ty × Ty)
 | [], _ => none
 | (g, c) :: r, f => match Nat.beq g f with | true => some c | false => Sig.find r f
def ar2 : Sig → Bool
 | (a, _) :: (b, _) :: _ => Nat.beq a b
 | _ => false
def aLu : Sig → Sig
 | x :: r => x :: x :: r
 | [] => []
def noC : Con := { args := .unit, res := .unit, pre := fun _ => True, fn := fun _ => (), dec := fun _ => inferInstance }
def aK7 : Bool → Cons
 | true => [(0, noC), (0, noC)]
 | false => []
def evR (P : Program) (sig : Sig) (pf : abP) (K : Nat) (H : Heap) (arg : Operand → AV) (o : Oper) : Option (AV × List (Nat × Bk)) :=
 match o.op with
 | .call { callee := .value f, args, .. } => match arg f with
  | .fn g first caps => match sig.find g with
   | some c => match noSl c.2 || !(arJ (first ++ args.toList.map arg ++ caps)) with
    | true => match aiL H c.1 (first ++ args.toList.map arg ++ caps) with
     | some x => match pf g c.1 c.2 x with
      | some y => some (awN (aFE c.2 y), [])
      | none => none
     | none => none
    | false => none
   | none => none
  | _ => none
 | _ => (evM P (aK7 (ar2 sig)) K H arg o).toO
def aKT (σ : St) (dst : Option Nat) : Option (AV × List (Nat × Bk)) → Option St
 | some x => some (σ.grow dst x.1 x.2)
 | none => none
def aSK (σ : St) (dst : Option Nat) : Option (AV × Heap × Nat) → Option St
 | some x => match ap2 x.1 with
  | none => some (({ slots := abL (acC x.2.1) aiH σ.slots, H := x.2.1, next := x.2.2, n := σ.n } : St).put dst x.1)
  | some _ => none
 | none => none
def aTb (σ : St) : Option (AV × Heap × Nat) → Option (List PanicEntry × St)
 | some x => match ap2 x.1 with
  | some y => match akV y with
   | some ch => some (ch, { slots := abL (acC x.2.1) aiH σ.slots, H := x.2.1, next := x.2.2, n := σ.n })
   | none => none
  | none => none
 | none => none
def agO (P : Program) (sig : Sig) (pf : abP) (o : Oper) (σ : St) : Option St := aKT σ o.dst (evR P sig pf σ.next σ.H σ.eval o)
def aJH (P : Program) (o : Oper) (σ : St) (t : TypeId) (a x : Operand) : Option St :=
 match (aDI P σ t a x).toO with
 | some σ' => some (σ'.put o.dst .und)
 | none => none
def aB7 (P : Program) (sig : Sig) (pf : abP) (o : Oper) (σ : St) (b : Builtin) (args : List Operand) (ts : List TypeId) : Option St :=
 match avP P σ o.dst b args ts with
 | some r => r.toO
 | none => agO P sig pf o σ
def aRZ (P : Program) (sig : Sig) (pf : abP) (o : Oper) (σ : St) (args : List Operand) (R : Ty) : Option St :=
 match !(noSl R) || aFh (args.map σ.eval) with
 | true => aKT (σ.thaws (ac2 (args.map σ.eval))) o.dst (evR P sig pf σ.next (σ.thaws (ac2 (args.map σ.eval))).H (σ.thaws (ac2 (args.map σ.eval))).eval o)
 | false => agO P sig pf o σ
def aJK (P : Program) (call : af3) (o : Oper) (σ : St) (args : List Operand) (g : Nat) (first caps : List AV) : Option St :=
 match aKv P g with
 | true => match args, first, caps with
  | [x], [], [] => some (σ.put o.dst (σ.eval x))
  | _, _, _ => none
 | false => aSK σ o.dst (call (.fn g) (first ++ args.map σ.eval ++ caps) σ.H σ.next)
def aTu (P : Program) (sig : Sig) (pf : abP) (call : af3) (o : Oper) (σ : St) (args : List Operand) (g : Nat) (first caps : List AV) : Option St :=
 match sig.find g with
 | some c => aRZ P sig pf o σ args c.2
 | none => aJK P call o σ args g first caps
def aJG (P : Program) (sig : Sig) (pf : abP) (call : af3) (o : Oper) (σ : St) (f : Operand) (args : List Operand) : Option St :=
 match σ.eval f with
 | .fn g first caps => aTu P sig pf call o σ args g first caps
 | .yld l => aSK σ o.dst (call (.yld l) (args.map σ.eval) σ.H σ.next)
 | _ => none
def aNn (P : Program) (o : Oper) (σ : St) (t : TypeId) (m i x : Operand) : Option St :=
 match (aKz P σ t (σ.eval m) (σ.eval i) (σ.eval x)).toO with
 | some σ' => some (σ'.put o.dst .und)
 | none => none
def opR (P : Program) (sig : Sig) (pf : abP) (call : af3) (o : Oper) (σ : St) : Option St :=
 match o.op with
 | .store t a x => aJH P o σ t a x
 | .buildSlice _ _ ps => agO P sig pf o (σ.freed (.ag (ps.toList.map fun x => σ.eval x.2)))
 | .call { callee := .builtin b, args, argTypes } => aB7 P sig pf o σ b args.toList argTypes.toList
 | .call { callee := .value f, args, .. } => aJG P sig pf call o σ f args.toList
 | .slice _ y _ _ (some _) => agO P sig pf o (σ.freed (σ.eval y))
 | .mapUpdate t m i x => aNn P o σ t m i x
 | .insert t m i x => aNn P o σ t m i x
 | _ => agO P sig pf o σ
def opP (P : Program) (sig : Sig) (call : af3) (o : Oper) (σ : St) : Option (List PanicEntry × St) :=
 match o.op with
 | .panic x => match akV (σ.eval x) with
  | some ch => some (ch, σ)
  | none => none
 | .call { callee := .value f, args, .. } => match σ.eval f with
  | .fn g first caps => match sig.find g with
   | some _ => none
   | none => match aKv P g with
    | true => none
    | false => aTb σ (call (.fn g) (first ++ args.toList.map σ.eval ++ caps) σ.H σ.next)
  | _ => none
 | _ => none
def awM (x y : Bool) : Bool := x == y
def aDQ (P : Program) (sig : Sig) (pf : abP) (call : af3) (ops : Array Oper) : List Oper → St → Option St
 | [], σ => some σ
 | o :: rest, σ => match o.guard with
  | none => match opR P sig pf call o σ with
   | some σ' => aDQ P sig pf call ops rest σ'
   | none => none
  | some (j, want) => match abY ops j with
   | some t => match adU σ.slots t with
    | .d .bool x => match awM x want with
     | true => match opR P sig pf call o (σ.put (some t) (.d .bool x)) with
      | some σ' => aDQ P sig pf call ops rest σ'
      | none => none
     | false => aDQ P sig pf call ops rest ((σ.put (some t) (.d .bool x)).put o.dst .und)
    | .und => aDQ P sig pf call ops rest (σ.put o.dst .und)
    | _ => none
   | none => none
def aMx (P : Program) (sig : Sig) (pf : abP) (call : af3) (ops : Array Oper) : List Oper → St → Option (List PanicEntry × St)
 | [], _ => none
 | o :: rest, σ => match o.guard with
  | none => match opR P sig pf call o σ with
   | some σ' => aMx P sig pf call ops rest σ'
   | none => opP P sig call o σ
  | some (j, want) => match abY ops j with
   | some t => match adU σ.slots t with
    | .d .bool x => match awM x want with
     | true => match opR P sig pf call o (σ.put (some t) (.d .bool x)) with
      | some σ' => aMx P sig pf call ops rest σ'
      | none => opP P sig call o (σ.put (some t) (.d .bool x))
     | false => aMx P sig pf call ops rest ((σ.put (some t) (.d .bool x)).put o.dst .und)
    | .und => aMx P sig pf call ops rest (σ.put o.dst .und)
    | _ => none
   | none => none
def aSQ (P : Program) (sig : Sig) (pf : abP) (sk : List (Nat × Nat)) (Hs : Heap) (K : Nat) (H0 : Heap) (arg : Operand → AV) (o : Oper) : Option Out :=
 match o.op with
 | .store t a x => match awK sk K with
  | some k => match (stB P Hs k t (arg a) (arg x)).toO with
   | some b => some (.st k b)
   | none => none
  | none => none
 | _ => match akC sk K with
  | false => match evR P sig pf K H0 arg o with
   | some x => some (.ran x.1 x.2)
   | none => none
  | true => match o.op with
   | .alloc e => match ac6 P e with
    | some _ => some (.ran (.ptr K 0) [(K, .any)])
    | none => none
   | _ => none
def aPo (P : Program) (sig : Sig) (pf : abP) (ops : Array Oper) (sk : List (Nat × Nat)) (Hs : Heap) (H0 : Nat → Heap → Heap) : List Oper → Nat → St → List (Nat × Bk) → Option (St × List (Nat × Bk))
 | [], _, σ, s => some (σ, s)
 | o :: rest, K, σ, s => match o.guard with
  | none => match aSQ P sig pf sk Hs K (H0 K σ.H) σ.eval o with
   | some u => aPo P sig pf ops sk Hs H0 rest (K + 1) (σ.step o u) (u.sts ++ s)
   | none => none
  | some (j, want) => match abY ops j with
   | some t => match adU σ.slots t with
    | .d .bool x => match awM x want with
     | true => match aSQ P sig pf sk Hs K (H0 K σ.H) (σ.put (some t) (.d .bool x)).eval o with
      | some u => aPo P sig pf ops sk Hs H0 rest (K + 1) ((σ.put (some t) (.d .bool x)).step o u) (u.sts ++ s)
      | none => none
     | false => aPo P sig pf ops sk Hs H0 rest (K + 1) ((σ.put (some t) (.d .bool x)).step o .skip) s
    | .und => aPo P sig pf ops sk Hs H0 rest (K + 1) (σ.step o .skip) s
    | _ => none
   | none => none
structure Plan where
 ok : Bool
 m : Nat
 pre : List Oper
 rest : List Oper
def aFR (ops : Array Oper) : Plan :=
 let l := ops.toList
 let ms := acW l []
 let m := adF ms
 { ok := avM ops (l.take m) (l.take m) 0 && adY l 0 && ajU m ms 0 && Nat.ble m l.length, m := m, pre := l.take m, rest := l.drop m }
def aGR (sig : Sig) (g : Nat) : Bool :=
 match sig.find g with
 | some c => !(noSl c.2)
 | none => false
def aOv (P : Program) (sig : Sig) (pf : abP) (call : af3) (ops : Array Oper) (σ : St) : Option St :=
 match aFR ops with
 | ⟨ok, m, pre, rest⟩ => match ok with
  | true => match aPZ σ pre σ.next (adI P pre σ.next ++ σ.H) pre σ.next with
   | some sk => match anZ (sk.map (·.2)) && am7 pre σ.next sk with
    | true => match aPo P sig pf ops sk (adI P pre σ.next ++ σ.H) (aEy pre σ.next sk (adI P pre σ.next ++ σ.H) (aDA sk σ.H)) pre σ.next { σ with H := aDA sk σ.H, next := σ.next + m } [] with
     | some x => aDQ P sig pf call ops rest (aj4 (adI P pre σ.next ++ σ.H) sk x)
     | none => none
    | false => none
   | none => none
  | false => none
def aOw (P : Program) (sig : Sig) (pf : abP) (call : af3) (ops : Array Oper) (σ : St) : Option (List PanicEntry × St) :=
 match aFR ops with
 | ⟨ok, m, pre, rest⟩ => match ok with
  | true => match aPZ σ pre σ.next (adI P pre σ.next ++ σ.H) pre σ.next with
   | some sk => match anZ (sk.map (·.2)) && am7 pre σ.next sk with
    | true => match aPo P sig pf ops sk (adI P pre σ.next ++ σ.H) (aEy pre σ.next sk (adI P pre σ.next ++ σ.H) (aDA sk σ.H)) pre σ.next { σ with H := aDA sk σ.H, next := σ.next + m } [] with
     | some x => aMx P sig pf call ops rest (aj4 (adI P pre σ.next ++ σ.H) sk x)
     | none => none
    | false => none
   | none => none
  | false => none
def aFp (f : Nat → Oper → List (Nat × St) → Option (List (Nat × St))) : List Oper → Nat → List (Nat × St) → Option (List (Nat × St))
 | [], _, acc => some acc
 | o :: r, i, acc => match f i o acc with
  | some acc => aFp f r (i + 1) acc
  | none => none
def aOa : List (Nat × St) → Nat → Option St
 | [], _ => none
 | (k, s) :: r, m => match Nat.beq k m with
  | true => some s
  | false => aOa r m
def aSb : Nat → Nat → Nat → List (Nat × Nat)
 | 0, _, _ => []
 | m + 1, n, c => (n, c) :: aSb m (n + 1) (c + 1)
def aPE (b size k d i n : Nat) (σ' : St) : St := ((σ'.rekeysK b (aSb (σ'.next - n) n (b + size + 1 + i * 100))).sort d (b + size)).raise (b + (size + 2) * 100 + (size - k) * 100)
def aTl (m : Nat) : List Oper → Nat → Nat → Nat
 | [], _, c => c
 | o :: r, j, c => match Nat.testBit m j, o.dst with
  | true, some _ => aTl m r (j + 1) (c + 1)
  | _, _ => aTl m r (j + 1) c
def aTx (ops : Array Oper) (m i : Nat) (o : Oper) : Nat := match o.dst with
 | none => 0
 | some _ => aTl (m ||| 2 ^ i) ops.toList 0 0
def aSU (acc : List (Nat × St)) (m : Nat) (σ : St) : Option (List (Nat × St)) :=
 match aOa acc m with
 | some s => match stE σ s with
  | true => some acc
  | false => none
 | none => some ((m, σ) :: acc)
def aR0 (P : Program) (sig : Sig) (pf : abP) (call : af3) (ops : Array Oper) (b size k m : Nat) (σ : St) (i : Nat) (o : Oper) (acc : List (Nat × St)) : Option (List (Nat × St)) :=
 match Nat.testBit m i with
 | true => some acc
 | false => match am2 m o.after.toList with
  | true => match aDQ P sig pf call ops [o] σ with
   | some σ' => match Nat.ble σ'.next (aPE b size k (aTx ops m i o) i σ.next σ').next with
    | true => aSU acc (m ||| 2 ^ i) (aPE b size k (aTx ops m i o) i σ.next σ')
    | false => none
   | none => none
  | false => some acc
def aF6 (P : Program) (sig : Sig) (pf : abP) (call : af3) (ops : Array Oper) (b size k : Nat) : List (Nat × St) → List (Nat × St) → Option (List (Nat × St))
 | [], acc => some acc
 | x :: r, acc => match aFp (aR0 P sig pf call ops b size k x.1 x.2) ops.toList 0 acc with
  | some acc => aF6 P sig pf call ops b size k r acc
  | none => none
def aSE (P : Program) (sig : Sig) (pf : abP) (call : af3) (ops : Array Oper) (b size : Nat) : Nat → List (Nat × St) → Option St
 | 0, l => match l with
  | [x] => some x.2
  | _ => none
 | n + 1, l => match aF6 P sig pf call ops b size n l [] with
  | some l' => aSE P sig pf call ops b size n l'
  | none => none
def aTo (P : Program) (sig : Sig) (pf : abP) (call : af3) (ops : Array Oper) (σ : St) : Option St :=
 match adY ops.toList 0 with
 | true => aSE P sig pf call ops σ.next ops.size ops.size [(0, σ)]
 | false => none
def aQR (P : Program) (sig : Sig) (pf : abP) (call : af3) (ops : Array Oper) (σ : St) : Option St :=
 match aOv P sig pf call ops (σ.forDraw (aGR sig) ops.toList) with
 | some s => some s
 | none => match aOv P (aLu sig) pf call ops (σ.forDraw (aGR (aLu sig)) ops.toList) with
  | some σ' => some σ'
  | none => aTo P sig pf call ops σ
def aHI (a : Option St) (b : Option (List PanicEntry × St)) : Option (Exit × St) :=
 match a with
 | some σ => some (.normal, σ)
 | none => match b with
  | some x => some (.panic x.1, x.2)
  | none => none
def aKD (f : St → Option (Exit × St)) : Nat → St → Option (Exit × St)
 | 0, _ => none
 | n + 1, σ => match f σ with
  | some (.normal, σ') => aKD f n σ'
  | r => r
def aLU (id : Nat) : Option (Exit × St) → Option (Exit × St)
 | some (.exit j, σ) => match Nat.beq j id with
  | true => some (.normal, σ)
  | false => some (.exit j, σ)
 | r => r
def aOT : Option (Exit × St) → Option (Exit × St)
 | some (.goto _, _) => none
 | r => r
def aFG (σ : St) (l : Nat) : Option (AV × Heap × Nat) → Option (Exit × St)
 | some x => match ap2 x.1 with
  | some _ => none
  | none => match x.2.1.find l with
  | some (.loop r) => match r.st, alH r.pend with
   | .busy, _ => none
   | _, some e => some (e, { slots := abL (acC (x.2.1.up l (.loop { r with st := .exhausted }))) aiH σ.slots, H := x.2.1.up l (.loop { r with st := .exhausted }), next := x.2.2, n := σ.n })
   | _, none => none
  | _ => none
 | none => none
def acM (P : Program) (sig : Sig) (fuel : Nat) (pf : abP) (call : af3) (rd : Option Nat) : Code → St → Option (Exit × St)
 | .skip, σ => some (.normal, σ)
 | .region _ ops draw, σ => match draw with
  | false => aHI (aDQ P sig pf call ops ops.toList σ) (aMx P sig pf call ops ops.toList σ)
  | true => aHI (aQR P sig pf call ops σ) (aOw P sig pf call ops (σ.forDraw (aGR sig) ops.toList))
 | .seq x y, σ => match acM P sig fuel pf call rd x σ with
  | some (.normal, σ') => acM P sig fuel pf call rd y σ'
  | r => r
 | .cond c x y, σ => match σ.eval c with
  | .d .bool b => match (b : Bool) with
   | true => acM P sig fuel pf call rd x σ
   | false => acM P sig fuel pf call rd y σ
  | _ => none
 | .block id c, σ => aLU id (acM P sig fuel pf call rd c σ)
 | .loop c, σ => aKD (acM P sig fuel pf call rd c) fuel σ
 | .exit id, σ => some (.exit id, σ)
 | .ret, σ => some (.ret, σ)
 | .label _, σ => some (.normal, σ)
 | .scope c, σ => aOT (acM P sig fuel pf call rd c σ)
 | .rangeFunc g ps assign body, σ => match σ.eval g with
  | .fn f first caps => match rd with
   | none => aFG σ σ.next (call (.fn f) (first ++ .yld σ.next :: caps) (σ.lay σ.next ps assign body) (σ.next + 1))
   | some l0 => match σ.H.find l0 with
    | some (.loop _) => aFG σ σ.next (call (.fn f) (first ++ .yld σ.next :: caps) (σ.lay σ.next ps assign body) (σ.next + 1))
    | _ => none
  | _ => none
 | _, _ => none
abbrev aSH := Array Oper → List Oper → St → Option St
abbrev aMt := Option Nat → Code → St → Option (Exit × St)
def aSC (σ : St) : Option (Exit × St) → Option (Exit × St)
 | some (.normal, s) => some (.ret, { slots := abL (acC s.H) aiH σ.slots, H := s.H, next := s.next, n := σ.n })
 | some (.ret, s) => some (.ret, { slots := abL (acC s.H) aiH σ.slots, H := s.H, next := s.next, n := σ.n })
 | _ => none
def aLO (P : Program) (sq : aSH) (cd : aMt) (g : FuncId) (caps : List AV) (x : AV) (σ : St) : Option (Exit × St) :=
 match aGs P g with
 | some c => match Nat.ble caps.length c.gn.ntmps with
  | true => match sq c.ops c.rest (({ slots := adA 0 (AV.maps (acC σ.H) aiH caps), H := σ.H, next := σ.next + 1, n := c.gn.ntmps } : St).put c.o.dst x) with
   | some s => aSC σ (cd (some σ.next) c.B s)
   | none => none
  | false => none
 | none => none
def aSW (P : Program) (sq : aSH) (cd : aMt) (g : FuncId) (caps : List AV) : Option (Exit × St) → Option (Exit × St)
 | some (.normal, σ) => aLO P sq cd g caps .nili σ
 | some (.ret, σ) => aLO P sq cd g caps .nili σ
 | some (.panic ch, σ) => match ahA ch with
  | some x => aLO P sq cd g caps x σ
  | none => none
 | _ => none
def aRC (P : Program) (sq : aSH) (cd : aMt) (d : DefB) (σ : St) : Option (Exit × St) :=
 match σ.eval d.f with
 | .fn g first caps => match first with
  | [] => aSW P sq cd g caps (cd none d.rest (σ.put d.o.dst .und))
  | _ :: _ => none
 | _ => none
def aTy (P : Program) (sq : aSH) (cd : aMt) (d : DefB) (σ : St) : Option (Exit × St) :=
 match sq d.ops0 d.ops0.toList σ with
 | some σ => match sq d.ops1 d.ops1.toList.dropLast σ with
  | some σ => aRC P sq cd d σ
  | none => none
 | none => none
def aQZ (P : Program) (sq : aSH) (cd : aMt) (c : Code) (σ : St) : Option (Exit × St) :=
 match alK c with
 | some d => aTy P sq cd d σ
 | none => cd none c σ
def aIl (P : Program) (sig : Sig) (fuel : Nat) (pf : abP) (call : af3) : Code → St → Option (Exit × St) :=
 aQZ P (aDQ P sig pf call) (acM P sig fuel pf call)
def aBa (n : Nat) : List AV → Nat → Bool
 | _, 0 => true
 | [], _ => false
 | .ptr k _ :: r, d + 1 => Nat.ble n k || aBa n r d
 | .eptr k _ :: r, d + 1 => Nat.ble n k || aBa n r d
 | .own k _ _ :: r, d + 1 => Nat.ble n k || aBa n r d
 | .ox k _ _ :: r, d + 1 => Nat.ble n k || aBa n r d
 | .sv k _ :: r, d + 1 => Nat.ble n k || aBa n r d
 | .yld k :: r, d + 1 => Nat.ble n k || aBa n r d
 | .mp k :: r, d + 1 => Nat.ble n k || aBa n r d
 | .fn _ a b :: r, d + 1 => aBa n a d || aBa n b d || aBa n r d
 | .ag l :: r, d + 1 => aBa n l d || aBa n r d
 | .tup l :: r, d + 1 => aBa n l d || aBa n r d
 | _ :: r, d + 1 => aBa n r d
def aGc (n : Nat) : Heap → Bool
 | [] => false
 | (k, b) :: r => (match Nat.ble n k with
  | true => false
  | false => match b with
   | .vars _ cells => aBa n cells 10000
   | .dic _ l => aBa n (l.map (·.2)) 10000
   | _ => false) || aGc n r
def auD (n : Nat) (r : AV) (H : Heap) (m : Nat) : AV × Heap × Nat :=
 match aBa n [r] 10000 || aGc n H with
 | true => (r, H, m)
 | false => (r.map (fun k => Nat.blt k n) aiH, H.keep (fun k => Nat.blt k n) aiH, n)
def aRB (P : Program) (fn : Func) : Option (Exit × St) → Option (List AV × St)
 | some (.normal, σ) => match (aMz P σ fn.results.toList).toO with
  | some l => some (l, σ)
  | none => none
 | some (.ret, σ) => match (aMz P σ fn.results.toList).toO with
  | some l => some (l, σ)
  | none => none
 | _ => none
def aJy (P : Program) (sig : Sig) (fuel : Nat) (pf : abP) (call : af3) : abP := fun f A R x =>
 match P.funcs[f]? with
 | some fn => match fn.body with
  | some code => match adG P f && Nat.ble (akW A x).length fn.ntmps with
   | true => match aRB P fn (aIl P sig fuel pf call code { slots := adA 0 (akW A x), H := [], next := 0, n := fn.ntmps }) with
    | some (l, σ) => anL R (AV.maps (fun _ => false) (aHM σ.H) l)
    | none => none
   | false => none
  | none => none
 | none => none
def aTk (P : Program) (fn : Func) (next : Nat) (x : Option (Exit × St)) : Option (AV × Heap × Nat) :=
 match x with
 | some (.panic ch, σ) => match ahA ch with
  | some y => some (aRb y, σ.H, σ.next)
  | none => none
 | x => match aRB P fn x with
  | some (l, σ) => match ap2 (awN l), ap2 (auD next (awN l) σ.H σ.next).1 with
   | none, none => some (auD next (awN l) σ.H σ.next)
   | _, _ => none
  | none => none
def aI5 (l : Nat) : Option (Exit × St) → Option (AV × Heap × Nat)
 | some (e, σ) => match aPw e with
  | some j => match σ.H.find l with
   | some (.loop r) => some (.d .bool j.isNone, σ.H.up l (.loop { r with st := ar4 j, pend := j }), σ.next)
   | _ => none
  | none => none
 | none => none
def aLW (l : Nat) (X : St → Option (Exit × St)) : Option (Exit × St) → Option (Exit × St)
 | some (.normal, σ) => match σ.H.find l with
  | some (.loop r) => match r.st with
   | .ready => X { σ with H := σ.H.up l (.loop { r with st := .busy }) }
   | _ => none
  | _ => none
 | _ => none
def au5 (P : Program) (sig : Sig) (fuel : Nat) (pf : abP) (call : af3) : af3 := fun t args H next =>
 match t with
 | .fn f => match P.funcs[f]? with
  | some fn => match fn.body with
   | some code => match adG P f && Nat.ble args.length fn.ntmps with
    | true => aTk P fn next (aIl P sig fuel pf call code { slots := adA 0 args, H := H, next := next, n := fn.ntmps })
    | false => none
   | none => none
  | none => none
 | .yld l => match H.find l with
  | some (.loop r) => match Nat.beq args.length r.ps.size with
   | true => aI5 l (aLW l (acM P sig fuel pf call (some l) r.body) (acM P sig fuel pf call (some l) r.assign (aqL { slots := r.slots, H := H, next := next, n := r.n } r.ps.toList args)))
   | false => none
  | _ => none
def akR (ext pf : abP) : abP := fun f A R x => match ext f A R x with
 | some y => some y
 | none => pf f A R x
mutual
def aB2 (P : Program) (sig : Sig) (fuel : Nat) (ext : abP) : Nat → abP
 | 0 => ext
 | d + 1 => akR ext (aJy P sig fuel (aB2 P sig fuel ext d) (arE P sig fuel ext d))
def arE (P : Program) (sig : Sig) (fuel : Nat) (ext : abP) : Nat → af3
 | 0 => fun _ _ _ _ => none
 | d + 1 => au5 P sig fuel (aB2 P sig fuel ext d) (arE P sig fuel ext d)
end
def ahO : Nat → Nat → List UInt8 → List UInt8
 | 0, _, acc => acc
 | f + 1, n, acc => match Nat.ble n 9 with
  | true => UInt8.ofNat (48 + n) :: acc
  | false => ahO f (n / 10) (UInt8.ofNat (48 + n % 10) :: acc)
def aN4 : Int → List UInt8
 | .ofNat n => ahO 25 n []
 | .negSucc n => 45 :: ahO 25 (n + 1) []
def aSJ (l : List UInt8) : Nat → List UInt8
 | 0 => []
 | n + 1 => l ++ aSJ l n
def aP8 (l : List UInt8) (n : Int) : Bool := decide (0 ≤ n) && decide (n ≤ 100000) && Nat.ble l.length 1000
def aRD (l : List UInt8) (n : Int) : List UInt8 := aSJ l n.toNat
def aLj : (A R : Ty) → A.T → Option R.T
 | .pair (.int .i64) .unit, .pair .str .unit, x => some (aN4 x.1, ())
 | _, _, _ => none
def aCR : (A R : Ty) → A.T → Option R.T
 | .pair .str (.pair (.int .i64) .unit), .pair .str .unit, x => match aP8 x.1 x.2.1 with
  | true => some (aRD x.1 x.2.1, ())
  | false => none
 | _, _, _ => none
def aGj (fi fr : Nat) : abP := fun f A R x => match Nat.beq f fi with
 | true => aLj A R x
 | false => match Nat.beq f fr with
  | true => aCR A R x
  | false => none
def aHO (sep : List UInt8) : List (List UInt8) → List UInt8
 | [] => []
 | x :: r => sep ++ (x ++ aHO sep r)
def aCp (sep : List UInt8) : List (List UInt8) → List UInt8
 | [] => []
 | x :: r => x ++ aHO sep r
def aKJ (sep : List UInt8) (l : List (List UInt8)) : Bool := Nat.ble 1 l.length && (Nat.ble l.length 1000 && Nat.ble (aCp sep l).length 1000000)
def aLi : (A R : Ty) → A.T → Option R.T
 | .pair (.sl .str) (.pair .str .unit), .pair .str .unit, x => match aKJ x.2.1 x.1 with
  | true => some (aCp x.2.1 x.1, ())
  | false => none
 | _, _, _ => none
def aEU (fi fr fj : Nat) : abP := fun f A R x => match Nat.beq f fj with
 | true => aLi A R x
 | false => aGj fi fr f A R x
end Go.Vg
