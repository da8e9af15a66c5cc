/-
  A runner over the evaluator, and calls that have been run. Own work; no condition.
-/
import Derived.Test.YtlmjbmgabddkiaaGreatDoorClE5
set_option linter.unusedVariables false
set_option linter.unusedSimpArgs false
namespace Go.Vg
open Go Go.RowKit
abbrev aa8 := Nat → (A R : Ty) → A.T → Option R.T
abbrev aeO := Tgt → List AV → Heap → Nat → Option (AV × Heap × Nat)
abbrev Sig := List (Nat × (Ty × Ty))
def Sig.find : Sig → Nat → Option (Ty × Ty)
 | [], _ => none
 | (g, c) :: r, f => match Nat.beq g f with | true => some c | false => Sig.find r f
def aoM : Sig → Bool
 | (a, _) :: (b, _) :: _ => Nat.beq a b
 | _ => false
def aHx : Sig → Sig
 | x :: r => x :: x :: r
 | [] => []
def noC : Con := { args := .unit, res := .unit, pre := fun _ => True, fn := fun _ => (), dec := fun _ => inferInstance }
def aHe : Bool → Cons
 | true => [(0, noC), (0, noC)]
 | false => []
def evR (P : Program) (sig : Sig) (pf : aa8) (K : Nat) (H : Heap) (arg : Operand → AV) (o : Oper) : Option (AV × List (Nat × Bk)) :=
 match o.op with
 | .call { callee := .value f, args, .. } => match arg f with
  | .fn g first caps => match sig.find g with
   | some c => match noSl c.2 || !(aoB (first ++ args.toList.map arg ++ caps)) with
    | true => match agQ H c.1 (first ++ args.toList.map arg ++ caps) with
     | some x => match pf g c.1 c.2 x with
      | some y => some (asJ (aB6 c.2 y), [])
      | none => none
     | none => none
    | false => none
   | none => none
  | _ => none
 | _ => (evM P (aHe (aoM sig)) K H arg o).toO
def aG1 (σ : St) (dst : Option Nat) : Option (AV × List (Nat × Bk)) → Option St
 | some x => some (σ.grow dst x.1 x.2)
 | none => none
def aOq (σ : St) (dst : Option Nat) : Option (AV × Heap × Nat) → Option St
 | some x => match amV x.1 with
  | none => some (({ slots := aa4 (abO x.2.1) agP σ.slots, H := x.2.1, next := x.2.2, n := σ.n } : St).put dst x.1)
  | some _ => none
 | none => none
def aOR (σ : St) : Option (AV × Heap × Nat) → Option (List PanicEntry × St)
 | some x => match amV x.1 with
  | some y => match aiL y with
   | some ch => some (ch, { slots := aa4 (abO x.2.1) agP σ.slots, H := x.2.1, next := x.2.2, n := σ.n })
   | none => none
  | none => none
 | none => none
def ae4 (P : Program) (sig : Sig) (pf : aa8) (o : Oper) (σ : St) : Option St := aG1 σ o.dst (evR P sig pf σ.next σ.H σ.eval o)
def aFQ (P : Program) (o : Oper) (σ : St) (t : TypeId) (a x : Operand) : Option St :=
 match (aAw P σ t a x).toO with
 | some σ' => some (σ'.put o.dst .und)
 | none => none
def ayH (P : Program) (sig : Sig) (pf : aa8) (o : Oper) (σ : St) (b : Builtin) (args : List Operand) (ts : List TypeId) : Option St :=
 match arS P σ o.dst b args ts with
 | some r => r.toO
 | none => ae4 P sig pf o σ
def aNB (P : Program) (sig : Sig) (pf : aa8) (o : Oper) (σ : St) (args : List Operand) (R : Ty) : Option St :=
 match !(noSl R) || aBJ (args.map σ.eval) with
 | true => aG1 (σ.thaws (ab5 (args.map σ.eval))) o.dst (evR P sig pf σ.next (σ.thaws (ab5 (args.map σ.eval))).H (σ.thaws (ab5 (args.map σ.eval))).eval o)
 | false => ae4 P sig pf o σ
def aFU (P : Program) (call : aeO) (o : Oper) (σ : St) (args : List Operand) (g : Nat) (first caps : List AV) : Option St :=
 match aGz P g with
 | true => match args, first, caps with
  | [x], [], [] => some (σ.put o.dst (σ.eval x))
  | _, _, _ => none
 | false => aOq σ o.dst (call (.fn g) (first ++ args.map σ.eval ++ caps) σ.H σ.next)
def aPc (P : Program) (sig : Sig) (pf : aa8) (call : aeO) (o : Oper) (σ : St) (args : List Operand) (g : Nat) (first caps : List AV) : Option St :=
 match sig.find g with
 | some c => aNB P sig pf o σ args c.2
 | none => aFU P call o σ args g first caps
def aFP (P : Program) (sig : Sig) (pf : aa8) (call : aeO) (o : Oper) (σ : St) (f : Operand) (args : List Operand) : Option St :=
 match σ.eval f with
 | .fn g first caps => aPc P sig pf call o σ args g first caps
 | .yld l => aOq σ o.dst (call (.yld l) (args.map σ.eval) σ.H σ.next)
 | _ => none
def aJj (P : Program) (o : Oper) (σ : St) (t : TypeId) (m i x : Operand) : Option St :=
 match (aGF P σ t (σ.eval m) (σ.eval i) (σ.eval x)).toO with
 | some σ' => some (σ'.put o.dst .und)
 | none => none
def opR (P : Program) (sig : Sig) (pf : aa8) (call : aeO) (o : Oper) (σ : St) : Option St :=
 match o.op with
 | .store t a x => aFQ P o σ t a x
 | .buildSlice _ _ ps => ae4 P sig pf o (σ.freed (.ag (ps.toList.map fun x => σ.eval x.2)))
 | .call { callee := .builtin b, args, argTypes } => ayH P sig pf o σ b args.toList argTypes.toList
 | .call { callee := .value f, args, .. } => aFP P sig pf call o σ f args.toList
 | .slice _ y _ _ (some _) => ae4 P sig pf o (σ.freed (σ.eval y))
 | .mapUpdate t m i x => aJj P o σ t m i x
 | .insert t m i x => aJj P o σ t m i x
 | _ => ae4 P sig pf o σ
def opP (P : Program) (sig : Sig) (call : aeO) (o : Oper) (σ : St) : Option (List PanicEntry × St) :=
 match o.op with
 | .panic x => match aiL (σ.eval x) with
  | some ch => some (ch, σ)
  | none => none
 | .call { callee := .value f, args, .. } => match σ.eval f with
  | .fn g first caps => match sig.find g with
   | some _ => none
   | none => match aGz P g with
    | true => none
    | false => aOR σ (call (.fn g) (first ++ args.toList.map σ.eval ++ caps) σ.H σ.next)
  | _ => none
 | _ => none
def asI (x y : Bool) : Bool := x == y
def aAA (P : Program) (sig : Sig) (pf : aa8) (call : aeO) (ops : Array Oper) : List Oper → St → Option St
 | [], σ => some σ
 | o :: rest, σ => match o.guard with
  | none => match opR P sig pf call o σ with
   | some σ' => aAA P sig pf call ops rest σ'
   | none => none
  | some (j, want) => match abC ops j with
   | some t => match adG σ.slots t with
    | .d .bool x => match asI x want with
     | true => match opR P sig pf call o (σ.put (some t) (.d .bool x)) with
      | some σ' => aAA P sig pf call ops rest σ'
      | none => none
     | false => aAA P sig pf call ops rest ((σ.put (some t) (.d .bool x)).put o.dst .und)
    | .und => aAA P sig pf call ops rest (σ.put o.dst .und)
    | _ => none
   | none => none
def aIy (P : Program) (sig : Sig) (pf : aa8) (call : aeO) (ops : Array Oper) : List Oper → St → Option (List PanicEntry × St)
 | [], _ => none
 | o :: rest, σ => match o.guard with
  | none => match opR P sig pf call o σ with
   | some σ' => aIy P sig pf call ops rest σ'
   | none => opP P sig call o σ
  | some (j, want) => match abC ops j with
   | some t => match adG σ.slots t with
    | .d .bool x => match asI x want with
     | true => match opR P sig pf call o (σ.put (some t) (.d .bool x)) with
      | some σ' => aIy P sig pf call ops rest σ'
      | none => opP P sig call o (σ.put (some t) (.d .bool x))
     | false => aIy P sig pf call ops rest ((σ.put (some t) (.d .bool x)).put o.dst .und)
    | .und => aIy P sig pf call ops rest (σ.put o.dst .und)
    | _ => none
   | none => none
def aOw (P : Program) (sig : Sig) (pf : aa8) (sk : List (Nat × Nat)) (Hs : Heap) (K : Nat) (H0 : Heap) (arg : Operand → AV) (o : Oper) : Option Out :=
 match o.op with
 | .store t a x => match asH sk K with
  | some k => match (stB P Hs k t (arg a) (arg x)).toO with
   | some b => some (.st k b)
   | none => none
  | none => none
 | _ => match ah4 sk K with
  | false => match evR P sig pf K H0 arg o with
   | some x => some (.ran x.1 x.2)
   | none => none
  | true => match o.op with
   | .alloc e => match acA P e with
    | some _ => some (.ran (.ptr K 0) [(K, .any)])
    | none => none
   | _ => none
def aLc (P : Program) (sig : Sig) (pf : aa8) (ops : Array Oper) (sk : List (Nat × Nat)) (Hs : Heap) (H0 : Nat → Heap → Heap) : List Oper → Nat → St → List (Nat × Bk) → Option (St × List (Nat × Bk))
 | [], _, σ, s => some (σ, s)
 | o :: rest, K, σ, s => match o.guard with
  | none => match aOw P sig pf sk Hs K (H0 K σ.H) σ.eval o with
   | some u => aLc P sig pf ops sk Hs H0 rest (K + 1) (σ.step o u) (u.sts ++ s)
   | none => none
  | some (j, want) => match abC ops j with
   | some t => match adG σ.slots t with
    | .d .bool x => match asI x want with
     | true => match aOw P sig pf sk Hs K (H0 K σ.H) (σ.put (some t) (.d .bool x)).eval o with
      | some u => aLc P sig pf ops sk Hs H0 rest (K + 1) ((σ.put (some t) (.d .bool x)).step o u) (u.sts ++ s)
      | none => none
     | false => aLc P sig pf ops sk Hs H0 rest (K + 1) ((σ.put (some t) (.d .bool x)).step o .skip) s
    | .und => aLc P sig pf ops sk Hs H0 rest (K + 1) (σ.step o .skip) s
    | _ => none
   | none => none
structure Plan where
 ok : Bool
 m : Nat
 pre : List Oper
 rest : List Oper
def aCg (ops : Array Oper) : Plan :=
 let l := ops.toList
 let ms := acR l []
 let m := acQ ms
 { ok := arQ ops (l.take m) (l.take m) 0 && adT l 0 && akP m ms 0 && Nat.ble m l.length, m := m, pre := l.take m, rest := l.drop m }
def aDe (sig : Sig) (g : Nat) : Bool :=
 match sig.find g with
 | some c => !(noSl c.2)
 | none => false
def aKi (P : Program) (sig : Sig) (pf : aa8) (call : aeO) (ops : Array Oper) (σ : St) : Option St :=
 match aCg ops with
 | ⟨ok, m, pre, rest⟩ => match ok with
  | true => match aLF σ pre σ.next (acG P pre σ.next ++ σ.H) pre σ.next with
   | some sk => match alK (sk.map (·.2)) && akQ pre σ.next sk with
    | true => match aLc P sig pf ops sk (acG P pre σ.next ++ σ.H) (aA4 pre σ.next sk (acG P pre σ.next ++ σ.H) (aAr sk σ.H)) pre σ.next { σ with H := aAr sk σ.H, next := σ.next + m } [] with
     | some x => aAA P sig pf call ops rest (ahZ (acG P pre σ.next ++ σ.H) sk x)
     | none => none
    | false => none
   | none => none
  | false => none
def aKj (P : Program) (sig : Sig) (pf : aa8) (call : aeO) (ops : Array Oper) (σ : St) : Option (List PanicEntry × St) :=
 match aCg ops with
 | ⟨ok, m, pre, rest⟩ => match ok with
  | true => match aLF σ pre σ.next (acG P pre σ.next ++ σ.H) pre σ.next with
   | some sk => match alK (sk.map (·.2)) && akQ pre σ.next sk with
    | true => match aLc P sig pf ops sk (acG P pre σ.next ++ σ.H) (aA4 pre σ.next sk (acG P pre σ.next ++ σ.H) (aAr sk σ.H)) pre σ.next { σ with H := aAr sk σ.H, next := σ.next + m } [] with
     | some x => aIy P sig pf call ops rest (ahZ (acG P pre σ.next ++ σ.H) sk x)
     | none => none
    | false => none
   | none => none
  | false => none
def aBU (f : Nat → Oper → List (Nat × St) → Option (List (Nat × St))) : List Oper → Nat → List (Nat × St) → Option (List (Nat × St))
 | [], _, acc => some acc
 | o :: r, i, acc => match f i o acc with
  | some acc => aBU f r (i + 1) acc
  | none => none
def aJ2 : List (Nat × St) → Nat → Option St
 | [], _ => none
 | (k, s) :: r, m => match Nat.beq k m with
  | true => some s
  | false => aJ2 r m
def aNN : Nat → Nat → Nat → List (Nat × Nat)
 | 0, _, _ => []
 | m + 1, n, c => (n, c) :: aNN m (n + 1) (c + 1)
def aLs (b size k d i n : Nat) (σ' : St) : St := ((σ'.rekeysK b (aNN (σ'.next - n) n (b + size + 1 + i * 100))).sort d (b + size)).raise (b + (size + 2) * 100 + (size - k) * 100)
def aO4 (m : Nat) : List Oper → Nat → Nat → Nat
 | [], _, c => c
 | o :: r, j, c => match Nat.testBit m j, o.dst with
  | true, some _ => aO4 m r (j + 1) (c + 1)
  | _, _ => aO4 m r (j + 1) c
def aPf (ops : Array Oper) (m i : Nat) (o : Oper) : Nat := match o.dst with
 | none => 0
 | some _ => aO4 (m ||| 2 ^ i) ops.toList 0 0
def aOA (acc : List (Nat × St)) (m : Nat) (σ : St) : Option (List (Nat × St)) :=
 match aJ2 acc m with
 | some s => match stE σ s with
  | true => some acc
  | false => none
 | none => some ((m, σ) :: acc)
def aNC (P : Program) (sig : Sig) (pf : aa8) (call : aeO) (ops : Array Oper) (b size k m : Nat) (σ : St) (i : Nat) (o : Oper) (acc : List (Nat × St)) : Option (List (Nat × St)) :=
 match Nat.testBit m i with
 | true => some acc
 | false => match akJ m o.after.toList with
  | true => match aAA P sig pf call ops [o] σ with
   | some σ' => match Nat.ble σ'.next (aLs b size k (aPf ops m i o) i σ.next σ').next with
    | true => aOA acc (m ||| 2 ^ i) (aLs b size k (aPf ops m i o) i σ.next σ')
    | false => none
   | none => none
  | false => some acc
def aCu (P : Program) (sig : Sig) (pf : aa8) (call : aeO) (ops : Array Oper) (b size k : Nat) : List (Nat × St) → List (Nat × St) → Option (List (Nat × St))
 | [], acc => some acc
 | x :: r, acc => match aBU (aNC P sig pf call ops b size k x.1 x.2) ops.toList 0 acc with
  | some acc => aCu P sig pf call ops b size k r acc
  | none => none
def aOg (P : Program) (sig : Sig) (pf : aa8) (call : aeO) (ops : Array Oper) (b size : Nat) : Nat → List (Nat × St) → Option St
 | 0, l => match l with
  | [x] => some x.2
  | _ => none
 | n + 1, l => match aCu P sig pf call ops b size n l [] with
  | some l' => aOg P sig pf call ops b size n l'
  | none => none
def aO7 (P : Program) (sig : Sig) (pf : aa8) (call : aeO) (ops : Array Oper) (σ : St) : Option St :=
 match adT ops.toList 0 with
 | true => aOg P sig pf call ops σ.next ops.size ops.size [(0, σ)]
 | false => none
def aMu (P : Program) (sig : Sig) (pf : aa8) (call : aeO) (ops : Array Oper) (σ : St) : Option St :=
 match aKi P sig pf call ops (σ.forDraw (aDe sig) ops.toList) with
 | some s => some s
 | none => match aKi P (aHx sig) pf call ops (σ.forDraw (aDe (aHx sig)) ops.toList) with
  | some σ' => some σ'
  | none => aO7 P sig pf call ops σ
def aDV (a : Option St) (b : Option (List PanicEntry × St)) : Option (Exit × St) :=
 match a with
 | some σ => some (.normal, σ)
 | none => match b with
  | some x => some (.panic x.1, x.2)
  | none => none
def aGJ (f : St → Option (Exit × St)) : Nat → St → Option (Exit × St)
 | 0, _ => none
 | n + 1, σ => match f σ with
  | some (.normal, σ') => aGJ f n σ'
  | r => r
def aHZ (id : Nat) : Option (Exit × St) → Option (Exit × St)
 | some (.exit j, σ) => match Nat.beq j id with
  | true => some (.normal, σ)
  | false => some (.exit j, σ)
 | r => r
def aKH : Option (Exit × St) → Option (Exit × St)
 | some (.goto _, _) => none
 | r => r
def aB9 (σ : St) (l : Nat) : Option (AV × Heap × Nat) → Option (Exit × St)
 | some x => match amV x.1 with
  | some _ => none
  | none => match x.2.1.find l with
  | some (.loop r) => match r.st, ai5 r.pend with
   | .busy, _ => none
   | _, some e => some (e, { slots := aa4 (abO (x.2.1.up l (.loop { r with st := .exhausted }))) agP σ.slots, H := x.2.1.up l (.loop { r with st := .exhausted }), next := x.2.2, n := σ.n })
   | _, none => none
  | _ => none
 | none => none
def abV (P : Program) (sig : Sig) (fuel : Nat) (pf : aa8) (call : aeO) (rd : Option Nat) : Code → St → Option (Exit × St)
 | .skip, σ => some (.normal, σ)
 | .region _ ops draw, σ => match draw with
  | false => aDV (aAA P sig pf call ops ops.toList σ) (aIy P sig pf call ops ops.toList σ)
  | true => aDV (aMu P sig pf call ops σ) (aKj P sig pf call ops (σ.forDraw (aDe sig) ops.toList))
 | .seq x y, σ => match abV P sig fuel pf call rd x σ with
  | some (.normal, σ') => abV P sig fuel pf call rd y σ'
  | r => r
 | .cond c x y, σ => match σ.eval c with
  | .d .bool b => match (b : Bool) with
   | true => abV P sig fuel pf call rd x σ
   | false => abV P sig fuel pf call rd y σ
  | _ => none
 | .block id c, σ => aHZ id (abV P sig fuel pf call rd c σ)
 | .loop c, σ => aGJ (abV P sig fuel pf call rd c) fuel σ
 | .exit id, σ => some (.exit id, σ)
 | .ret, σ => some (.ret, σ)
 | .label _, σ => some (.normal, σ)
 | .scope c, σ => aKH (abV P sig fuel pf call rd c σ)
 | .rangeFunc g ps assign body, σ => match σ.eval g with
  | .fn f first caps => match rd with
   | none => aB9 σ σ.next (call (.fn f) (first ++ .yld σ.next :: caps) (σ.lay σ.next ps assign body) (σ.next + 1))
   | some l0 => match σ.H.find l0 with
    | some (.loop _) => aB9 σ σ.next (call (.fn f) (first ++ .yld σ.next :: caps) (σ.lay σ.next ps assign body) (σ.next + 1))
    | _ => none
  | _ => none
 | _, _ => none
abbrev aOj := Array Oper → List Oper → St → Option St
abbrev aIu := Option Nat → Code → St → Option (Exit × St)
def aOf (σ : St) : Option (Exit × St) → Option (Exit × St)
 | some (.normal, s) => some (.ret, { slots := aa4 (abO s.H) agP σ.slots, H := s.H, next := s.next, n := σ.n })
 | some (.ret, s) => some (.ret, { slots := aa4 (abO s.H) agP σ.slots, H := s.H, next := s.next, n := σ.n })
 | _ => none
def aHP (P : Program) (sq : aOj) (cd : aIu) (g : FuncId) (caps : List AV) (x : AV) (σ : St) : Option (Exit × St) :=
 match aCQ P g with
 | some c => match Nat.ble caps.length c.gn.ntmps with
  | true => match sq c.ops c.rest (({ slots := acD 0 (AV.maps (abO σ.H) agP caps), H := σ.H, next := σ.next + 1, n := c.gn.ntmps } : St).put c.o.dst x) with
   | some s => aOf σ (cd (some σ.next) c.B s)
   | none => none
  | false => none
 | none => none
def aOE (P : Program) (sq : aOj) (cd : aIu) (g : FuncId) (caps : List AV) : Option (Exit × St) → Option (Exit × St)
 | some (.normal, σ) => aHP P sq cd g caps .nili σ
 | some (.ret, σ) => aHP P sq cd g caps .nili σ
 | some (.panic ch, σ) => match afL ch with
  | some x => aHP P sq cd g caps x σ
  | none => none
 | _ => none
def aNf (P : Program) (sq : aOj) (cd : aIu) (d : DefB) (σ : St) : Option (Exit × St) :=
 match σ.eval d.f with
 | .fn g first caps => match first with
  | [] => aOE P sq cd g caps (cd none d.rest (σ.put d.o.dst .und))
  | _ :: _ => none
 | _ => none
def aPg (P : Program) (sq : aOj) (cd : aIu) (d : DefB) (σ : St) : Option (Exit × St) :=
 match sq d.ops0 d.ops0.toList σ with
 | some σ => match sq d.ops1 d.ops1.toList.dropLast σ with
  | some σ => aNf P sq cd d σ
  | none => none
 | none => none
def aMB (P : Program) (sq : aOj) (cd : aIu) (c : Code) (σ : St) : Option (Exit × St) :=
 match ai8 c with
 | some d => aPg P sq cd d σ
 | none => cd none c σ
def aEu (P : Program) (sig : Sig) (fuel : Nat) (pf : aa8) (call : aeO) : Code → St → Option (Exit × St) :=
 aMB P (aAA P sig pf call) (abV P sig fuel pf call)
def axD (n : Nat) : List AV → Nat → Bool
 | _, 0 => true
 | [], _ => false
 | .ptr k _ :: r, d + 1 => Nat.ble n k || axD n r d
 | .eptr k _ :: r, d + 1 => Nat.ble n k || axD n r d
 | .own k _ _ :: r, d + 1 => Nat.ble n k || axD n r d
 | .ox k _ _ :: r, d + 1 => Nat.ble n k || axD n r d
 | .sv k _ :: r, d + 1 => Nat.ble n k || axD n r d
 | .yld k :: r, d + 1 => Nat.ble n k || axD n r d
 | .mp k :: r, d + 1 => Nat.ble n k || axD n r d
 | .fn _ a b :: r, d + 1 => axD n a d || axD n b d || axD n r d
 | .ag l :: r, d + 1 => axD n l d || axD n r d
 | .tup l :: r, d + 1 => axD n l d || axD n r d
 | _ :: r, d + 1 => axD n r d
def aCB (n : Nat) : Heap → Bool
 | [] => false
 | (k, b) :: r => (match Nat.ble n k with
  | true => false
  | false => match b with
   | .vars _ cells => axD n cells 10000
   | .dic _ l => axD n (l.map (·.2)) 10000
   | _ => false) || aCB n r
def aqJ (n : Nat) (r : AV) (H : Heap) (m : Nat) : AV × Heap × Nat :=
 match axD n [r] 10000 || aCB n H with
 | true => (r, H, m)
 | false => (r.map (fun k => Nat.blt k n) agP, H.keep (fun k => Nat.blt k n) agP, n)
def aNe (P : Program) (fn : Func) : Option (Exit × St) → Option (List AV × St)
 | some (.normal, σ) => match (aIA P σ fn.results.toList).toO with
  | some l => some (l, σ)
  | none => none
 | some (.ret, σ) => match (aIA P σ fn.results.toList).toO with
  | some l => some (l, σ)
  | none => none
 | _ => none
def aFI (P : Program) (sig : Sig) (fuel : Nat) (pf : aa8) (call : aeO) : aa8 := fun f A R x =>
 match P.funcs[f]? with
 | some fn => match fn.body with
  | some code => match acF P f && Nat.ble (aiM A x).length fn.ntmps with
   | true => match aNe P fn (aEu P sig fuel pf call code { slots := acD 0 (aiM A x), H := [], next := 0, n := fn.ntmps }) with
    | some (l, σ) => ak3 R (AV.maps (fun _ => false) (aD0 σ.H) l)
    | none => none
   | false => none
  | none => none
 | none => none
def aO3 (P : Program) (fn : Func) (next : Nat) (x : Option (Exit × St)) : Option (AV × Heap × Nat) :=
 match x with
 | some (.panic ch, σ) => match afL ch with
  | some y => some (aMP y, σ.H, σ.next)
  | none => none
 | x => match aNe P fn x with
  | some (l, σ) => match amV (asJ l), amV (aqJ next (asJ l) σ.H σ.next).1 with
   | none, none => some (aqJ next (asJ l) σ.H σ.next)
   | _, _ => none
  | none => none
def aFj (l : Nat) : Option (Exit × St) → Option (AV × Heap × Nat)
 | some (e, σ) => match aLj e with
  | some j => match σ.H.find l with
   | some (.loop r) => some (.d .bool j.isNone, σ.H.up l (.loop { r with st := aoO j, pend := j }), σ.next)
   | _ => none
  | none => none
 | none => none
def aH1 (l : Nat) (X : St → Option (Exit × St)) : Option (Exit × St) → Option (Exit × St)
 | some (.normal, σ) => match σ.H.find l with
  | some (.loop r) => match r.st with
   | .ready => X { σ with H := σ.H.up l (.loop { r with st := .busy }) }
   | _ => none
  | _ => none
 | _ => none
def arC (P : Program) (sig : Sig) (fuel : Nat) (pf : aa8) (call : aeO) : aeO := fun t args H next =>
 match t with
 | .fn f => match P.funcs[f]? with
  | some fn => match fn.body with
   | some code => match acF P f && Nat.ble args.length fn.ntmps with
    | true => aO3 P fn next (aEu P sig fuel pf call code { slots := acD 0 args, H := H, next := next, n := fn.ntmps })
    | false => none
   | none => none
  | none => none
 | .yld l => match H.find l with
  | some (.loop r) => match Nat.beq args.length r.ps.size with
   | true => aFj l (aH1 l (abV P sig fuel pf call (some l) r.body) (abV P sig fuel pf call (some l) r.assign (anF { slots := r.slots, H := H, next := next, n := r.n } r.ps.toList args)))
   | false => none
  | _ => none
def aiH (ext pf : aa8) : aa8 := fun f A R x => match ext f A R x with
 | some y => some y
 | none => pf f A R x
mutual
def ayD (P : Program) (sig : Sig) (fuel : Nat) (ext : aa8) : Nat → aa8
 | 0 => ext
 | d + 1 => aiH ext (aFI P sig fuel (ayD P sig fuel ext d) (an6 P sig fuel ext d))
def an6 (P : Program) (sig : Sig) (fuel : Nat) (ext : aa8) : Nat → aeO
 | 0 => fun _ _ _ _ => none
 | d + 1 => arC P sig fuel (ayD P sig fuel ext d) (an6 P sig fuel ext d)
end
def afX : Nat → Nat → List UInt8 → List UInt8
 | 0, _, acc => acc
 | f + 1, n, acc => match Nat.ble n 9 with
  | true => UInt8.ofNat (48 + n) :: acc
  | false => afX f (n / 10) (UInt8.ofNat (48 + n % 10) :: acc)
def aJV : Int → List UInt8
 | .ofNat n => afX 25 n []
 | .negSucc n => 45 :: afX 25 (n + 1) []
def aOp (l : List UInt8) : Nat → List UInt8
 | 0 => []
 | n + 1 => l ++ aOp l n
def aLN (l : List UInt8) (n : Int) : Bool := decide (0 ≤ n) && decide (n ≤ 100000) && Nat.ble l.length 1000
def aNg (l : List UInt8) (n : Int) : List UInt8 := aOp l n.toNat
def aHn : (A R : Ty) → A.T → Option R.T
 | .pair (.int .i64) .unit, .pair .str .unit, x => some (aJV x.1, ())
 | _, _, _ => none
def azM : (A R : Ty) → A.T → Option R.T
 | .pair .str (.pair (.int .i64) .unit), .pair .str .unit, x => match aLN x.1 x.2.1 with
  | true => some (aNg x.1 x.2.1, ())
  | false => none
 | _, _, _ => none
def aCI (fi fr : Nat) : aa8 := fun f A R x => match Nat.beq f fi with
 | true => aHn A R x
 | false => match Nat.beq f fr with
  | true => azM A R x
  | false => none
def aD2 (sep : List UInt8) : List (List UInt8) → List UInt8
 | [] => []
 | x :: r => sep ++ (x ++ aD2 sep r)
def ayW (sep : List UInt8) : List (List UInt8) → List UInt8
 | [] => []
 | x :: r => x ++ aD2 sep r
def aGQ (sep : List UInt8) (l : List (List UInt8)) : Bool := Nat.ble 1 l.length && (Nat.ble l.length 1000 && Nat.ble (ayW sep l).length 1000000)
def aHm : (A R : Ty) → A.T → Option R.T
 | .pair (.sl .str) (.pair .str .unit), .pair .str .unit, x => match aGQ x.2.1 x.1 with
  | true => some (ayW x.2.1 x.1, ())
  | false => none
 | _, _, _ => none
def aBm (fi fr fj : Nat) : aa8 := fun f A R x => match Nat.beq f fj with
 | true => aHm A R x
 | false => aCI fi fr f A R x
end Go.Vg
