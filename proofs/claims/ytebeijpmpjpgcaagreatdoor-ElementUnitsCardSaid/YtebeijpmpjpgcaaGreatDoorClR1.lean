/-
  A runner over the evaluator, and calls that have been run. Own work; no condition.
-/
import Derived.Test.YtebeijpmpjpgcaaGreatDoorClE6
set_option linter.unusedVariables false
set_option linter.unusedSimpArgs false
namespace Go.Vg
open Go Go.RowKit
abbrev abO := Nat → (A R : Ty) → A.T → Option R.T
abbrev aeN := Tgt → List AV → Heap → Nat → Option (AV × Heap × Nat)
abbrev Sig := List (Nat × (Ty × Ty))
def Sig.find : Sig → Nat → Option (Ty × Ty)
 | [], _ => none
 | (g, c) :: r, f => match Nat.beq g f with | true => some c | false => Sig.find r f
def ao1 : Sig → Bool
 | (a, _) :: (b, _) :: _ => Nat.beq a b
 | _ => false
def aHl : Sig → Sig
 | x :: r => x :: x :: r
 | [] => []
def noC : Con := { args := .unit, res := .unit, pre := fun _ => True, fn := fun _ => (), dec := fun _ => inferInstance }
def aG1 : Bool → Cons
 | true => [(0, noC), (0, noC)]
 | false => []
def evR (P : Program) (sig : Sig) (pf : abO) (K : Nat) (H : Heap) (arg : Operand → AV) (o : Oper) : Option (AV × List (Nat × Bk)) :=
 match o.op with
 | .call { callee := .value f, args, .. } => match arg f with
  | .fn g first caps => match sig.find g with
   | some c => match noSl c.2 || !(aoJ (first ++ args.toList.map arg ++ caps)) with
    | true => match ag4 H c.1 (first ++ args.toList.map arg ++ caps) with
     | some x => match pf g c.1 c.2 x with
      | some y => some (as4 (aCf c.2 y), [])
      | none => none
     | none => none
    | false => none
   | none => none
  | _ => none
 | _ => (evM P (aG1 (ao1 sig)) K H arg o).toO
def aGL (σ : St) (dst : Option Nat) : Option (AV × List (Nat × Bk)) → Option St
 | some x => some (σ.grow dst x.1 x.2)
 | none => none
def aOV (σ : St) (dst : Option Nat) : Option (AV × Heap × Nat) → Option St
 | some x => match akQ x.1 with
  | none => some (({ slots := abL (abY x.2.1) ae3 σ.slots, H := x.2.1, next := x.2.2, n := σ.n } : St).put dst x.1)
  | some _ => none
 | none => none
def aPz (σ : St) : Option (AV × Heap × Nat) → Option (List PanicEntry × St)
 | some x => match akQ x.1 with
  | some y => match ai3 y with
   | some ch => some (ch, { slots := abL (abY x.2.1) ae3 σ.slots, H := x.2.1, next := x.2.2, n := σ.n })
   | none => none
  | none => none
 | none => none
def afN (P : Program) (sig : Sig) (pf : abO) (o : Oper) (σ : St) : Option St := aGL σ o.dst (evR P sig pf σ.next σ.H σ.eval o)
def aFG (P : Program) (o : Oper) (σ : St) (t : TypeId) (a x : Operand) : Option St :=
 match (aAJ P σ t a x).toO with
 | some σ' => some (σ'.put o.dst .und)
 | none => none
def ayK (P : Program) (sig : Sig) (pf : abO) (o : Oper) (σ : St) (b : Builtin) (args : List Operand) (ts : List TypeId) : Option St :=
 match asA P σ o.dst b args ts with
 | some r => r.toO
 | none => afN P sig pf o σ
def aNG (P : Program) (sig : Sig) (pf : abO) (o : Oper) (σ : St) (args : List Operand) (R : Ty) : Option St :=
 match !(noSl R) || aBT (args.map σ.eval) with
 | true => aGL (σ.thaws (acK (args.map σ.eval))) o.dst (evR P sig pf σ.next (σ.thaws (acK (args.map σ.eval))).H (σ.thaws (acK (args.map σ.eval))).eval o)
 | false => afN P sig pf o σ
def aFJ (P : Program) (call : aeN) (o : Oper) (σ : St) (args : List Operand) (g : Nat) (first caps : List AV) : Option St :=
 match aGl P g with
 | true => match args, first, caps with
  | [x], [], [] => some (σ.put o.dst (σ.eval x))
  | _, _, _ => none
 | false => aOV σ o.dst (call (.fn g) (first ++ args.map σ.eval ++ caps) σ.H σ.next)
def aQl (P : Program) (sig : Sig) (pf : abO) (call : aeN) (o : Oper) (σ : St) (args : List Operand) (g : Nat) (first caps : List AV) : Option St :=
 match sig.find g with
 | some c => aNG P sig pf o σ args c.2
 | none => aFJ P call o σ args g first caps
def aFF (P : Program) (sig : Sig) (pf : abO) (call : aeN) (o : Oper) (σ : St) (f : Operand) (args : List Operand) : Option St :=
 match σ.eval f with
 | .fn g first caps => aQl P sig pf call o σ args g first caps
 | .yld l => aOV σ o.dst (call (.yld l) (args.map σ.eval) σ.H σ.next)
 | _ => none
def aIZ (P : Program) (o : Oper) (σ : St) (t : TypeId) (m i x : Operand) : Option St :=
 match (aGr P σ t (σ.eval m) (σ.eval i) (σ.eval x)).toO with
 | some σ' => some (σ'.put o.dst .und)
 | none => none
def opR (P : Program) (sig : Sig) (pf : abO) (call : aeN) (o : Oper) (σ : St) : Option St :=
 match o.op with
 | .store t a x => aFG P o σ t a x
 | .buildSlice _ _ ps => afN P sig pf o (σ.freed (.ag (ps.toList.map fun x => σ.eval x.2)))
 | .call { callee := .builtin b, args, argTypes } => ayK P sig pf o σ b args.toList argTypes.toList
 | .call { callee := .value f, args, .. } => aFF P sig pf call o σ f args.toList
 | .slice _ y _ _ (some _) => afN P sig pf o (σ.freed (σ.eval y))
 | .mapUpdate t m i x => aIZ P o σ t m i x
 | .insert t m i x => aIZ P o σ t m i x
 | _ => afN P sig pf o σ
def opP (P : Program) (sig : Sig) (call : aeN) (o : Oper) (σ : St) : Option (List PanicEntry × St) :=
 match o.op with
 | .panic x => match ai3 (σ.eval x) with
  | some ch => some (ch, σ)
  | none => none
 | .call { callee := .value f, args, .. } => match σ.eval f with
  | .fn g first caps => match sig.find g with
   | some _ => none
   | none => match aGl P g with
    | true => none
    | false => aPz σ (call (.fn g) (first ++ args.toList.map σ.eval ++ caps) σ.H σ.next)
  | _ => none
 | _ => none
def as3 (x y : Bool) : Bool := x == y
def aAB (P : Program) (sig : Sig) (pf : abO) (call : aeN) (ops : Array Oper) : List Oper → St → Option St
 | [], σ => some σ
 | o :: rest, σ => match o.guard with
  | none => match opR P sig pf call o σ with
   | some σ' => aAB P sig pf call ops rest σ'
   | none => none
  | some (j, want) => match abV ops j with
   | some t => match adA σ.slots t with
    | .d .bool x => match as3 x want with
     | true => match opR P sig pf call o (σ.put (some t) (.d .bool x)) with
      | some σ' => aAB P sig pf call ops rest σ'
      | none => none
     | false => aAB P sig pf call ops rest ((σ.put (some t) (.d .bool x)).put o.dst .und)
    | .und => aAB P sig pf call ops rest (σ.put o.dst .und)
    | _ => none
   | none => none
def aIh (P : Program) (sig : Sig) (pf : abO) (call : aeN) (ops : Array Oper) : List Oper → St → Option (List PanicEntry × St)
 | [], _ => none
 | o :: rest, σ => match o.guard with
  | none => match opR P sig pf call o σ with
   | some σ' => aIh P sig pf call ops rest σ'
   | none => opP P sig call o σ
  | some (j, want) => match abV ops j with
   | some t => match adA σ.slots t with
    | .d .bool x => match as3 x want with
     | true => match opR P sig pf call o (σ.put (some t) (.d .bool x)) with
      | some σ' => aIh P sig pf call ops rest σ'
      | none => opP P sig call o (σ.put (some t) (.d .bool x))
     | false => aIh P sig pf call ops rest ((σ.put (some t) (.d .bool x)).put o.dst .und)
    | .und => aIh P sig pf call ops rest (σ.put o.dst .und)
    | _ => none
   | none => none
def aPe (P : Program) (sig : Sig) (pf : abO) (sk : List (Nat × Nat)) (Hs : Heap) (K : Nat) (H0 : Heap) (arg : Operand → AV) (o : Oper) : Option Out :=
 match o.op with
 | .store t a x => match as2 sk K with
  | some k => match (stB P Hs k t (arg a) (arg x)).toO with
   | some b => some (.st k b)
   | none => none
  | none => none
 | _ => match aiL sk K with
  | false => match evR P sig pf K H0 arg o with
   | some x => some (.ran x.1 x.2)
   | none => none
  | true => match o.op with
   | .alloc e => match acQ P e with
    | some _ => some (.ran (.ptr K 0) [(K, .any)])
    | none => none
   | _ => none
def aK1 (P : Program) (sig : Sig) (pf : abO) (ops : Array Oper) (sk : List (Nat × Nat)) (Hs : Heap) (H0 : Nat → Heap → Heap) : List Oper → Nat → St → List (Nat × Bk) → Option (St × List (Nat × Bk))
 | [], _, σ, s => some (σ, s)
 | o :: rest, K, σ, s => match o.guard with
  | none => match aPe P sig pf sk Hs K (H0 K σ.H) σ.eval o with
   | some u => aK1 P sig pf ops sk Hs H0 rest (K + 1) (σ.step o u) (u.sts ++ s)
   | none => none
  | some (j, want) => match abV ops j with
   | some t => match adA σ.slots t with
    | .d .bool x => match as3 x want with
     | true => match aPe P sig pf sk Hs K (H0 K σ.H) (σ.put (some t) (.d .bool x)).eval o with
      | some u => aK1 P sig pf ops sk Hs H0 rest (K + 1) ((σ.put (some t) (.d .bool x)).step o u) (u.sts ++ s)
      | none => none
     | false => aK1 P sig pf ops sk Hs H0 rest (K + 1) ((σ.put (some t) (.d .bool x)).step o .skip) s
    | .und => aK1 P sig pf ops sk Hs H0 rest (K + 1) (σ.step o .skip) s
    | _ => none
   | none => none
structure Plan where
 ok : Bool
 m : Nat
 pre : List Oper
 rest : List Oper
def aCl (ops : Array Oper) : Plan :=
 let l := ops.toList
 let ms := ab2 l []
 let m := ab9 ms
 { ok := ar5 ops (l.take m) (l.take m) 0 && ac7 l 0 && ag2 m ms 0 && Nat.ble m l.length, m := m, pre := l.take m, rest := l.drop m }
def aDo (sig : Sig) (g : Nat) : Bool :=
 match sig.find g with
 | some c => !(noSl c.2)
 | none => false
def aJ7 (P : Program) (sig : Sig) (pf : abO) (call : aeN) (ops : Array Oper) (σ : St) : Option St :=
 match aCl ops with
 | ⟨ok, m, pre, rest⟩ => match ok with
  | true => match aLA σ pre σ.next (ac2 P pre σ.next ++ σ.H) pre σ.next with
   | some sk => match alS (sk.map (·.2)) && ak5 pre σ.next sk with
    | true => match aK1 P sig pf ops sk (ac2 P pre σ.next ++ σ.H) (aBg pre σ.next sk (ac2 P pre σ.next ++ σ.H) (aAH sk σ.H)) pre σ.next { σ with H := aAH sk σ.H, next := σ.next + m } [] with
     | some x => aAB P sig pf call ops rest (aiF (ac2 P pre σ.next ++ σ.H) sk x)
     | none => none
    | false => none
   | none => none
  | false => none
def aJ8 (P : Program) (sig : Sig) (pf : abO) (call : aeN) (ops : Array Oper) (σ : St) : Option (List PanicEntry × St) :=
 match aCl ops with
 | ⟨ok, m, pre, rest⟩ => match ok with
  | true => match aLA σ pre σ.next (ac2 P pre σ.next ++ σ.H) pre σ.next with
   | some sk => match alS (sk.map (·.2)) && ak5 pre σ.next sk with
    | true => match aK1 P sig pf ops sk (ac2 P pre σ.next ++ σ.H) (aBg pre σ.next sk (ac2 P pre σ.next ++ σ.H) (aAH sk σ.H)) pre σ.next { σ with H := aAH sk σ.H, next := σ.next + m } [] with
     | some x => aIh P sig pf call ops rest (aiF (ac2 P pre σ.next ++ σ.H) sk x)
     | none => none
    | false => none
   | none => none
  | false => none
def aB3 (f : Nat → Oper → List (Nat × St) → Option (List (Nat × St))) : List Oper → Nat → List (Nat × St) → Option (List (Nat × St))
 | [], _, acc => some acc
 | o :: r, i, acc => match f i o acc with
  | some acc => aB3 f r (i + 1) acc
  | none => none
def aJS : List (Nat × St) → Nat → Option St
 | [], _ => none
 | (k, s) :: r, m => match Nat.beq k m with
  | true => some s
  | false => aJS r m
def aNS : Nat → Nat → Nat → List (Nat × Nat)
 | 0, _, _ => []
 | m + 1, n, c => (n, c) :: aNS m (n + 1) (c + 1)
def aLn (b size k d i n : Nat) (σ' : St) : St := ((σ'.rekeysK b (aNS (σ'.next - n) n (b + size + 1 + i * 100))).sort d (b + size)).forget.raise (b + (size + 2) * 100 + (size - k) * 100)
def aP6 (m : Nat) : List Oper → Nat → Nat → Nat
 | [], _, c => c
 | o :: r, j, c => match Nat.testBit m j, o.dst with
  | true, some _ => aP6 m r (j + 1) (c + 1)
  | _, _ => aP6 m r (j + 1) c
def aQt (ops : Array Oper) (m i : Nat) (o : Oper) : Nat := match o.dst with
 | none => 0
 | some _ => aP6 (m ||| 2 ^ i) ops.toList 0 0
def aPj (acc : List (Nat × St)) (m : Nat) (σ : St) : Option (List (Nat × St)) :=
 match aJS acc m with
 | some s => match stE σ s with
  | true => some acc
  | false => none
 | none => some ((m, σ) :: acc)
def aNH (P : Program) (sig : Sig) (pf : abO) (call : aeN) (ops : Array Oper) (b size k m : Nat) (σ : St) (i : Nat) (o : Oper) (acc : List (Nat × St)) : Option (List (Nat × St)) :=
 match Nat.testBit m i with
 | true => some acc
 | false => match ak1 m o.after.toList with
  | true => match aAB P sig pf call ops [o] σ with
   | some σ' => match Nat.ble σ'.next (aLn b size k (aQt ops m i o) i σ.next σ').next with
    | true => aPj acc (m ||| 2 ^ i) (aLn b size k (aQt ops m i o) i σ.next σ')
    | false => none
   | none => none
  | false => some acc
def aCB (P : Program) (sig : Sig) (pf : abO) (call : aeN) (ops : Array Oper) (b size k : Nat) : List (Nat × St) → List (Nat × St) → Option (List (Nat × St))
 | [], acc => some acc
 | x :: r, acc => match aB3 (aNH P sig pf call ops b size k x.1 x.2) ops.toList 0 acc with
  | some acc => aCB P sig pf call ops b size k r acc
  | none => none
def aOq (P : Program) (sig : Sig) (pf : abO) (call : aeN) (ops : Array Oper) (b size : Nat) : Nat → List (Nat × St) → Option St
 | 0, l => match l with
  | [x] => some x.2
  | _ => none
 | n + 1, l => match aCB P sig pf call ops b size n l [] with
  | some l' => aOq P sig pf call ops b size n l'
  | none => none
def aQb (P : Program) (sig : Sig) (pf : abO) (call : aeN) (ops : Array Oper) (σ : St) : Option St :=
 match ac7 ops.toList 0 with
 | true => aOq P sig pf call ops σ.next ops.size ops.size [(0, σ)]
 | false => none
def obR (P : Program) (σ : St) (o : Oper) : Bool := match o.dst with
 | none => false
 | some d => match (evU P σ.H σ.eval o).toO with
  | some r => match adA σ.slots d with
   | .no => true
   | y => avE r y
  | none => false
def aDY (P : Program) (ms : List Nat) (u m : Nat) (σ : St) : List Oper → Nat → Bool
 | [], _ => true
 | o :: r, i => match u.testBit i && !agW m i ms 0 with
  | true => match obR P σ o with
   | true => aDY P ms u m σ r (i + 1)
   | false => false
  | false => aDY P ms u m σ r (i + 1)
def aDr (P : Program) (u : Nat) : List Oper → Nat → St → Option St
 | [], _, σ => some σ
 | o :: r, i, σ => match u.testBit i with
  | true => match (evU P σ.H σ.eval o).toO with
   | some x => aDr P u r (i + 1) (σ.put o.dst x)
   | none => none
  | false => aDr P u r (i + 1) σ
def aNL (P : Program) (sig : Sig) (pf : abO) (call : aeN) (b : Nat) (pre : List Oper) (ms : List Nat) : Nat → Nat → Nat → St → Option St
 | 0, u, m, σ => match aDY P ms u m σ pre 0, aoG (u ||| m) pre 0 with
  | true, 0 => some σ
  | _, _ => none
 | k + 1, u, m, σ => match aDY P ms u m σ pre 0 with
  | true => match aoG (u ||| m) pre 0 with
   | 0 => some σ
   | _ + 1 => match arP (u ||| m) pre 0 with
    | [x] => match opR P sig pf call x.2 σ with
     | some σ' => match aDr P (akJ (m ||| 2 ^ x.1) pre 0 u ^^^ u) pre 0 σ' with
      | some σ1 => aNL P sig pf call b pre ms k (akJ (m ||| 2 ^ x.1) pre 0 u) (m ||| 2 ^ x.1) σ1
      | none => none
     | none => none
    | _ => none
  | false => none
def aLg (P : Program) (sig : Sig) (pf : abO) (call : aeN) (ops : Array Oper) (σ : St) (l : List Oper) (ms : List Nat) (m : Nat) (pre : List Oper) (u : Nat) : Option St :=
 match aMZ pre pre 0 && ac7 l 0 && ag2 m ms 0 && Nat.ble m l.length with
 | true => match aDr P u pre 0 σ with
  | some σ' => match aNL P sig pf call σ.next pre ms (aoG u pre 0) u 0 σ' with
   | some σ'' => aAB P sig pf call ops (l.drop m) σ''
   | none => none
  | none => none
 | false => none
def aGJ (P : Program) (sig : Sig) (pf : abO) (call : aeN) (ops : Array Oper) (σ : St) : Option St :=
 aLg P sig pf call ops σ ops.toList (ab2 ops.toList []) (ab9 (ab2 ops.toList [])) (ops.toList.take (ab9 (ab2 ops.toList []))) (aIs (ops.toList.take (ab9 (ab2 ops.toList []))) 0 0)
def aMk (P : Program) (sig : Sig) (pf : abO) (call : aeN) (ops : Array Oper) (σ : St) : Option St :=
 match aJ7 P sig pf call ops (σ.forDraw (aDo sig) ops.toList) with
 | some s => some s
 | none => match aJ7 P (aHl sig) pf call ops (σ.forDraw (aDo (aHl sig)) ops.toList) with
  | some σ' => some σ'
  | none => match aGJ P sig pf call ops σ with
   | some σ' => some σ'
   | none => aQb P sig pf call ops σ
def aDS (a : Option St) (b : Option (List PanicEntry × St)) : Option (Exit × St) :=
 match a with
 | some σ => some (.normal, σ)
 | none => match b with
  | some x => some (.panic x.1, x.2)
  | none => none
def aPJ : List Nat → Nat → Bool
 | [], _ => false
 | x :: r, k => match Nat.beq x k with
  | true => true
  | false => aPJ r k
def aeH : Nat → List AV → List Nat → List Nat
 | 0, _, acc => acc
 | _ + 1, [], acc => acc
 | d + 1, x :: r, acc => match x with
  | .ptr k _ => aeH d r (k :: acc)
  | .eptr k _ => aeH d r (k :: acc)
  | .own k _ _ => aeH d r (k :: acc)
  | .ox k _ _ => aeH d r (k :: acc)
  | .sv k _ => aeH d r (k :: acc)
  | .yld k => aeH d r (k :: acc)
  | .mp k => aeH d r (k :: acc)
  | .fn _ a b => aeH d r (aeH d b (aeH d a acc))
  | .ag l => aeH d r (aeH d l acc)
  | .tup l => aeH d r (aeH d l acc)
  | _ => aeH d r acc
def aLp (b : Bk) (acc : List Nat) : List Nat :=
 match b with
 | .vars _ cells => aeH 10000 cells acc
 | .dic _ l => aeH 10000 (l.map (·.2)) acc
 | .loop r => aeH 10000 (r.slots.map (·.2)) acc
 | _ => acc
def aCe (n1 : Nat) : Heap → List Nat → List Nat
 | [], acc => acc
 | (k, b) :: r, acc => match Nat.blt k n1 with
  | true => aCe n1 r (aLp b acc)
  | false => aCe n1 r acc
def aGq (H : Heap) (n1 : Nat) : Nat → List Nat → List Nat → List Nat
 | 0, _, seen => seen
 | _ + 1, [], seen => seen
 | f + 1, k :: r, seen => match Nat.blt k n1 || aPJ seen k with
  | true => aGq H n1 f r seen
  | false => match H.find k with
   | some b => aGq H n1 f (aLp b r) (k :: seen)
   | none => aGq H n1 f r seen
def aGN (n1 : Nat) : Heap → Nat → Nat
 | [], c => c
 | (k, _) :: r, c => match Nat.blt k n1 with
  | true => aGN n1 r c
  | false => aGN n1 r (Nat.succ c)
def keepP (n1 : Nat) (seen : List Nat) (k : Nat) : Bool := Nat.blt k n1 || aPJ seen k
def St.keepR (σ : St) (p : Nat → Bool) : St := { slots := abL p ae3 σ.slots, H := σ.H.keep p ae3, next := σ.next, n := σ.n }
def gcR (n1 : Nat) (σ : St) : St :=
 match Nat.ble 8 (aGN n1 σ.H 0) with
 | true => σ.keepR (keepP n1 (aGq σ.H n1 100000 (aCe n1 σ.H (aeH 10000 (σ.slots.map (·.2)) [])) []))
 | false => σ
def aJA (n1 : Nat) (f : St → Option (Exit × St)) : Nat → St → Option (Exit × St)
 | 0, _ => none
 | n + 1, σ => match f σ with
  | some (.normal, σ') => aJA n1 f n (gcR n1 σ')
  | r => r
def aNO (f : St → Option (Exit × St)) (n : Nat) (σ : St) : Option (Exit × St) := aJA σ.next f n σ
def aHL (id : Nat) : Option (Exit × St) → Option (Exit × St)
 | some (.exit j, σ) => match Nat.beq j id with
  | true => some (.normal, σ)
  | false => some (.exit j, σ)
 | r => r
def aKw : Option (Exit × St) → Option (Exit × St)
 | some (.goto _, _) => none
 | r => r
def aCg (σ : St) (l : Nat) : Option (AV × Heap × Nat) → Option (Exit × St)
 | some x => match akQ x.1 with
  | some _ => none
  | none => match x.2.1.find l with
  | some (.loop r) => match r.st, ajH r.pend with
   | .busy, _ => none
   | _, some e => some (e, { slots := abL (abY (x.2.1.up l (.loop { r with st := .exhausted }))) ae3 σ.slots, H := x.2.1.up l (.loop { r with st := .exhausted }), next := x.2.2, n := σ.n })
   | _, none => none
  | _ => none
 | none => none
def ab6 (P : Program) (sig : Sig) (fuel : Nat) (pf : abO) (call : aeN) (rd : Option Nat) : Code → St → Option (Exit × St)
 | .skip, σ => some (.normal, σ)
 | .region _ ops draw, σ => match draw with
  | false => aDS (aAB P sig pf call ops ops.toList σ) (aIh P sig pf call ops ops.toList σ)
  | true => aDS (aMk P sig pf call ops σ) (aJ8 P sig pf call ops (σ.forDraw (aDo sig) ops.toList))
 | .seq x y, σ => match ab6 P sig fuel pf call rd x σ with
  | some (.normal, σ') => ab6 P sig fuel pf call rd y σ'
  | r => r
 | .cond c x y, σ => match σ.eval c with
  | .d .bool b => match (b : Bool) with
   | true => ab6 P sig fuel pf call rd x σ
   | false => ab6 P sig fuel pf call rd y σ
  | _ => none
 | .block id c, σ => aHL id (ab6 P sig fuel pf call rd c σ)
 | .loop c, σ => aNO (ab6 P sig fuel pf call rd c) fuel σ
 | .exit id, σ => some (.exit id, σ)
 | .ret, σ => some (.ret, σ)
 | .label _, σ => some (.normal, σ)
 | .scope c, σ => aKw (ab6 P sig fuel pf call rd c σ)
 | .rangeFunc g ps assign body, σ => match σ.eval g with
  | .fn f first caps => match rd with
   | none => aCg σ σ.next (call (.fn f) (first ++ .yld σ.next :: caps) (σ.lay σ.next ps assign body) (σ.next + 1))
   | some l0 => match σ.H.find l0 with
    | some (.loop _) => aCg σ σ.next (call (.fn f) (first ++ .yld σ.next :: caps) (σ.lay σ.next ps assign body) (σ.next + 1))
    | _ => none
  | _ => none
 | _, _ => none
abbrev aOu := Array Oper → List Oper → St → Option St
abbrev aIe := Option Nat → Code → St → Option (Exit × St)
def aOp (σ : St) : Option (Exit × St) → Option (Exit × St)
 | some (.normal, s) => some (.ret, { slots := abL (abY s.H) ae3 σ.slots, H := s.H, next := s.next, n := σ.n })
 | some (.ret, s) => some (.ret, { slots := abL (abY s.H) ae3 σ.slots, H := s.H, next := s.next, n := σ.n })
 | _ => none
def aHF (P : Program) (sq : aOu) (cd : aIe) (g : FuncId) (caps : List AV) (x : AV) (σ : St) : Option (Exit × St) :=
 match aC0 P g with
 | some c => match Nat.ble caps.length c.gn.ntmps with
  | true => match sq c.ops c.rest (({ slots := acW 0 (AV.maps (abY σ.H) ae3 caps), H := σ.H, next := σ.next + 1, n := c.gn.ntmps } : St).put c.o.dst x) with
   | some s => aOp σ (cd (some σ.next) c.B s)
   | none => none
  | false => none
 | none => none
def aPn (P : Program) (sq : aOu) (cd : aIe) (g : FuncId) (caps : List AV) : Option (Exit × St) → Option (Exit × St)
 | some (.normal, σ) => aHF P sq cd g caps .nili σ
 | some (.ret, σ) => aHF P sq cd g caps .nili σ
 | some (.panic ch, σ) => match af2 ch with
  | some x => aHF P sq cd g caps x σ
  | none => none
 | _ => none
def aNi (P : Program) (sq : aOu) (cd : aIe) (d : DefB) (σ : St) : Option (Exit × St) :=
 match σ.eval d.f with
 | .fn g first caps => match first with
  | [] => aPn P sq cd g caps (cd none d.rest (σ.put d.o.dst .und))
  | _ :: _ => none
 | _ => none
def aQu (P : Program) (sq : aOu) (cd : aIe) (d : DefB) (σ : St) : Option (Exit × St) :=
 match sq d.ops0 d.ops0.toList σ with
 | some σ => match sq d.ops1 d.ops1.toList.dropLast σ with
  | some σ => aNi P sq cd d σ
  | none => none
 | none => none
def aMq (P : Program) (sq : aOu) (cd : aIe) (c : Code) (σ : St) : Option (Exit × St) :=
 match ajK c with
 | some d => aQu P sq cd d σ
 | none => cd none c σ
def aEx (P : Program) (sig : Sig) (fuel : Nat) (pf : abO) (call : aeN) : Code → St → Option (Exit × St) :=
 aMq P (aAB P sig pf call) (ab6 P sig fuel pf call)
def axN (n : Nat) : List AV → Nat → Bool
 | _, 0 => true
 | [], _ => false
 | .ptr k _ :: r, d + 1 => Nat.ble n k || axN n r d
 | .eptr k _ :: r, d + 1 => Nat.ble n k || axN n r d
 | .own k _ _ :: r, d + 1 => Nat.ble n k || axN n r d
 | .ox k _ _ :: r, d + 1 => Nat.ble n k || axN n r d
 | .sv k _ :: r, d + 1 => Nat.ble n k || axN n r d
 | .yld k :: r, d + 1 => Nat.ble n k || axN n r d
 | .mp k :: r, d + 1 => Nat.ble n k || axN n r d
 | .fn _ a b :: r, d + 1 => axN n a d || axN n b d || axN n r d
 | .ag l :: r, d + 1 => axN n l d || axN n r d
 | .tup l :: r, d + 1 => axN n l d || axN n r d
 | _ :: r, d + 1 => axN n r d
def aCH (n : Nat) : Heap → Bool
 | [] => false
 | (k, b) :: r => (match Nat.ble n k with
  | true => false
  | false => match b with
   | .vars _ cells => axN n cells 10000
   | .dic _ l => axN n (l.map (·.2)) 10000
   | _ => false) || aCH n r
def aqV (n : Nat) (r : AV) (H : Heap) (m : Nat) : AV × Heap × Nat :=
 match axN n [r] 10000 || aCH n H with
 | true => (r, H, m)
 | false => (r.map (fun k => Nat.blt k n) ae3, H.keep (fun k => Nat.blt k n) ae3, n)
def aNh (P : Program) (fn : Func) : Option (Exit × St) → Option (List AV × St)
 | some (.normal, σ) => match (aIj P σ fn.results.toList).toO with
  | some l => some (l, σ)
  | none => none
 | some (.ret, σ) => match (aIj P σ fn.results.toList).toO with
  | some l => some (l, σ)
  | none => none
 | _ => none
def aFy (P : Program) (sig : Sig) (fuel : Nat) (pf : abO) (call : aeN) : abO := fun f A R x =>
 match P.funcs[f]? with
 | some fn => match fn.body with
  | some code => match ac1 P f && Nat.ble (aiI A x).length fn.ntmps with
   | true => match aNh P fn (aEx P sig fuel pf call code { slots := acW 0 (aiI A x), H := [], next := 0, n := fn.ntmps }) with
    | some (l, σ) => alD R (AV.maps (fun _ => false) (aDW σ.H) l)
    | none => none
   | false => none
  | none => none
 | none => none
def aP5 (P : Program) (fn : Func) (next : Nat) (x : Option (Exit × St)) : Option (AV × Heap × Nat) :=
 match x with
 | some (.panic ch, σ) => match af2 ch with
  | some y => some (aMI y, σ.H, σ.next)
  | none => none
 | x => match aNh P fn x with
  | some (l, σ) => match akQ (as4 l), akQ (aqV next (as4 l) σ.H σ.next).1 with
   | none, none => some (aqV next (as4 l) σ.H σ.next)
   | _, _ => none
  | none => none
def aFh (l : Nat) : Option (Exit × St) → Option (AV × Heap × Nat)
 | some (e, σ) => match aLf e with
  | some j => match σ.H.find l with
   | some (.loop r) => some (.d .bool j.isNone, σ.H.up l (.loop { r with st := ao3 j, pend := j }), σ.next)
   | _ => none
  | none => none
 | none => none
def aHN (l : Nat) (X : St → Option (Exit × St)) : Option (Exit × St) → Option (Exit × St)
 | some (.normal, σ) => match σ.H.find l with
  | some (.loop r) => match r.st with
   | .ready => X { σ with H := σ.H.up l (.loop { r with st := .busy }) }
   | _ => none
  | _ => none
 | _ => none
def arN (P : Program) (sig : Sig) (fuel : Nat) (pf : abO) (call : aeN) : aeN := fun t args H next =>
 match t with
 | .fn f => match P.funcs[f]? with
  | some fn => match fn.body with
   | some code => match ac1 P f && Nat.ble args.length fn.ntmps with
    | true => aP5 P fn next (aEx P sig fuel pf call code { slots := acW 0 args, H := H, next := next, n := fn.ntmps })
    | false => none
   | none => none
  | none => none
 | .yld l => match H.find l with
  | some (.loop r) => match Nat.beq args.length r.ps.size with
   | true => aFh l (aHN l (ab6 P sig fuel pf call (some l) r.body) (ab6 P sig fuel pf call (some l) r.assign (anK { slots := r.slots, H := H, next := next, n := r.n } r.ps.toList args)))
   | false => none
  | _ => none
def aj9 (ext pf : abO) : abO := fun f A R x => match ext f A R x with
 | some y => some y
 | none => pf f A R x
mutual
def ayG (P : Program) (sig : Sig) (fuel : Nat) (ext : abO) : Nat → abO
 | 0 => ext
 | d + 1 => aj9 ext (aFy P sig fuel (ayG P sig fuel ext d) (aoC P sig fuel ext d))
def aoC (P : Program) (sig : Sig) (fuel : Nat) (ext : abO) : Nat → aeN
 | 0 => fun _ _ _ _ => none
 | d + 1 => arN P sig fuel (ayG P sig fuel ext d) (aoC P sig fuel ext d)
end
def agD : Nat → Nat → List UInt8 → List UInt8
 | 0, _, acc => acc
 | f + 1, n, acc => match Nat.ble n 9 with
  | true => UInt8.ofNat (48 + n) :: acc
  | false => agD f (n / 10) (UInt8.ofNat (48 + n % 10) :: acc)
def aJL : Int → List UInt8
 | .ofNat n => agD 25 n []
 | .negSucc n => 45 :: agD 25 (n + 1) []
def aOU (l : List UInt8) : Nat → List UInt8
 | 0 => []
 | n + 1 => l ++ aOU l n
def aLG (l : List UInt8) (n : Int) : Bool := decide (0 ≤ n) && decide (n ≤ 100000) && Nat.ble l.length 1000
def aNj (l : List UInt8) (n : Int) : List UInt8 := aOU l n.toNat
def aHc : (A R : Ty) → A.T → Option R.T
 | .pair (.int .i64) .unit, .pair .str .unit, x => some (aJL x.1, ())
 | _, _, _ => none
def azV : (A R : Ty) → A.T → Option R.T
 | .pair .str (.pair (.int .i64) .unit), .pair .str .unit, x => match aLG x.1 x.2.1 with
  | true => some (aNj x.1 x.2.1, ())
  | false => none
 | _, _, _ => none
def aHb (fi fr : Nat) : abO := fun f A R x => match Nat.beq f fi with
 | true => aHc A R x
 | false => match Nat.beq f fr with
  | true => azV A R x
  | false => none
end Go.Vg
