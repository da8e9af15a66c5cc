/-
  The runner, part A: a plain evaluator for calls whose arguments are known. Own work; no condition.
-/
import Derived.Test.YtbfajgbedclfeaaGreatDoorEF
namespace Go.Vg
open Go Go.RowKit

/-- A function that is run on data alone, at a lower depth. -/
abbrev PureT := Nat → (A R : Ty) → A.T → Option R.T
/-- A call that is entered. -/
abbrev CallR := Tgt → List AV → Heap → Nat → Option (AV × Heap × Nat)
/-- The functions that are run on data alone, with the types of their arguments and results. -/
abbrev Sig := List (Nat × (Ty × Ty))

def Sig.find : Sig → Nat → Option (Ty × Ty)
  | [], _ => none
  | (g, c) :: r, f => match Nat.beq g f with | true => some c | false => Sig.find r f

def sigTwice : Sig → Bool
  | (a, _) :: (b, _) :: _ => Nat.beq a b
  | _ => false
def dupSig : Sig → Sig
  | x :: r => x :: x :: r
  | [] => []
def noC : Con := { args := .unit, res := .unit, pre := fun _ => True, fn := fun _ => (), dec := fun _ => inferInstance }
def flagC : Bool → Cons
  | true => [(0, noC), (0, noC)]
  | false => []

/-- An operation that reads memory, makes a block, or runs a function on data. -/
def evR (P : Program) (sig : Sig) (pf : PureT) (K : Nat) (H : Heap) (arg : Operand → AV) (o : Oper) : Option (AV × List (Nat × Bk)) :=
  match o.op with
  | .call { callee := .value f, args, .. } => match arg f with
    | .fn g first caps => match sig.find g with
      | some c => match noSl c.2 || !(anyOwn (first ++ args.toList.map arg ++ caps)) with
        | true => match toArgs H c.1 (first ++ args.toList.map arg ++ caps) with
          | some x => match pf g c.1 c.2 x with
            | some y => some (resAV (resAVs c.2 y), [])
            | none => none
          | none => none
        | false => none
      | none => none
    | _ => none
  | _ => (evM P (flagC (sigTwice sig)) K H arg o).toO

def growR (σ : St) (dst : Option Nat) : Option (AV × List (Nat × Bk)) → Option St
  | some x => some (σ.grow dst x.1 x.2)
  | none => none

def putR (σ : St) (dst : Option Nat) : Option (AV × Heap × Nat) → Option St
  | some x => match isPan x.1 with
    | none => some (({ slots := mapSlots (hasKey x.2.1) dead σ.slots, H := x.2.1, next := x.2.2, n := σ.n } : St).put dst x.1)
    | some _ => none
  | none => none

/-- The panic in which an entered call ends. -/
def putP (σ : St) : Option (AV × Heap × Nat) → Option (List PanicEntry × St)
  | some x => match isPan x.1 with
    | some y => match chainOf y with
      | some ch => some (ch, { slots := mapSlots (hasKey x.2.1) dead σ.slots, H := x.2.1, next := x.2.2, n := σ.n })
      | none => none
    | none => none
  | none => none

/-- An operation whose result goes to a slot. -/
def opBuild (P : Program) (sig : Sig) (pf : PureT) (o : Oper) (σ : St) : Option St := growR σ o.dst (evR P sig pf σ.next σ.H σ.eval o)

def opStore (P : Program) (o : Oper) (σ : St) (t : TypeId) (a x : Operand) : Option St :=
  match (storeOp P σ t a x).toO with
  | some σ' => some (σ'.put o.dst .und)
  | none => none

def opBuiltin (P : Program) (sig : Sig) (pf : PureT) (o : Oper) (σ : St) (b : Builtin) (args : List Operand) (ts : List TypeId) : Option St :=
  match builtinOp P σ o.dst b args ts with
  | some r => r.toO
  | none => opBuild P sig pf o σ

def opSig (P : Program) (sig : Sig) (pf : PureT) (o : Oper) (σ : St) (args : List Operand) (R : Ty) : Option St :=
  match !(noSl R) || anyDeep (args.map σ.eval) with
  | true => growR (σ.thaws (ownKeysL (args.map σ.eval))) o.dst (evR P sig pf σ.next (σ.thaws (ownKeysL (args.map σ.eval))).H (σ.thaws (ownKeysL (args.map σ.eval))).eval o)
  | false => opBuild P sig pf o σ

def opEnter (P : Program) (call : CallR) (o : Oper) (σ : St) (args : List Operand) (g : Nat) (first caps : List AV) : Option St :=
  match noEsc P g with
  | true => match args, first, caps with
    | [x], [], [] => some (σ.put o.dst (σ.eval x))
    | _, _, _ => none
  | false => putR σ o.dst (call (.fn g) (first ++ args.map σ.eval ++ caps) σ.H σ.next)

def opFn (P : Program) (sig : Sig) (pf : PureT) (call : CallR) (o : Oper) (σ : St) (args : List Operand) (g : Nat) (first caps : List AV) : Option St :=
  match sig.find g with
  | some c => opSig P sig pf o σ args c.2
  | none => opEnter P call o σ args g first caps

def opValue (P : Program) (sig : Sig) (pf : PureT) (call : CallR) (o : Oper) (σ : St) (f : Operand) (args : List Operand) : Option St :=
  match σ.eval f with
  | .fn g first caps => opFn P sig pf call o σ args g first caps
  | .yld l => putR σ o.dst (call (.yld l) (args.map σ.eval) σ.H σ.next)
  | _ => none

def opMap (P : Program) (o : Oper) (σ : St) (t : TypeId) (m i x : Operand) : Option St :=
  match (mapSt P σ t (σ.eval m) (σ.eval i) (σ.eval x)).toO with
  | some σ' => some (σ'.put o.dst .und)
  | none => none

/-- One operation in its turn. -/
def opR (P : Program) (sig : Sig) (pf : PureT) (call : CallR) (o : Oper) (σ : St) : Option St :=
  match o.op with
  | .store t a x => opStore P o σ t a x
  | .buildSlice _ _ ps => opBuild P sig pf o (σ.freed (.ag (ps.toList.map fun x => σ.eval x.2)))
  | .call { callee := .builtin b, args, argTypes } => opBuiltin P sig pf o σ b args.toList argTypes.toList
  | .call { callee := .value f, args, .. } => opValue P sig pf call o σ f args.toList
  | .slice _ y _ _ (some _) => opBuild P sig pf o (σ.freed (σ.eval y))
  | .mapUpdate t m i x => opMap P o σ t m i x
  | .insert t m i x => opMap P o σ t m i x
  | _ => opBuild P sig pf o σ

/-- One operation that panics. -/
def opP (P : Program) (sig : Sig) (call : CallR) (o : Oper) (σ : St) : Option (List PanicEntry × St) :=
  match o.op with
  | .panic x => match chainOf (σ.eval x) with
    | some ch => some (ch, σ)
    | none => none
  | .call { callee := .value f, args, .. } => match σ.eval f with
    | .fn g first caps => match sig.find g with
      | some _ => none
      | none => match noEsc P g with
        | true => none
        | false => putP σ (call (.fn g) (first ++ args.toList.map σ.eval ++ caps) σ.H σ.next)
    | _ => none
  | _ => none

def sameB (x y : Bool) : Bool := x == y

def seqR (P : Program) (sig : Sig) (pf : PureT) (call : CallR) (ops : Array Oper) : List Oper → St → Option St
  | [], σ => some σ
  | o :: rest, σ => match o.guard with
    | none => match opR P sig pf call o σ with
      | some σ' => seqR P sig pf call ops rest σ'
      | none => none
    | some (j, want) => match guardSlot ops j with
      | some t => match look σ.slots t with
        | .d .bool x => match sameB x want with
          | true => match opR P sig pf call o (σ.put (some t) (.d .bool x)) with
            | some σ' => seqR P sig pf call ops rest σ'
            | none => none
          | false => seqR P sig pf call ops rest ((σ.put (some t) (.d .bool x)).put o.dst .und)
        | .und => seqR P sig pf call ops rest (σ.put o.dst .und)
        | _ => none
      | none => none

/-- Operations of which one panics. -/
def seqP (P : Program) (sig : Sig) (pf : PureT) (call : CallR) (ops : Array Oper) : List Oper → St → Option (List PanicEntry × St)
  | [], _ => none
  | o :: rest, σ => match o.guard with
    | none => match opR P sig pf call o σ with
      | some σ' => seqP P sig pf call ops rest σ'
      | none => opP P sig call o σ
    | some (j, want) => match guardSlot ops j with
      | some t => match look σ.slots t with
        | .d .bool x => match sameB x want with
          | true => match opR P sig pf call o (σ.put (some t) (.d .bool x)) with
            | some σ' => seqP P sig pf call ops rest σ'
            | none => opP P sig call o (σ.put (some t) (.d .bool x))
          | false => seqP P sig pf call ops rest ((σ.put (some t) (.d .bool x)).put o.dst .und)
        | .und => seqP P sig pf call ops rest (σ.put o.dst .und)
        | _ => none
      | none => none

/-- One operation of the part whose order is open. -/
def evSR (P : Program) (sig : Sig) (pf : PureT) (sk : List (Nat × Nat)) (Hs : Heap) (K : Nat) (H0 : Heap) (arg : Operand → AV) (o : Oper) : Option Out :=
  match o.op with
  | .store t a x => match skGet sk K with
    | some k => match (stB P Hs k t (arg a) (arg x)).toO with
      | some b => some (.st k b)
      | none => none
    | none => none
  | _ => match skHas sk K with
    | false => match evR P sig pf K H0 arg o with
      | some x => some (.ran x.1 x.2)
      | none => none
    | true => match o.op with
      | .alloc e => match zeroAVs P e with
        | some _ => some (.ran (.ptr K 0) [(K, .any)])
        | none => none
      | _ => none

def preR (P : Program) (sig : Sig) (pf : PureT) (ops : Array Oper) (sk : List (Nat × Nat)) (Hs : Heap) (H0 : Nat → Heap → Heap) : List Oper → Nat → St → List (Nat × Bk) → Option (St × List (Nat × Bk))
  | [], _, σ, s => some (σ, s)
  | o :: rest, K, σ, s => match o.guard with
    | none => match evSR P sig pf sk Hs K (H0 K σ.H) σ.eval o with
      | some u => preR P sig pf ops sk Hs H0 rest (K + 1) (σ.step o u) (u.sts ++ s)
      | none => none
    | some (j, want) => match guardSlot ops j with
      | some t => match look σ.slots t with
        | .d .bool x => match sameB x want with
          | true => match evSR P sig pf sk Hs K (H0 K σ.H) (σ.put (some t) (.d .bool x)).eval o with
            | some u => preR P sig pf ops sk Hs H0 rest (K + 1) ((σ.put (some t) (.d .bool x)).step o u) (u.sts ++ s)
            | none => none
          | false => preR P sig pf ops sk Hs H0 rest (K + 1) ((σ.put (some t) (.d .bool x)).step o .skip) s
        | .und => preR P sig pf ops sk Hs H0 rest (K + 1) (σ.step o .skip) s
        | _ => none
      | none => none

/-- What a region is as such, whatever its state. -/
structure Plan where
  ok : Bool
  m : Nat
  pre : List Oper
  rest : List Oper

def planOf (ops : Array Oper) : Plan :=
  let l := ops.toList
  let ms := masks l []
  let m := splitAt ms
  { ok := chkPre ops (l.take m) (l.take m) 0 && chkEdges l 0 && chkTail m ms 0 && Nat.ble m l.length, m := m, pre := l.take m, rest := l.drop m }

def sigSl (sig : Sig) (g : Nat) : Bool :=
  match sig.find g with
  | some c => !(noSl c.2)
  | none => false

def drawR (P : Program) (sig : Sig) (pf : PureT) (call : CallR) (ops : Array Oper) (σ : St) : Option St :=
  match planOf ops with
  | ⟨ok, m, pre, rest⟩ => match ok with
    | true => match skOf σ pre σ.next (allocs P pre σ.next ++ σ.H) pre σ.next with
      | some sk => match nodupB (sk.map (·.2)) && chkLaid pre σ.next sk with
        | true => match preR P sig pf ops sk (allocs P pre σ.next ++ σ.H) (lateH pre σ.next sk (allocs P pre σ.next ++ σ.H) (veilS sk σ.H)) pre σ.next { σ with H := veilS sk σ.H, next := σ.next + m } [] with
          | some x => seqR P sig pf call ops rest (unveil (allocs P pre σ.next ++ σ.H) sk x)
          | none => none
        | false => none
      | none => none
    | false => none

def drawP (P : Program) (sig : Sig) (pf : PureT) (call : CallR) (ops : Array Oper) (σ : St) : Option (List PanicEntry × St) :=
  match planOf ops with
  | ⟨ok, m, pre, rest⟩ => match ok with
    | true => match skOf σ pre σ.next (allocs P pre σ.next ++ σ.H) pre σ.next with
      | some sk => match nodupB (sk.map (·.2)) && chkLaid pre σ.next sk with
        | true => match preR P sig pf ops sk (allocs P pre σ.next ++ σ.H) (lateH pre σ.next sk (allocs P pre σ.next ++ σ.H) (veilS sk σ.H)) pre σ.next { σ with H := veilS sk σ.H, next := σ.next + m } [] with
          | some x => seqP P sig pf call ops rest (unveil (allocs P pre σ.next ++ σ.H) sk x)
          | none => none
        | false => none
      | none => none
    | false => none

/-! A region in which an append stands: tried in every order; the keys that its operations make are named after them. -/
def stepsB (f : Nat → Oper → List (Nat × St) → Option (List (Nat × St))) : List Oper → Nat → List (Nat × St) → Option (List (Nat × St))
  | [], _, acc => some acc
  | o :: r, i, acc => match f i o acc with
    | some acc => stepsB f r (i + 1) acc
    | none => none
def getB : List (Nat × St) → Nat → Option St
  | [], _ => none
  | (k, s) :: r, m => match Nat.beq k m with
    | true => some s
    | false => getB r m
/-- A state behind one operation, in the form in which such states are held against one another. -/
def keysR (n c : Nat) : List Nat → List (Nat × Nat)
  | [] => []
  | k :: r => match Nat.ble n k with
    | true => (k, c + (k - n)) :: keysR n c r
    | false => keysR n c r
def canonR (b size k d i n : Nat) (σ' : St) : St := ((σ'.rekeysK b (keysR n (b + size + 1 + i * 100) σ'.H.keys.reverse)).sort d (b + size)).forget.raise (b + (size + 2) * 100 + (size - k) * 100)
/-- How many results of operations of the set there are. -/
def cntB (m : Nat) : List Oper → Nat → Nat → Nat
  | [], _, c => c
  | o :: r, j, c => match Nat.testBit m j, o.dst with
    | true, some _ => cntB m r (j + 1) (c + 1)
    | _, _ => cntB m r (j + 1) c
def depB (ops : Array Oper) (m i : Nat) (o : Oper) : Nat := match o.dst with
  | none => 0
  | some _ => cntB (m ||| 2 ^ i) ops.toList 0 0
def addB (acc : List (Nat × St)) (m : Nat) (σ : St) : Option (List (Nat × St)) :=
  match getB acc m with
  | some s => match stE σ s with
    | true => some acc
    | false => none
  | none => some ((m, σ) :: acc)
def oneB (P : Program) (sig : Sig) (pf : PureT) (call : CallR) (ops : Array Oper) (b size k m : Nat) (σ : St) (i : Nat) (o : Oper) (acc : List (Nat × St)) : Option (List (Nat × St)) :=
  match Nat.testBit m i with
  | true => some acc
  | false => match edgesIn m o.after.toList with
    | true => match seqR P sig pf call ops [o] σ with
      | some σ' => match Nat.ble σ'.next (canonR b size k (depB ops m i o) i σ.next σ').next with
        | true => addB acc (m ||| 2 ^ i) (canonR b size k (depB ops m i o) i σ.next σ')
        | false => none
      | none => none
    | false => some acc
def levelB (P : Program) (sig : Sig) (pf : PureT) (call : CallR) (ops : Array Oper) (b size k : Nat) : List (Nat × St) → List (Nat × St) → Option (List (Nat × St))
  | [], acc => some acc
  | x :: r, acc => match stepsB (oneB P sig pf call ops b size k x.1 x.2) ops.toList 0 acc with
    | some acc => levelB P sig pf call ops b size k r acc
    | none => none
def anyB (P : Program) (sig : Sig) (pf : PureT) (call : CallR) (ops : Array Oper) (b size : Nat) : Nat → List (Nat × St) → Option St
  | 0, l => match l with
    | [x] => some x.2
    | _ => none
  | n + 1, l => match levelB P sig pf call ops b size n l [] with
    | some l' => anyB P sig pf call ops b size n l'
    | none => none
def anyR (P : Program) (sig : Sig) (pf : PureT) (call : CallR) (ops : Array Oper) (σ : St) : Option St :=
  match chkEdges ops.toList 0 with
  | true => anyB P sig pf call ops σ.next ops.size ops.size [(0, σ)]
  | false => none
/-! A region in which what is pure runs as soon as it may, and of the rest one operation alone may run at a time. -/
def obR (P : Program) (σ : St) (o : Oper) : Bool := match o.dst with
  | none => false
  | some d => match (evU P σ.H σ.eval o).toO with
    | some r => match look σ.slots d with
      | .no => true
      | y => avE r y
    | none => false
def lateR (P : Program) (ms : List Nat) (u m : Nat) (σ : St) : List Oper → Nat → Bool
  | [], _ => true
  | o :: r, i => match u.testBit i && !blockedB m i ms 0 with
    | true => match obR P σ o with
      | true => lateR P ms u m σ r (i + 1)
      | false => false
    | false => lateR P ms u m σ r (i + 1)
def runUR (P : Program) (u : Nat) : List Oper → Nat → St → Option St
  | [], _, σ => some σ
  | o :: r, i, σ => match u.testBit i with
    | true => match (evU P σ.H σ.eval o).toO with
      | some x => runUR P u r (i + 1) (σ.put o.dst x)
      | none => none
    | false => runUR P u r (i + 1) σ
def nHoR (P : Program) (sig : Sig) (pf : PureT) (call : CallR) (b : Nat) (pre : List Oper) (ms : List Nat) : Nat → Nat → Nat → St → Option St
  | 0, u, m, σ => match lateR P ms u m σ pre 0, cntN (u ||| m) pre 0 with
    | true, 0 => some σ
    | _, _ => none
  | k + 1, u, m, σ => match lateR P ms u m σ pre 0 with
    | true => match cntN (u ||| m) pre 0 with
      | 0 => some σ
      | _ + 1 => match enabL (u ||| m) pre 0 with
        | [x] => match opR P sig pf call x.2 σ with
          | some σ' => match runUR P (uGrow (m ||| 2 ^ x.1) pre 0 u ^^^ u) pre 0 σ' with
            | some σ1 => nHoR P sig pf call b pre ms k (uGrow (m ||| 2 ^ x.1) pre 0 u) (m ||| 2 ^ x.1) σ1
            | none => none
          | none => none
        | _ => none
    | false => none
def hoistG (P : Program) (sig : Sig) (pf : PureT) (call : CallR) (ops : Array Oper) (σ : St) (l : List Oper) (ms : List Nat) (m : Nat) (pre : List Oper) (u : Nat) : Option St :=
  match chkH pre pre 0 && chkEdges l 0 && chkTail m ms 0 && Nat.ble m l.length with
  | true => match runUR P u pre 0 σ with
    | some σ' => match nHoR P sig pf call σ.next pre ms (cntN u pre 0) u 0 σ' with
      | some σ'' => seqR P sig pf call ops (l.drop m) σ''
      | none => none
    | none => none
  | false => none
def hoistR (P : Program) (sig : Sig) (pf : PureT) (call : CallR) (ops : Array Oper) (σ : St) : Option St :=
  hoistG P sig pf call ops σ ops.toList (masks ops.toList []) (splitAt (masks ops.toList [])) (ops.toList.take (splitAt (masks ops.toList []))) (uBits (ops.toList.take (splitAt (masks ops.toList []))) 0 0)
def drawX (P : Program) (sig : Sig) (pf : PureT) (call : CallR) (ops : Array Oper) (σ : St) : Option St :=
  match drawR P sig pf call ops (σ.forDraw (sigSl sig) ops.toList) with
  | some s => some s
  | none => match drawR P (dupSig sig) pf call ops (σ.forDraw (sigSl (dupSig sig)) ops.toList) with
    | some σ' => some σ'
    | none => match hoistR P sig pf call ops σ with
      | some σ' => some σ'
      | none => anyR P sig pf call ops σ

def normR (a : Option St) (b : Option (List PanicEntry × St)) : Option (Exit × St) :=
  match a with
  | some σ => some (.normal, σ)
  | none => match b with
    | some x => some (.panic x.1, x.2)
    | none => none

/-! Blocks that nothing refers to any more are forgotten at a loop's head. -/
def memK : List Nat → Nat → Bool
  | [], _ => false
  | x :: r, k => match Nat.beq x k with
    | true => true
    | false => memK r k
/-- The keys that values refer to. -/
def keysOf : Nat → List AV → List Nat → List Nat
  | 0, _, acc => acc
  | _ + 1, [], acc => acc
  | d + 1, x :: r, acc => match x with
    | .ptr k _ => keysOf d r (k :: acc)
    | .eptr k _ => keysOf d r (k :: acc)
    | .own k _ _ => keysOf d r (k :: acc)
    | .ox k _ _ => keysOf d r (k :: acc)
    | .sv k _ _ _ => keysOf d r (k :: acc)
    | .yld k => keysOf d r (k :: acc)
    | .mp k => keysOf d r (k :: acc)
    | .fn _ a b => keysOf d r (keysOf d b (keysOf d a acc))
    | .ag l => keysOf d r (keysOf d l acc)
    | .tup l => keysOf d r (keysOf d l acc)
    | _ => keysOf d r acc
def bkKeys (b : Bk) (acc : List Nat) : List Nat :=
  match b with
  | .vars _ cells => keysOf 10000 cells acc
  | .dic _ l => keysOf 10000 (l.map (·.2)) acc
  | .loop r => keysOf 10000 (r.slots.map (·.2)) acc
  | _ => acc
def rootsR (n1 : Nat) : Heap → List Nat → List Nat
  | [], acc => acc
  | (k, b) :: r, acc => match Nat.blt k n1 with
    | true => rootsR n1 r (bkKeys b acc)
    | false => rootsR n1 r acc
def markR (H : Heap) (n1 : Nat) : Nat → List Nat → List Nat → List Nat
  | 0, _, seen => seen
  | _ + 1, [], seen => seen
  | f + 1, k :: r, seen => match Nat.blt k n1 || memK seen k with
    | true => markR H n1 f r seen
    | false => match H.find k with
      | some b => markR H n1 f (bkKeys b r) (k :: seen)
      | none => markR H n1 f r seen
def freshC (n1 : Nat) : Heap → Nat → Nat
  | [], c => c
  | (k, _) :: r, c => match Nat.blt k n1 with
    | true => freshC n1 r c
    | false => freshC n1 r (Nat.succ c)
def keepP (n1 : Nat) (seen : List Nat) (k : Nat) : Bool := Nat.blt k n1 || memK seen k
def St.keepR (σ : St) (p : Nat → Bool) : St := { slots := mapSlots p dead σ.slots, H := σ.H.keep p dead, next := σ.next, n := σ.n }
def gcR (n1 : Nat) (σ : St) : St :=
  match Nat.ble 8 (freshC n1 σ.H 0) with
  | true => σ.keepR (keepP n1 (markR σ.H n1 100000 (rootsR n1 σ.H (keysOf 10000 (σ.slots.map (·.2)) [])) []))
  | false => σ

def loopN (n1 : Nat) (f : St → Option (Exit × St)) : Nat → St → Option (Exit × St)
  | 0, _ => none
  | n + 1, σ => match f σ with
    | some (.normal, σ') => loopN n1 f n (gcR n1 σ')
    | r => r
def loopR (f : St → Option (Exit × St)) (n : Nat) (σ : St) : Option (Exit × St) := loopN σ.next f n σ

def blockR (id : Nat) : Option (Exit × St) → Option (Exit × St)
  | some (.exit j, σ) => match Nat.beq j id with
    | true => some (.normal, σ)
    | false => some (.exit j, σ)
  | r => r

def scopeR : Option (Exit × St) → Option (Exit × St)
  | some (.goto _, _) => none
  | r => r

/-- Behind the iterator's return. -/
def rangeR (σ : St) (l : Nat) : Option (AV × Heap × Nat) → Option (Exit × St)
  | some x => match isPan x.1 with
    | some _ => none
    | none => match x.2.1.find l with
    | some (.loop r) => match r.st, jumpExit r.pend with
      | .busy, _ => none
      | _, some e => some (e, { slots := mapSlots (hasKey (x.2.1.up l (.loop { r with st := .exhausted }))) dead σ.slots, H := x.2.1.up l (.loop { r with st := .exhausted }), next := x.2.2, n := σ.n })
      | _, none => none
    | _ => none
  | none => none

def codeR (P : Program) (sig : Sig) (fuel : Nat) (pf : PureT) (call : CallR) (rd : Option Nat) : Code → St → Option (Exit × St)
  | .skip, σ => some (.normal, σ)
  | .region _ ops draw, σ => match draw with
    | false => normR (seqR P sig pf call ops ops.toList σ) (seqP P sig pf call ops ops.toList σ)
    | true => normR (drawX P sig pf call ops σ) (drawP P sig pf call ops (σ.forDraw (sigSl sig) ops.toList))
  | .seq x y, σ => match codeR P sig fuel pf call rd x σ with
    | some (.normal, σ') => codeR P sig fuel pf call rd y σ'
    | r => r
  | .cond c x y, σ => match σ.eval c with
    | .d .bool b => match (b : Bool) with
      | true => codeR P sig fuel pf call rd x σ
      | false => codeR P sig fuel pf call rd y σ
    | _ => none
  | .block id c, σ => blockR id (codeR P sig fuel pf call rd c σ)
  | .loop c, σ => loopR (codeR P sig fuel pf call rd c) fuel σ
  | .exit id, σ => some (.exit id, σ)
  | .ret, σ => some (.ret, σ)
  | .label _, σ => some (.normal, σ)
  | .scope c, σ => scopeR (codeR P sig fuel pf call rd c σ)
  | .rangeFunc g ps assign body, σ => match σ.eval g with
    | .fn f first caps => match rd with
      | none => rangeR σ σ.next (call (.fn f) (first ++ .yld σ.next :: caps) (σ.lay σ.next ps assign body) (σ.next + 1))
      | some l0 => match σ.H.find l0 with
        | some (.loop _) => rangeR σ σ.next (call (.fn f) (first ++ .yld σ.next :: caps) (σ.lay σ.next ps assign body) (σ.next + 1))
        | _ => none
    | _ => none
  | _, _ => none

/-! Functions that defer a closure first. -/
/-- How operations, and code, are run. -/
abbrev SeqT := Array Oper → List Oper → St → Option St
abbrev CodeT := Option Nat → Code → St → Option (Exit × St)

def backR (σ : St) : Option (Exit × St) → Option (Exit × St)
  | some (.normal, s) => some (.ret, { slots := mapSlots (hasKey s.H) dead σ.slots, H := s.H, next := s.next, n := σ.n })
  | some (.ret, s) => some (.ret, { slots := mapSlots (hasKey s.H) dead σ.slots, H := s.H, next := s.next, n := σ.n })
  | _ => none

def closR (P : Program) (sq : SeqT) (cd : CodeT) (g : FuncId) (caps : List AV) (x : AV) (σ : St) : Option (Exit × St) :=
  match closOf P g with
  | some c => match Nat.ble caps.length c.gn.ntmps with
    | true => match sq c.ops c.rest (({ slots := numbered 0 (AV.maps (hasKey σ.H) dead caps), H := σ.H, next := σ.next + 1, n := c.gn.ntmps } : St).put c.o.dst x) with
      | some s => backR σ (cd (some σ.next) c.B s)
      | none => none
    | false => none
  | none => none

def wayR (P : Program) (sq : SeqT) (cd : CodeT) (g : FuncId) (caps : List AV) : Option (Exit × St) → Option (Exit × St)
  | some (.normal, σ) => closR P sq cd g caps .nili σ
  | some (.ret, σ) => closR P sq cd g caps .nili σ
  | some (.panic ch, σ) => match ofChain ch with
    | some x => closR P sq cd g caps x σ
    | none => none
  | _ => none

def restR (P : Program) (sq : SeqT) (cd : CodeT) (d : DefB) (σ : St) : Option (Exit × St) :=
  match σ.eval d.f with
  | .fn g first caps => match first with
    | [] => wayR P sq cd g caps (cd none d.rest (σ.put d.o.dst .und))
    | _ :: _ => none
  | _ => none

def defR (P : Program) (sq : SeqT) (cd : CodeT) (d : DefB) (σ : St) : Option (Exit × St) :=
  match sq d.ops0 d.ops0.toList σ with
  | some σ => match sq d.ops1 d.ops1.toList.dropLast σ with
    | some σ => restR P sq cd d σ
    | none => none
  | none => none

/-- A function's body. -/
def bodyX (P : Program) (sq : SeqT) (cd : CodeT) (c : Code) (σ : St) : Option (Exit × St) :=
  match defSplit c with
  | some d => defR P sq cd d σ
  | none => cd none c σ
def bodyR (P : Program) (sig : Sig) (fuel : Nat) (pf : PureT) (call : CallR) : Code → St → Option (Exit × St) :=
  bodyX P (seqR P sig pf call) (codeR P sig fuel pf call)

/-- Does a value refer to a block whose key is at least n? -/
def refs (n : Nat) : List AV → Nat → Bool
  | _, 0 => true
  | [], _ => false
  | .ptr k _ :: r, d + 1 => Nat.ble n k || refs n r d
  | .eptr k _ :: r, d + 1 => Nat.ble n k || refs n r d
  | .own k _ _ :: r, d + 1 => Nat.ble n k || refs n r d
  | .ox k _ _ :: r, d + 1 => Nat.ble n k || refs n r d
  | .sv k _ _ _ :: r, d + 1 => Nat.ble n k || refs n r d
  | .yld k :: r, d + 1 => Nat.ble n k || refs n r d
  | .mp k :: r, d + 1 => Nat.ble n k || refs n r d
  | .fn _ a b :: r, d + 1 => refs n a d || refs n b d || refs n r d
  | .ag l :: r, d + 1 => refs n l d || refs n r d
  | .tup l :: r, d + 1 => refs n l d || refs n r d
  | _ :: r, d + 1 => refs n r d

def heapRefs (n : Nat) : Heap → Bool
  | [] => false
  | (k, b) :: r => (match Nat.ble n k with
    | true => false
    | false => match b with
      | .vars _ cells => refs n cells 10000
      | .dic _ l => refs n (l.map (·.2)) 10000
      | _ => false) || heapRefs n r

/-- What a call leaves behind: its own blocks are dropped, if nothing refers to them. -/
def leaveR (n : Nat) (r : AV) (H : Heap) (m : Nat) : AV × Heap × Nat :=
  match refs n [r] 10000 || heapRefs n H with
  | true => (r, H, m)
  | false => (r.map (fun k => Nat.blt k n) dead, H.keep (fun k => Nat.blt k n) dead, n)

def retR (P : Program) (fn : Func) : Option (Exit × St) → Option (List AV × St)
  | some (.normal, σ) => match (resT P σ fn.results.toList).toO with
    | some l => some (l, σ)
    | none => none
  | some (.ret, σ) => match (resT P σ fn.results.toList).toO with
    | some l => some (l, σ)
    | none => none
  | _ => none

/-- A function on data alone. -/
def pureR (P : Program) (sig : Sig) (fuel : Nat) (pf : PureT) (call : CallR) : PureT := fun f A R x =>
  match P.funcs[f]? with
  | some fn => match fn.body with
    | some code => match enters P f && Nat.ble (argAVs A x).length fn.ntmps with
      | true => match retR P fn (bodyR P sig fuel pf call code { slots := numbered 0 (argAVs A x), H := [], next := 0, n := fn.ntmps }) with
        | some (l, σ) => toRes R (AV.maps (fun _ => false) (lendF σ.H) l)
        | none => none
      | false => none
    | none => none
  | none => none

/-- How an entered call ends. -/
def endR (P : Program) (fn : Func) (next : Nat) (x : Option (Exit × St)) : Option (AV × Heap × Nat) :=
  match x with
  | some (.panic ch, σ) => match ofChain ch with
    | some y => some (panE y, σ.H, σ.next)
    | none => none
  | x => match retR P fn x with
    | some (l, σ) => match isPan (resAV l), isPan (leaveR next (resAV l) σ.H σ.next).1 with
      | none, none => some (leaveR next (resAV l) σ.H σ.next)
      | _, _ => none
    | none => none

def roundR (l : Nat) : Option (Exit × St) → Option (AV × Heap × Nat)
  | some (e, σ) => match jumpOf e with
    | some j => match σ.H.find l with
      | some (.loop r) => some (.d .bool j.isNone, σ.H.up l (.loop { r with st := roundEnd j, pend := j }), σ.next)
      | _ => none
    | none => none
  | none => none

def beginR (l : Nat) (X : St → Option (Exit × St)) : Option (Exit × St) → Option (Exit × St)
  | some (.normal, σ) => match σ.H.find l with
    | some (.loop r) => match r.st with
      | .ready => X { σ with H := σ.H.up l (.loop { r with st := .busy }) }
      | _ => none
    | _ => none
  | _ => none

def enterR (P : Program) (sig : Sig) (fuel : Nat) (pf : PureT) (call : CallR) : CallR := fun t args H next =>
  match t with
  | .fn f => match P.funcs[f]? with
    | some fn => match fn.body with
      | some code => match enters P f && Nat.ble args.length fn.ntmps with
        | true => endR P fn next (bodyR P sig fuel pf call code { slots := numbered 0 args, H := H, next := next, n := fn.ntmps })
        | false => none
      | none => none
    | none => none
  | .yld l => match H.find l with
    | some (.loop r) => match Nat.beq args.length r.ps.size with
      | true => roundR l (beginR l (codeR P sig fuel pf call (some l) r.body) (codeR P sig fuel pf call (some l) r.assign (bindS { slots := r.slots, H := H, next := next, n := r.n } r.ps.toList args)))
      | false => none
    | _ => none

/-- A function on data: what is known of it first, else its body. -/
def firstR (ext pf : PureT) : PureT := fun f A R x => match ext f A R x with
  | some y => some y
  | none => pf f A R x

mutual
def pureD (P : Program) (sig : Sig) (fuel : Nat) (ext : PureT) : Nat → PureT
  | 0 => ext
  | d + 1 => firstR ext (pureR P sig fuel (pureD P sig fuel ext d) (enterD P sig fuel ext d))
def enterD (P : Program) (sig : Sig) (fuel : Nat) (ext : PureT) : Nat → CallR
  | 0 => fun _ _ _ _ => none
  | d + 1 => enterR P sig fuel (pureD P sig fuel ext d) (enterD P sig fuel ext d)
end

/-! What is known of functions of Go's library. -/
def digitsN : Nat → Nat → List UInt8 → List UInt8
  | 0, _, acc => acc
  | f + 1, n, acc => match Nat.ble n 9 with
    | true => UInt8.ofNat (48 + n) :: acc
    | false => digitsN f (n / 10) (UInt8.ofNat (48 + n % 10) :: acc)

/-- The decimal text of an integer. -/
def itoaL : Int → List UInt8
  | .ofNat n => digitsN 25 n []
  | .negSucc n => 45 :: digitsN 25 (n + 1) []

def repL (l : List UInt8) : Nat → List UInt8
  | 0 => []
  | n + 1 => l ++ repL l n

def repOk (l : List UInt8) (n : Int) : Bool := decide (0 ≤ n) && decide (n ≤ 100000) && Nat.ble l.length 1000
def repI (l : List UInt8) (n : Int) : List UInt8 := repL l n.toNat

def extItoa : (A R : Ty) → A.T → Option R.T
  | .pair (.int .i64) .unit, .pair .str .unit, x => some (itoaL x.1, ())
  | _, _, _ => none

def extRepeat : (A R : Ty) → A.T → Option R.T
  | .pair .str (.pair (.int .i64) .unit), .pair .str .unit, x => match repOk x.1 x.2.1 with
    | true => some (repI x.1 x.2.1, ())
    | false => none
  | _, _, _ => none

/-- strconv.Itoa and strings.Repeat, by their numbers. -/
def extLib (fi fr : Nat) : PureT := fun f A R x => match Nat.beq f fi with
  | true => extItoa A R x
  | false => match Nat.beq f fr with
    | true => extRepeat A R x
    | false => none

def joinT (sep : List UInt8) : List (List UInt8) → List UInt8
  | [] => []
  | x :: r => sep ++ (x ++ joinT sep r)
def joinL (sep : List UInt8) : List (List UInt8) → List UInt8
  | [] => []
  | x :: r => x ++ joinT sep r
def joinOk (sep : List UInt8) (l : List (List UInt8)) : Bool := Nat.ble 1 l.length && (Nat.ble l.length 1000 && Nat.ble (joinL sep l).length 1000000)

def extJoin : (A R : Ty) → A.T → Option R.T
  | .pair (.sl .str) (.pair .str .unit), .pair .str .unit, x => match joinOk x.2.1 x.1 with
    | true => some (joinL x.2.1 x.1, ())
    | false => none
  | _, _, _ => none

/-- The same, and strings.Join. -/
def extLibJ (fi fr fj : Nat) : PureT := fun f A R x => match Nat.beq f fj with
  | true => extJoin A R x
  | false => extLib fi fr f A R x

end Go.Vg
