/-
  A runner over the evaluator, and calls that have been run. Own work; no condition.
-/
import Derived.Test.YtehaimkjedmjfaaGreatDoorClE6
set_option linter.unusedVariables false
set_option linter.unusedSimpArgs false
namespace Go.Vg
open Go Go.RowKit
abbrev abA := Nat → (A R : Ty) → A.T → Option R.T
abbrev adY := Tgt → List AV → Heap → Nat → Option (AV × Heap × Nat)
abbrev Sig := List (Nat × (Ty × Ty))
def Sig.find : Sig → Nat → Option (Ty × Ty)
 | [], _ => none
 | (g, c) :: r, f => match Nat.beq g f with | true => some c | false => Sig.find r f
def apP : Sig → Bool
 | (a, _) :: (b, _) :: _ => Nat.beq a b
 | _ => false
def aG9 : Sig → Sig
 | x :: r => x :: x :: r
 | [] => []
def noC : Con := { args := .unit, res := .unit, pre := fun _ => True, fn := fun _ => (), dec := fun _ => inferInstance }
def aGX : Bool → Cons
 | true => [(0, noC), (0, noC)]
 | false => []
def evR (P : Program) (sig : Sig) (pf : abA) (K : Nat) (H : Heap) (arg : Operand → AV) (o : Oper) : Option (AV × List (Nat × Bk)) :=
 match o.op with
 | .call { callee := .value f, args, .. } => match arg f with
  | .fn g first caps => match sig.find g with
   | some c => match noSl c.2 || !(apH (first ++ args.toList.map arg ++ caps)) with
    | true => match ahJ H c.1 (first ++ args.toList.map arg ++ caps) with
     | some x => match pf g c.1 c.2 x with
      | some y => some (atA (aCn c.2 y), [])
      | none => none
     | none => none
    | false => none
   | none => none
  | _ => none
 | _ => (evM P (aGX (apP sig)) K H arg o).toO
def aGP (σ : St) (dst : Option Nat) : Option (AV × List (Nat × Bk)) → Option St
 | some x => some (σ.grow dst x.1 x.2)
 | none => none
def aMW (σ : St) (dst : Option Nat) : Option (AV × Heap × Nat) → Option St
 | some x => match al2 x.1 with
  | none => some (({ slots := aa6 (abJ x.2.1) aeL σ.slots, H := x.2.1, next := x.2.2, n := σ.n } : St).put dst x.1)
  | some _ => none
 | none => none
def aNq (σ : St) : Option (AV × Heap × Nat) → Option (List PanicEntry × St)
 | some x => match al2 x.1 with
  | some y => match ajZ y with
   | some ch => some (ch, { slots := aa6 (abJ x.2.1) aeL σ.slots, H := x.2.1, next := x.2.2, n := σ.n })
   | none => none
  | none => none
 | none => none
def afC (P : Program) (sig : Sig) (pf : abA) (o : Oper) (σ : St) : Option St := aGP σ o.dst (evR P sig pf σ.next σ.H σ.eval o)
def aFw (P : Program) (o : Oper) (σ : St) (t : TypeId) (a x : Operand) : Option St :=
 match (aAF P σ t a x).toO with
 | some σ' => some (σ'.put o.dst .und)
 | none => none
def ayT (P : Program) (sig : Sig) (pf : abA) (o : Oper) (σ : St) (b : Builtin) (args : List Operand) (ts : List TypeId) : Option St :=
 match asL P σ o.dst b args ts with
 | some r => r.toO
 | none => afC P sig pf o σ
def aMi (P : Program) (sig : Sig) (pf : abA) (o : Oper) (σ : St) (args : List Operand) (R : Ty) : Option St :=
 match !(noSl R) || aB0 (args.map σ.eval) with
 | true => aGP (σ.thaws (ab3 (args.map σ.eval))) o.dst (evR P sig pf σ.next (σ.thaws (ab3 (args.map σ.eval))).H (σ.thaws (ab3 (args.map σ.eval))).eval o)
 | false => afC P sig pf o σ
def aFA (P : Program) (call : adY) (o : Oper) (σ : St) (args : List Operand) (g : Nat) (first caps : List AV) : Option St :=
 match aGt P g with
 | true => match args, first, caps with
  | [x], [], [] => some (σ.put o.dst (σ.eval x))
  | _, _, _ => none
 | false => aMW σ o.dst (call (.fn g) (first ++ args.map σ.eval ++ caps) σ.H σ.next)
def aN1 (P : Program) (sig : Sig) (pf : abA) (call : adY) (o : Oper) (σ : St) (args : List Operand) (g : Nat) (first caps : List AV) : Option St :=
 match sig.find g with
 | some c => aMi P sig pf o σ args c.2
 | none => aFA P call o σ args g first caps
def aFv (P : Program) (sig : Sig) (pf : abA) (call : adY) (o : Oper) (σ : St) (f : Operand) (args : List Operand) : Option St :=
 match σ.eval f with
 | .fn g first caps => aN1 P sig pf call o σ args g first caps
 | .yld l => aMW σ o.dst (call (.yld l) (args.map σ.eval) σ.H σ.next)
 | _ => none
def aIu (P : Program) (o : Oper) (σ : St) (t : TypeId) (m i x : Operand) : Option St :=
 match (aGx P σ t (σ.eval m) (σ.eval i) (σ.eval x)).toO with
 | some σ' => some (σ'.put o.dst .und)
 | none => none
def opR (P : Program) (sig : Sig) (pf : abA) (call : adY) (o : Oper) (σ : St) : Option St :=
 match o.op with
 | .store t a x => aFw P o σ t a x
 | .buildSlice _ _ ps => afC P sig pf o (σ.freed (.ag (ps.toList.map fun x => σ.eval x.2)))
 | .call { callee := .builtin b, args, argTypes } => ayT P sig pf o σ b args.toList argTypes.toList
 | .call { callee := .value f, args, .. } => aFv P sig pf call o σ f args.toList
 | .slice _ y _ _ (some _) => afC P sig pf o (σ.freed (σ.eval y))
 | .mapUpdate t m i x => aIu P o σ t m i x
 | .insert t m i x => aIu P o σ t m i x
 | _ => afC P sig pf o σ
def opP (P : Program) (sig : Sig) (call : adY) (o : Oper) (σ : St) : Option (List PanicEntry × St) :=
 match o.op with
 | .panic x => match ajZ (σ.eval x) with
  | some ch => some (ch, σ)
  | none => none
 | .call { callee := .value f, args, .. } => match σ.eval f with
  | .fn g first caps => match sig.find g with
   | some _ => none
   | none => match aGt P g with
    | true => none
    | false => aNq σ (call (.fn g) (first ++ args.toList.map σ.eval ++ caps) σ.H σ.next)
  | _ => none
 | _ => none
def as9 (x y : Bool) : Bool := x == y
def aAy (P : Program) (sig : Sig) (pf : abA) (call : adY) (ops : Array Oper) : List Oper → St → Option St
 | [], σ => some σ
 | o :: rest, σ => match o.guard with
  | none => match opR P sig pf call o σ with
   | some σ' => aAy P sig pf call ops rest σ'
   | none => none
  | some (j, want) => match abG ops j with
   | some t => match acR σ.slots t with
    | .d .bool x => match as9 x want with
     | true => match opR P sig pf call o (σ.put (some t) (.d .bool x)) with
      | some σ' => aAy P sig pf call ops rest σ'
      | none => none
     | false => aAy P sig pf call ops rest ((σ.put (some t) (.d .bool x)).put o.dst .und)
    | .und => aAy P sig pf call ops rest (σ.put o.dst .und)
    | _ => none
   | none => none
def aHQ (P : Program) (sig : Sig) (pf : abA) (call : adY) (ops : Array Oper) : List Oper → St → Option (List PanicEntry × St)
 | [], _ => none
 | o :: rest, σ => match o.guard with
  | none => match opR P sig pf call o σ with
   | some σ' => aHQ P sig pf call ops rest σ'
   | none => opP P sig call o σ
  | some (j, want) => match abG ops j with
   | some t => match acR σ.slots t with
    | .d .bool x => match as9 x want with
     | true => match opR P sig pf call o (σ.put (some t) (.d .bool x)) with
      | some σ' => aHQ P sig pf call ops rest σ'
      | none => opP P sig call o (σ.put (some t) (.d .bool x))
     | false => aHQ P sig pf call ops rest ((σ.put (some t) (.d .bool x)).put o.dst .und)
    | .und => aHQ P sig pf call ops rest (σ.put o.dst .und)
    | _ => none
   | none => none
def aM3 (P : Program) (sig : Sig) (pf : abA) (sk : List (Nat × Nat)) (Hs : Heap) (K : Nat) (H0 : Heap) (arg : Operand → AV) (o : Oper) : Option Out :=
 match o.op with
 | .store t a x => match as7 sk K with
  | some k => match (stB P Hs k t (arg a) (arg x)).toO with
   | some b => some (.st k b)
   | none => none
  | none => none
 | _ => match ai7 sk K with
  | false => match evR P sig pf K H0 arg o with
   | some x => some (.ran x.1 x.2)
   | none => none
  | true => match o.op with
   | .alloc e => match ab1 P e with
    | some _ => some (.ran (.ptr K 0) [(K, .any)])
    | none => none
   | _ => none
def aKk (P : Program) (sig : Sig) (pf : abA) (ops : Array Oper) (sk : List (Nat × Nat)) (Hs : Heap) (H0 : Nat → Heap → Heap) : List Oper → Nat → St → List (Nat × Bk) → Option (St × List (Nat × Bk))
 | [], _, σ, s => some (σ, s)
 | o :: rest, K, σ, s => match o.guard with
  | none => match aM3 P sig pf sk Hs K (H0 K σ.H) σ.eval o with
   | some u => aKk P sig pf ops sk Hs H0 rest (K + 1) (σ.step o u) (u.sts ++ s)
   | none => none
  | some (j, want) => match abG ops j with
   | some t => match acR σ.slots t with
    | .d .bool x => match as9 x want with
     | true => match aM3 P sig pf sk Hs K (H0 K σ.H) (σ.put (some t) (.d .bool x)).eval o with
      | some u => aKk P sig pf ops sk Hs H0 rest (K + 1) ((σ.put (some t) (.d .bool x)).step o u) (u.sts ++ s)
      | none => none
     | false => aKk P sig pf ops sk Hs H0 rest (K + 1) ((σ.put (some t) (.d .bool x)).step o .skip) s
    | .und => aKk P sig pf ops sk Hs H0 rest (K + 1) (σ.step o .skip) s
    | _ => none
   | none => none
structure Plan where
 ok : Bool
 m : Nat
 pre : List Oper
 rest : List Oper
def aCr (ops : Array Oper) : Plan :=
 let l := ops.toList
 let ms := abN l []
 let m := abW ms
 { ok := asF ops (l.take m) (l.take m) 0 && acN l 0 && ahG m ms 0 && Nat.ble m l.length, m := m, pre := l.take m, rest := l.drop m }
def aDb (sig : Sig) (g : Nat) : Bool :=
 match sig.find g with
 | some c => !(noSl c.2)
 | none => false
def aJh (P : Program) (sig : Sig) (pf : abA) (call : adY) (ops : Array Oper) (σ : St) : Option St :=
 match aCr ops with
 | ⟨ok, m, pre, rest⟩ => match ok with
  | true => match aKQ σ pre σ.next (acH P pre σ.next ++ σ.H) pre σ.next with
   | some sk => match amM (sk.map (·.2)) && al7 pre σ.next sk with
    | true => match aKk P sig pf ops sk (acH P pre σ.next ++ σ.H) (aBn pre σ.next sk (acH P pre σ.next ++ σ.H) (aAD sk σ.H)) pre σ.next { σ with H := aAD sk σ.H, next := σ.next + m } [] with
     | some x => aAy P sig pf call ops rest (aiZ (acH P pre σ.next ++ σ.H) sk x)
     | none => none
    | false => none
   | none => none
  | false => none
def aJi (P : Program) (sig : Sig) (pf : abA) (call : adY) (ops : Array Oper) (σ : St) : Option (List PanicEntry × St) :=
 match aCr ops with
 | ⟨ok, m, pre, rest⟩ => match ok with
  | true => match aKQ σ pre σ.next (acH P pre σ.next ++ σ.H) pre σ.next with
   | some sk => match amM (sk.map (·.2)) && al7 pre σ.next sk with
    | true => match aKk P sig pf ops sk (acH P pre σ.next ++ σ.H) (aBn pre σ.next sk (acH P pre σ.next ++ σ.H) (aAD sk σ.H)) pre σ.next { σ with H := aAD sk σ.H, next := σ.next + m } [] with
     | some x => aHQ P sig pf call ops rest (aiZ (acH P pre σ.next ++ σ.H) sk x)
     | none => none
    | false => none
   | none => none
  | false => none
def aCd (f : Nat → Oper → List (Nat × St) → Option (List (Nat × St))) : List Oper → Nat → List (Nat × St) → Option (List (Nat × St))
 | [], _, acc => some acc
 | o :: r, i, acc => match f i o acc with
  | some acc => aCd f r (i + 1) acc
  | none => none
def aI7 : List (Nat × St) → Nat → Option St
 | [], _ => none
 | (k, s) :: r, m => match Nat.beq k m with
  | true => some s
  | false => aI7 r m
def aMr : Nat → Nat → Nat → List (Nat × Nat)
 | 0, _, _ => []
 | m + 1, n, c => (n, c) :: aMr m (n + 1) (c + 1)
def aKx (b size k d i n : Nat) (σ' : St) : St := ((σ'.rekeysK b (aMr (σ'.next - n) n (b + size + 1 + i * 100))).sort d (b + size)).forget.raise (b + (size + 2) * 100 + (size - k) * 100)
def aNM (m : Nat) : List Oper → Nat → Nat → Nat
 | [], _, c => c
 | o :: r, j, c => match Nat.testBit m j, o.dst with
  | true, some _ => aNM m r (j + 1) (c + 1)
  | _, _ => aNM m r (j + 1) c
def aN5 (ops : Array Oper) (m i : Nat) (o : Oper) : Nat := match o.dst with
 | none => 0
 | some _ => aNM (m ||| 2 ^ i) ops.toList 0 0
def aM8 (acc : List (Nat × St)) (m : Nat) (σ : St) : Option (List (Nat × St)) :=
 match aI7 acc m with
 | some s => match stE σ s with
  | true => some acc
  | false => none
 | none => some ((m, σ) :: acc)
def aMj (P : Program) (sig : Sig) (pf : abA) (call : adY) (ops : Array Oper) (b size k m : Nat) (σ : St) (i : Nat) (o : Oper) (acc : List (Nat × St)) : Option (List (Nat × St)) :=
 match Nat.testBit m i with
 | true => some acc
 | false => match al5 m o.after.toList with
  | true => match aAy P sig pf call ops [o] σ with
   | some σ' => match Nat.ble σ'.next (aKx b size k (aN5 ops m i o) i σ.next σ').next with
    | true => aM8 acc (m ||| 2 ^ i) (aKx b size k (aN5 ops m i o) i σ.next σ')
    | false => none
   | none => none
  | false => some acc
def aCE (P : Program) (sig : Sig) (pf : abA) (call : adY) (ops : Array Oper) (b size k : Nat) : List (Nat × St) → List (Nat × St) → Option (List (Nat × St))
 | [], acc => some acc
 | x :: r, acc => match aCd (aMj P sig pf call ops b size k x.1 x.2) ops.toList 0 acc with
  | some acc => aCE P sig pf call ops b size k r acc
  | none => none
def aMO (P : Program) (sig : Sig) (pf : abA) (call : adY) (ops : Array Oper) (b size : Nat) : Nat → List (Nat × St) → Option St
 | 0, l => match l with
  | [x] => some x.2
  | _ => none
 | n + 1, l => match aCE P sig pf call ops b size n l [] with
  | some l' => aMO P sig pf call ops b size n l'
  | none => none
def aNR (P : Program) (sig : Sig) (pf : abA) (call : adY) (ops : Array Oper) (σ : St) : Option St :=
 match acN ops.toList 0 with
 | true => aMO P sig pf call ops σ.next ops.size ops.size [(0, σ)]
 | false => none
def obR (P : Program) (σ : St) (o : Oper) : Bool := match o.dst with
 | none => false
 | some d => match (evU P σ.H σ.eval o).toO with
  | some r => match acR σ.slots d with
   | .no => true
   | y => avE r y
  | none => false
def aD7 (P : Program) (ms : List Nat) (u m : Nat) (σ : St) : List Oper → Nat → Bool
 | [], _ => true
 | o :: r, i => match u.testBit i && !ag4 m i ms 0 with
  | true => match obR P σ o with
   | true => aD7 P ms u m σ r (i + 1)
   | false => false
  | false => aD7 P ms u m σ r (i + 1)
def aDj (P : Program) (u : Nat) : List Oper → Nat → St → Option St
 | [], _, σ => some σ
 | o :: r, i, σ => match u.testBit i with
  | true => match (evU P σ.H σ.eval o).toO with
   | some x => aDj P u r (i + 1) (σ.put o.dst x)
   | none => none
  | false => aDj P u r (i + 1) σ
def aMm (P : Program) (sig : Sig) (pf : abA) (call : adY) (b : Nat) (pre : List Oper) (ms : List Nat) : Nat → Nat → Nat → St → Option St
 | 0, u, m, σ => match aD7 P ms u m σ pre 0, apE (u ||| m) pre 0 with
  | true, 0 => some σ
  | _, _ => none
 | k + 1, u, m, σ => match aD7 P ms u m σ pre 0 with
  | true => match apE (u ||| m) pre 0 with
   | 0 => some σ
   | _ + 1 => match ar2 (u ||| m) pre 0 with
    | [x] => match opR P sig pf call x.2 σ with
     | some σ' => match aDj P (alD (m ||| 2 ^ x.1) pre 0 u ^^^ u) pre 0 σ' with
      | some σ1 => aMm P sig pf call b pre ms k (alD (m ||| 2 ^ x.1) pre 0 u) (m ||| 2 ^ x.1) σ1
      | none => none
     | none => none
    | _ => none
  | false => none
def aKp (P : Program) (sig : Sig) (pf : abA) (call : adY) (ops : Array Oper) (σ : St) (l : List Oper) (ms : List Nat) (m : Nat) (pre : List Oper) (u : Nat) : Option St :=
 match aLI pre pre 0 && acN l 0 && ahG m ms 0 && Nat.ble m l.length with
 | true => match aDj P u pre 0 σ with
  | some σ' => match aMm P sig pf call σ.next pre ms (apE u pre 0) u 0 σ' with
   | some σ'' => aAy P sig pf call ops (l.drop m) σ''
   | none => none
  | none => none
 | false => none
def aGN (P : Program) (sig : Sig) (pf : abA) (call : adY) (ops : Array Oper) (σ : St) : Option St :=
 aKp P sig pf call ops σ ops.toList (abN ops.toList []) (abW (abN ops.toList [])) (ops.toList.take (abW (abN ops.toList []))) (aH0 (ops.toList.take (abW (abN ops.toList []))) 0 0)
def aLj (P : Program) (sig : Sig) (pf : abA) (call : adY) (ops : Array Oper) (σ : St) : Option St :=
 match aJh P sig pf call ops (σ.forDraw (aDb sig) ops.toList) with
 | some s => some s
 | none => match aJh P (aG9 sig) pf call ops (σ.forDraw (aDb (aG9 sig)) ops.toList) with
  | some σ' => some σ'
  | none => match aGN P sig pf call ops σ with
   | some σ' => some σ'
   | none => aNR P sig pf call ops σ
def aD1 (a : Option St) (b : Option (List PanicEntry × St)) : Option (Exit × St) :=
 match a with
 | some σ => some (.normal, σ)
 | none => match b with
  | some x => some (.panic x.1, x.2)
  | none => none
def aNw : List Nat → Nat → Bool
 | [], _ => false
 | x :: r, k => match Nat.beq x k with
  | true => true
  | false => aNw r k
def adQ : Nat → List AV → List Nat → List Nat
 | 0, _, acc => acc
 | _ + 1, [], acc => acc
 | d + 1, x :: r, acc => match x with
  | .ptr k _ => adQ d r (k :: acc)
  | .eptr k _ => adQ d r (k :: acc)
  | .own k _ _ => adQ d r (k :: acc)
  | .ox k _ _ => adQ d r (k :: acc)
  | .sv k _ => adQ d r (k :: acc)
  | .yld k => adQ d r (k :: acc)
  | .mp k => adQ d r (k :: acc)
  | .fn _ a b => adQ d r (adQ d b (adQ d a acc))
  | .ag l => adQ d r (adQ d l acc)
  | .tup l => adQ d r (adQ d l acc)
  | _ => adQ d r acc
def aKA (b : Bk) (acc : List Nat) : List Nat :=
 match b with
 | .vars _ cells => adQ 10000 cells acc
 | .dic _ l => adQ 10000 (l.map (·.2)) acc
 | .loop r => adQ 10000 (r.slots.map (·.2)) acc
 | _ => acc
def aCm (n1 : Nat) : Heap → List Nat → List Nat
 | [], acc => acc
 | (k, b) :: r, acc => match Nat.blt k n1 with
  | true => aCm n1 r (aKA b acc)
  | false => aCm n1 r acc
def aGw (H : Heap) (n1 : Nat) : Nat → List Nat → List Nat → List Nat
 | 0, _, seen => seen
 | _ + 1, [], seen => seen
 | f + 1, k :: r, seen => match Nat.blt k n1 || aNw seen k with
  | true => aGw H n1 f r seen
  | false => match H.find k with
   | some b => aGw H n1 f (aKA b r) (k :: seen)
   | none => aGw H n1 f r seen
def aGS (n1 : Nat) : Heap → Nat → Nat
 | [], c => c
 | (k, _) :: r, c => match Nat.blt k n1 with
  | true => aGS n1 r c
  | false => aGS n1 r (Nat.succ c)
def keepP (n1 : Nat) (seen : List Nat) (k : Nat) : Bool := Nat.blt k n1 || aNw seen k
def St.keepR (σ : St) (p : Nat → Bool) : St := { slots := aa6 p aeL σ.slots, H := σ.H.keep p aeL, next := σ.next, n := σ.n }
def gcR (n1 : Nat) (σ : St) : St :=
 match Nat.ble 8 (aGS n1 σ.H 0) with
 | true => σ.keepR (keepP n1 (aGw σ.H n1 100000 (aCm n1 σ.H (adQ 10000 (σ.slots.map (·.2)) [])) []))
 | false => σ
def aIU (n1 : Nat) (f : St → Option (Exit × St)) : Nat → St → Option (Exit × St)
 | 0, _ => none
 | n + 1, σ => match f σ with
  | some (.normal, σ') => aIU n1 f n (gcR n1 σ')
  | r => r
def aMn (f : St → Option (Exit × St)) (n : Nat) (σ : St) : Option (Exit × St) := aIU σ.next f n σ
def aHz (id : Nat) : Option (Exit × St) → Option (Exit × St)
 | some (.exit j, σ) => match Nat.beq j id with
  | true => some (.normal, σ)
  | false => some (.exit j, σ)
 | r => r
def aJC : Option (Exit × St) → Option (Exit × St)
 | some (.goto _, _) => none
 | r => r
def aCo (σ : St) (l : Nat) : Option (AV × Heap × Nat) → Option (Exit × St)
 | some x => match al2 x.1 with
  | some _ => none
  | none => match x.2.1.find l with
  | some (.loop r) => match r.st, akH r.pend with
   | .busy, _ => none
   | _, some e => some (e, { slots := aa6 (abJ (x.2.1.up l (.loop { r with st := .exhausted }))) aeL σ.slots, H := x.2.1.up l (.loop { r with st := .exhausted }), next := x.2.2, n := σ.n })
   | _, none => none
  | _ => none
 | none => none
def abU (P : Program) (sig : Sig) (fuel : Nat) (pf : abA) (call : adY) (rd : Option Nat) : Code → St → Option (Exit × St)
 | .skip, σ => some (.normal, σ)
 | .region _ ops draw, σ => match draw with
  | false => aD1 (aAy P sig pf call ops ops.toList σ) (aHQ P sig pf call ops ops.toList σ)
  | true => aD1 (aLj P sig pf call ops σ) (aJi P sig pf call ops (σ.forDraw (aDb sig) ops.toList))
 | .seq x y, σ => match abU P sig fuel pf call rd x σ with
  | some (.normal, σ') => abU P sig fuel pf call rd y σ'
  | r => r
 | .cond c x y, σ => match σ.eval c with
  | .d .bool b => match (b : Bool) with
   | true => abU P sig fuel pf call rd x σ
   | false => abU P sig fuel pf call rd y σ
  | _ => none
 | .block id c, σ => aHz id (abU P sig fuel pf call rd c σ)
 | .loop c, σ => aMn (abU P sig fuel pf call rd c) fuel σ
 | .exit id, σ => some (.exit id, σ)
 | .ret, σ => some (.ret, σ)
 | .label _, σ => some (.normal, σ)
 | .scope c, σ => aJC (abU P sig fuel pf call rd c σ)
 | .rangeFunc g ps assign body, σ => match σ.eval g with
  | .fn f first caps => match rd with
   | none => aCo σ σ.next (call (.fn f) (first ++ .yld σ.next :: caps) (σ.lay σ.next ps assign body) (σ.next + 1))
   | some l0 => match σ.H.find l0 with
    | some (.loop _) => aCo σ σ.next (call (.fn f) (first ++ .yld σ.next :: caps) (σ.lay σ.next ps assign body) (σ.next + 1))
    | _ => none
  | _ => none
 | _, _ => none
abbrev aMR := Array Oper → List Oper → St → Option St
abbrev aHN := Option Nat → Code → St → Option (Exit × St)
def aMN (σ : St) : Option (Exit × St) → Option (Exit × St)
 | some (.normal, s) => some (.ret, { slots := aa6 (abJ s.H) aeL σ.slots, H := s.H, next := s.next, n := σ.n })
 | some (.ret, s) => some (.ret, { slots := aa6 (abJ s.H) aeL σ.slots, H := s.H, next := s.next, n := σ.n })
 | _ => none
def aHq (P : Program) (sq : aMR) (cd : aHN) (g : FuncId) (caps : List AV) (x : AV) (σ : St) : Option (Exit × St) :=
 match aCW P g with
 | some c => match Nat.ble caps.length c.gn.ntmps with
  | true => match sq c.ops c.rest (({ slots := ab8 0 (AV.maps (abJ σ.H) aeL caps), H := σ.H, next := σ.next + 1, n := c.gn.ntmps } : St).put c.o.dst x) with
   | some s => aMN σ (cd (some σ.next) c.B s)
   | none => none
  | false => none
 | none => none
def aNb (P : Program) (sq : aMR) (cd : aHN) (g : FuncId) (caps : List AV) : Option (Exit × St) → Option (Exit × St)
 | some (.normal, σ) => aHq P sq cd g caps .nili σ
 | some (.ret, σ) => aHq P sq cd g caps .nili σ
 | some (.panic ch, σ) => match af9 ch with
  | some x => aHq P sq cd g caps x σ
  | none => none
 | _ => none
def aL4 (P : Program) (sq : aMR) (cd : aHN) (d : DefB) (σ : St) : Option (Exit × St) :=
 match σ.eval d.f with
 | .fn g first caps => match first with
  | [] => aNb P sq cd g caps (cd none d.rest (σ.put d.o.dst .und))
  | _ :: _ => none
 | _ => none
def aN6 (P : Program) (sq : aMR) (cd : aHN) (d : DefB) (σ : St) : Option (Exit × St) :=
 match sq d.ops0 d.ops0.toList σ with
 | some σ => match sq d.ops1 d.ops1.toList.dropLast σ with
  | some σ => aL4 P sq cd d σ
  | none => none
 | none => none
def aLs (P : Program) (sq : aMR) (cd : aHN) (c : Code) (σ : St) : Option (Exit × St) :=
 match akO c with
 | some d => aN6 P sq cd d σ
 | none => cd none c σ
def aEx (P : Program) (sig : Sig) (fuel : Nat) (pf : abA) (call : adY) : Code → St → Option (Exit × St) :=
 aLs P (aAy P sig pf call) (abU P sig fuel pf call)
def axH (n : Nat) : List AV → Nat → Bool
 | _, 0 => true
 | [], _ => false
 | .ptr k _ :: r, d + 1 => Nat.ble n k || axH n r d
 | .eptr k _ :: r, d + 1 => Nat.ble n k || axH n r d
 | .own k _ _ :: r, d + 1 => Nat.ble n k || axH n r d
 | .ox k _ _ :: r, d + 1 => Nat.ble n k || axH n r d
 | .sv k _ :: r, d + 1 => Nat.ble n k || axH n r d
 | .yld k :: r, d + 1 => Nat.ble n k || axH n r d
 | .mp k :: r, d + 1 => Nat.ble n k || axH n r d
 | .fn _ a b :: r, d + 1 => axH n a d || axH n b d || axH n r d
 | .ag l :: r, d + 1 => axH n l d || axH n r d
 | .tup l :: r, d + 1 => axH n l d || axH n r d
 | _ :: r, d + 1 => axH n r d
def aCI (n : Nat) : Heap → Bool
 | [] => false
 | (k, b) :: r => (match Nat.ble n k with
  | true => false
  | false => match b with
   | .vars _ cells => axH n cells 10000
   | .dic _ l => axH n (l.map (·.2)) 10000
   | _ => false) || aCI n r
def arK (n : Nat) (r : AV) (H : Heap) (m : Nat) : AV × Heap × Nat :=
 match axH n [r] 10000 || aCI n H with
 | true => (r, H, m)
 | false => (r.map (fun k => Nat.blt k n) aeL, H.keep (fun k => Nat.blt k n) aeL, n)
def aL3 (P : Program) (fn : Func) : Option (Exit × St) → Option (List AV × St)
 | some (.normal, σ) => match (aHS P σ fn.results.toList).toO with
  | some l => some (l, σ)
  | none => none
 | some (.ret, σ) => match (aHS P σ fn.results.toList).toO with
  | some l => some (l, σ)
  | none => none
 | _ => none
def aFn (P : Program) (sig : Sig) (fuel : Nat) (pf : abA) (call : adY) : abA := fun f A R x =>
 match P.funcs[f]? with
 | some fn => match fn.body with
  | some code => match acJ P f && Nat.ble (aj2 A x).length fn.ntmps with
   | true => match aL3 P fn (aEx P sig fuel pf call code { slots := ab8 0 (aj2 A x), H := [], next := 0, n := fn.ntmps }) with
    | some (l, σ) => amD R (AV.maps (fun _ => false) (aD5 σ.H) l)
    | none => none
   | false => none
  | none => none
 | none => none
def aNJ (P : Program) (fn : Func) (next : Nat) (x : Option (Exit × St)) : Option (AV × Heap × Nat) :=
 match x with
 | some (.panic ch, σ) => match af9 ch with
  | some y => some (aLE y, σ.H, σ.next)
  | none => none
 | x => match aL3 P fn x with
  | some (l, σ) => match al2 (atA l), al2 (arK next (atA l) σ.H σ.next).1 with
   | none, none => some (arK next (atA l) σ.H σ.next)
   | _, _ => none
  | none => none
def aE8 (l : Nat) : Option (Exit × St) → Option (AV × Heap × Nat)
 | some (e, σ) => match aKo e with
  | some j => match σ.H.find l with
   | some (.loop r) => some (.d .bool j.isNone, σ.H.up l (.loop { r with st := apR j, pend := j }), σ.next)
   | _ => none
  | none => none
 | none => none
def aHB (l : Nat) (X : St → Option (Exit × St)) : Option (Exit × St) → Option (Exit × St)
 | some (.normal, σ) => match σ.H.find l with
  | some (.loop r) => match r.st with
   | .ready => X { σ with H := σ.H.up l (.loop { r with st := .busy }) }
   | _ => none
  | _ => none
 | _ => none
def ar0 (P : Program) (sig : Sig) (fuel : Nat) (pf : abA) (call : adY) : adY := fun t args H next =>
 match t with
 | .fn f => match P.funcs[f]? with
  | some fn => match fn.body with
   | some code => match acJ P f && Nat.ble args.length fn.ntmps with
    | true => aNJ P fn next (aEx P sig fuel pf call code { slots := ab8 0 args, H := H, next := next, n := fn.ntmps })
    | false => none
   | none => none
  | none => none
 | .yld l => match H.find l with
  | some (.loop r) => match Nat.beq args.length r.ps.size with
   | true => aE8 l (aHB l (abU P sig fuel pf call (some l) r.body) (abU P sig fuel pf call (some l) r.assign (aoJ { slots := r.slots, H := H, next := next, n := r.n } r.ps.toList args)))
   | false => none
  | _ => none
def ak7 (ext pf : abA) : abA := fun f A R x => match ext f A R x with
 | some y => some y
 | none => pf f A R x
mutual
def ayO (P : Program) (sig : Sig) (fuel : Nat) (ext : abA) : Nat → abA
 | 0 => ext
 | d + 1 => ak7 ext (aFn P sig fuel (ayO P sig fuel ext d) (apA P sig fuel ext d))
def apA (P : Program) (sig : Sig) (fuel : Nat) (ext : abA) : Nat → adY
 | 0 => fun _ _ _ _ => none
 | d + 1 => ar0 P sig fuel (ayO P sig fuel ext d) (apA P sig fuel ext d)
end
def agI : Nat → Nat → List UInt8 → List UInt8
 | 0, _, acc => acc
 | f + 1, n, acc => match Nat.ble n 9 with
  | true => UInt8.ofNat (48 + n) :: acc
  | false => agI f (n / 10) (UInt8.ofNat (48 + n % 10) :: acc)
def aIZ : Int → List UInt8
 | .ofNat n => agI 25 n []
 | .negSucc n => 45 :: agI 25 (n + 1) []
def aMV (l : List UInt8) : Nat → List UInt8
 | 0 => []
 | n + 1 => l ++ aMV l n
def aKW (l : List UInt8) (n : Int) : Bool := decide (0 ≤ n) && decide (n ≤ 100000) && Nat.ble l.length 1000
def aL5 (l : List UInt8) (n : Int) : List UInt8 := aMV l n.toNat
def aGZ : (A R : Ty) → A.T → Option R.T
 | .pair (.int .i64) .unit, .pair .str .unit, x => some (aIZ x.1, ())
 | _, _, _ => none
def azP : (A R : Ty) → A.T → Option R.T
 | .pair .str (.pair (.int .i64) .unit), .pair .str .unit, x => match aKW x.1 x.2.1 with
  | true => some (aL5 x.1 x.2.1, ())
  | false => none
 | _, _, _ => none
def aGY (fi fr : Nat) : abA := fun f A R x => match Nat.beq f fi with
 | true => aGZ A R x
 | false => match Nat.beq f fr with
  | true => azP A R x
  | false => none
end Go.Vg
