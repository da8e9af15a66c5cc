/-
  A runner over the evaluator, and calls that have been run. Own work; no condition.
-/
import Derived.Test.YtffkcjooibmgfaaGreatDoorClE6
set_option linter.unusedVariables false
set_option linter.unusedSimpArgs false
namespace Go.Vg
open Go Go.RowKit
abbrev aa6 := Nat → (A R : Ty) → A.T → Option R.T
abbrev adR := Tgt → List AV → Heap → Nat → Option (AV × Heap × Nat)
abbrev Sig := List (Nat × (Ty × Ty))
def Sig.find : Sig → Nat → Option (Ty × Ty)
 | [], _ => none
 | (g, c) :: r, f => match Nat.beq g f with | true => some c | false => Sig.find r f
def an8 : Sig → Bool
 | (a, _) :: (b, _) :: _ => Nat.beq a b
 | _ => false
def aFe : Sig → Sig
 | x :: r => x :: x :: r
 | [] => []
def noC : Con := { args := .unit, res := .unit, pre := fun _ => True, fn := fun _ => (), dec := fun _ => inferInstance }
def aE1 : Bool → Cons
 | true => [(0, noC), (0, noC)]
 | false => []
def evR (P : Program) (sig : Sig) (pf : aa6) (K : Nat) (H : Heap) (arg : Operand → AV) (o : Oper) : Option (AV × List (Nat × Bk)) :=
 match o.op with
 | .call { callee := .value f, args, .. } => match arg f with
  | .fn g first caps => match sig.find g with
   | some c => match noSl c.2 || !(anZ (first ++ args.toList.map arg ++ caps)) with
    | true => match agY H c.1 (first ++ args.toList.map arg ++ caps) with
     | some x => match pf g c.1 c.2 x with
      | some y => some (arN (aAW c.2 y), [])
      | none => none
     | none => none
    | false => none
   | none => none
  | _ => none
 | _ => (evM P (aE1 (an8 sig)) K H arg o).toO
def aER (σ : St) (dst : Option Nat) : Option (AV × List (Nat × Bk)) → Option St
 | some x => some (σ.grow dst x.1 x.2)
 | none => none
def aKU (σ : St) (dst : Option Nat) : Option (AV × Heap × Nat) → Option St
 | some x => match akU x.1 with
  | none => some (({ slots := aa2 (abG x.2.1) aeH σ.slots, H := x.2.1, next := x.2.2, n := σ.n } : St).put dst x.1)
  | some _ => none
 | none => none
def aLn (σ : St) : Option (AV × Heap × Nat) → Option (List PanicEntry × St)
 | some x => match akU x.1 with
  | some y => match ai4 y with
   | some ch => some (ch, { slots := aa2 (abG x.2.1) aeH σ.slots, H := x.2.1, next := x.2.2, n := σ.n })
   | none => none
  | none => none
 | none => none
def ae5 (P : Program) (sig : Sig) (pf : aa6) (o : Oper) (σ : St) : Option St := aER σ o.dst (evR P sig pf σ.next σ.H σ.eval o)
def aDL (P : Program) (o : Oper) (σ : St) (t : TypeId) (a x : Operand) : Option St :=
 match (ayU P σ t a x).toO with
 | some σ' => some (σ'.put o.dst .und)
 | none => none
def awP (P : Program) (sig : Sig) (pf : aa6) (o : Oper) (σ : St) (b : Builtin) (args : List Operand) (ts : List TypeId) : Option St :=
 match aqV P σ o.dst b args ts with
 | some r => r.toO
 | none => ae5 P sig pf o σ
def aKg (P : Program) (sig : Sig) (pf : aa6) (o : Oper) (σ : St) (args : List Operand) (R : Ty) : Option St :=
 match !(noSl R) || aAA (args.map σ.eval) with
 | true => aER (σ.thaws (ab1 (args.map σ.eval))) o.dst (evR P sig pf σ.next (σ.thaws (ab1 (args.map σ.eval))).H (σ.thaws (ab1 (args.map σ.eval))).eval o)
 | false => ae5 P sig pf o σ
def aDO (P : Program) (call : adR) (o : Oper) (σ : St) (args : List Operand) (g : Nat) (first caps : List AV) : Option St :=
 match aEw P g with
 | true => match args, first, caps with
  | [x], [], [] => some (σ.put o.dst (σ.eval x))
  | _, _, _ => none
 | false => aKU σ o.dst (call (.fn g) (first ++ args.map σ.eval ++ caps) σ.H σ.next)
def aLW (P : Program) (sig : Sig) (pf : aa6) (call : adR) (o : Oper) (σ : St) (args : List Operand) (g : Nat) (first caps : List AV) : Option St :=
 match sig.find g with
 | some c => aKg P sig pf o σ args c.2
 | none => aDO P call o σ args g first caps
def aDK (P : Program) (sig : Sig) (pf : aa6) (call : adR) (o : Oper) (σ : St) (f : Operand) (args : List Operand) : Option St :=
 match σ.eval f with
 | .fn g first caps => aLW P sig pf call o σ args g first caps
 | .yld l => aKU σ o.dst (call (.yld l) (args.map σ.eval) σ.H σ.next)
 | _ => none
def aGt (P : Program) (o : Oper) (σ : St) (t : TypeId) (m i x : Operand) : Option St :=
 match (aEA P σ t (σ.eval m) (σ.eval i) (σ.eval x)).toO with
 | some σ' => some (σ'.put o.dst .und)
 | none => none
def opR (P : Program) (sig : Sig) (pf : aa6) (call : adR) (o : Oper) (σ : St) : Option St :=
 match o.op with
 | .store t a x => aDL P o σ t a x
 | .buildSlice _ _ ps => ae5 P sig pf o (σ.freed (.ag (ps.toList.map fun x => σ.eval x.2)))
 | .call { callee := .builtin b, args, argTypes } => awP P sig pf o σ b args.toList argTypes.toList
 | .call { callee := .value f, args, .. } => aDK P sig pf call o σ f args.toList
 | .slice _ y _ _ (some _) => ae5 P sig pf o (σ.freed (σ.eval y))
 | .mapUpdate t m i x => aGt P o σ t m i x
 | .insert t m i x => aGt P o σ t m i x
 | _ => ae5 P sig pf o σ
def opP (P : Program) (sig : Sig) (call : adR) (o : Oper) (σ : St) : Option (List PanicEntry × St) :=
 match o.op with
 | .panic x => match ai4 (σ.eval x) with
  | some ch => some (ch, σ)
  | none => none
 | .call { callee := .value f, args, .. } => match σ.eval f with
  | .fn g first caps => match sig.find g with
   | some _ => none
   | none => match aEw P g with
    | true => none
    | false => aLn σ (call (.fn g) (first ++ args.toList.map σ.eval ++ caps) σ.H σ.next)
  | _ => none
 | _ => none
def arM (x y : Bool) : Bool := x == y
def ayM (P : Program) (sig : Sig) (pf : aa6) (call : adR) (ops : Array Oper) : List Oper → St → Option St
 | [], σ => some σ
 | o :: rest, σ => match o.guard with
  | none => match opR P sig pf call o σ with
   | some σ' => ayM P sig pf call ops rest σ'
   | none => none
  | some (j, want) => match abC ops j with
   | some t => match acO σ.slots t with
    | .d .bool x => match arM x want with
     | true => match opR P sig pf call o (σ.put (some t) (.d .bool x)) with
      | some σ' => ayM P sig pf call ops rest σ'
      | none => none
     | false => ayM P sig pf call ops rest ((σ.put (some t) (.d .bool x)).put o.dst .und)
    | .und => ayM P sig pf call ops rest (σ.put o.dst .und)
    | _ => none
   | none => none
def aFU (P : Program) (sig : Sig) (pf : aa6) (call : adR) (ops : Array Oper) : List Oper → St → Option (List PanicEntry × St)
 | [], _ => none
 | o :: rest, σ => match o.guard with
  | none => match opR P sig pf call o σ with
   | some σ' => aFU P sig pf call ops rest σ'
   | none => opP P sig call o σ
  | some (j, want) => match abC ops j with
   | some t => match acO σ.slots t with
    | .d .bool x => match arM x want with
     | true => match opR P sig pf call o (σ.put (some t) (.d .bool x)) with
      | some σ' => aFU P sig pf call ops rest σ'
      | none => opP P sig call o (σ.put (some t) (.d .bool x))
     | false => aFU P sig pf call ops rest ((σ.put (some t) (.d .bool x)).put o.dst .und)
    | .und => aFU P sig pf call ops rest (σ.put o.dst .und)
    | _ => none
   | none => none
def aK1 (P : Program) (sig : Sig) (pf : aa6) (sk : List (Nat × Nat)) (Hs : Heap) (K : Nat) (H0 : Heap) (arg : Operand → AV) (o : Oper) : Option Out :=
 match o.op with
 | .store t a x => match arL sk K with
  | some k => match (stB P Hs k t (arg a) (arg x)).toO with
   | some b => some (.st k b)
   | none => none
  | none => none
 | _ => match aiG sk K with
  | false => match evR P sig pf K H0 arg o with
   | some x => some (.ran x.1 x.2)
   | none => none
  | true => match o.op with
   | .alloc e => match ab5 P e with
    | some _ => some (.ran (.ptr K 0) [(K, .any)])
    | none => none
   | _ => none
def aIi (P : Program) (sig : Sig) (pf : aa6) (ops : Array Oper) (sk : List (Nat × Nat)) (Hs : Heap) (H0 : Nat → Heap → Heap) : List Oper → Nat → St → List (Nat × Bk) → Option (St × List (Nat × Bk))
 | [], _, σ, s => some (σ, s)
 | o :: rest, K, σ, s => match o.guard with
  | none => match aK1 P sig pf sk Hs K (H0 K σ.H) σ.eval o with
   | some u => aIi P sig pf ops sk Hs H0 rest (K + 1) (σ.step o u) (u.sts ++ s)
   | none => none
  | some (j, want) => match abC ops j with
   | some t => match acO σ.slots t with
    | .d .bool x => match arM x want with
     | true => match aK1 P sig pf sk Hs K (H0 K σ.H) (σ.put (some t) (.d .bool x)).eval o with
      | some u => aIi P sig pf ops sk Hs H0 rest (K + 1) ((σ.put (some t) (.d .bool x)).step o u) (u.sts ++ s)
      | none => none
     | false => aIi P sig pf ops sk Hs H0 rest (K + 1) ((σ.put (some t) (.d .bool x)).step o .skip) s
    | .und => aIi P sig pf ops sk Hs H0 rest (K + 1) (σ.step o .skip) s
    | _ => none
   | none => none
structure Plan where
 ok : Bool
 m : Nat
 pre : List Oper
 rest : List Oper
def aA0 (ops : Array Oper) : Plan :=
 let l := ops.toList
 let ms := abJ l []
 let m := abR ms
 { ok := aqO ops (l.take m) (l.take m) 0 && acL l 0 && agU m ms 0 && Nat.ble m l.length, m := m, pre := l.take m, rest := l.drop m }
def aBJ (sig : Sig) (g : Nat) : Bool :=
 match sig.find g with
 | some c => !(noSl c.2)
 | none => false
def aHp (P : Program) (sig : Sig) (pf : aa6) (call : adR) (ops : Array Oper) (σ : St) : Option St :=
 match aA0 ops with
 | ⟨ok, m, pre, rest⟩ => match ok with
  | true => match aIO σ pre σ.next (acE P pre σ.next ++ σ.H) pre σ.next with
   | some sk => match alD (sk.map (·.2)) && akZ pre σ.next sk with
    | true => match aIi P sig pf ops sk (acE P pre σ.next ++ σ.H) (az3 pre σ.next sk (acE P pre σ.next ++ σ.H) (ayS sk σ.H)) pre σ.next { σ with H := ayS sk σ.H, next := σ.next + m } [] with
     | some x => ayM P sig pf call ops rest (ah8 (acE P pre σ.next ++ σ.H) sk x)
     | none => none
    | false => none
   | none => none
  | false => none
def aHq (P : Program) (sig : Sig) (pf : aa6) (call : adR) (ops : Array Oper) (σ : St) : Option (List PanicEntry × St) :=
 match aA0 ops with
 | ⟨ok, m, pre, rest⟩ => match ok with
  | true => match aIO σ pre σ.next (acE P pre σ.next ++ σ.H) pre σ.next with
   | some sk => match alD (sk.map (·.2)) && akZ pre σ.next sk with
    | true => match aIi P sig pf ops sk (acE P pre σ.next ++ σ.H) (az3 pre σ.next sk (acE P pre σ.next ++ σ.H) (ayS sk σ.H)) pre σ.next { σ with H := ayS sk σ.H, next := σ.next + m } [] with
     | some x => aFU P sig pf call ops rest (ah8 (acE P pre σ.next ++ σ.H) sk x)
     | none => none
    | false => none
   | none => none
  | false => none
def aAL (f : Nat → Oper → List (Nat × St) → Option (List (Nat × St))) : List Oper → Nat → List (Nat × St) → Option (List (Nat × St))
 | [], _, acc => some acc
 | o :: r, i, acc => match f i o acc with
  | some acc => aAL f r (i + 1) acc
  | none => none
def aHf : List (Nat × St) → Nat → Option St
 | [], _ => none
 | (k, s) :: r, m => match Nat.beq k m with
  | true => some s
  | false => aHf r m
def aKp : Nat → Nat → Nat → List (Nat × Nat)
 | 0, _, _ => []
 | m + 1, n, c => (n, c) :: aKp m (n + 1) (c + 1)
def aIt (b size k d i n : Nat) (σ' : St) : St := ((σ'.rekeysK b (aKp (σ'.next - n) n (b + size + 1 + i * 100))).sort d (b + size)).forget.raise (b + (size + 2) * 100 + (size - k) * 100)
def aLF (m : Nat) : List Oper → Nat → Nat → Nat
 | [], _, c => c
 | o :: r, j, c => match Nat.testBit m j, o.dst with
  | true, some _ => aLF m r (j + 1) (c + 1)
  | _, _ => aLF m r (j + 1) c
def aL0 (ops : Array Oper) (m i : Nat) (o : Oper) : Nat := match o.dst with
 | none => 0
 | some _ => aLF (m ||| 2 ^ i) ops.toList 0 0
def aK6 (acc : List (Nat × St)) (m : Nat) (σ : St) : Option (List (Nat × St)) :=
 match aHf acc m with
 | some s => match stE σ s with
  | true => some acc
  | false => none
 | none => some ((m, σ) :: acc)
def aKh (P : Program) (sig : Sig) (pf : aa6) (call : adR) (ops : Array Oper) (b size k m : Nat) (σ : St) (i : Nat) (o : Oper) (acc : List (Nat × St)) : Option (List (Nat × St)) :=
 match Nat.testBit m i with
 | true => some acc
 | false => match akX m o.after.toList with
  | true => match ayM P sig pf call ops [o] σ with
   | some σ' => match Nat.ble σ'.next (aIt b size k (aL0 ops m i o) i σ.next σ').next with
    | true => aK6 acc (m ||| 2 ^ i) (aIt b size k (aL0 ops m i o) i σ.next σ')
    | false => none
   | none => none
  | false => some acc
def aBc (P : Program) (sig : Sig) (pf : aa6) (call : adR) (ops : Array Oper) (b size k : Nat) : List (Nat × St) → List (Nat × St) → Option (List (Nat × St))
 | [], acc => some acc
 | x :: r, acc => match aAL (aKh P sig pf call ops b size k x.1 x.2) ops.toList 0 acc with
  | some acc => aBc P sig pf call ops b size k r acc
  | none => none
def aKM (P : Program) (sig : Sig) (pf : aa6) (call : adR) (ops : Array Oper) (b size : Nat) : Nat → List (Nat × St) → Option St
 | 0, l => match l with
  | [x] => some x.2
  | _ => none
 | n + 1, l => match aBc P sig pf call ops b size n l [] with
  | some l' => aKM P sig pf call ops b size n l'
  | none => none
def aLK (P : Program) (sig : Sig) (pf : aa6) (call : adR) (ops : Array Oper) (σ : St) : Option St :=
 match acL ops.toList 0 with
 | true => aKM P sig pf call ops σ.next ops.size ops.size [(0, σ)]
 | false => none
def obR (P : Program) (σ : St) (o : Oper) : Bool := match o.dst with
 | none => false
 | some d => match (evU P σ.H σ.eval o).toO with
  | some r => match acO σ.slots d with
   | .no => true
   | y => avE r y
  | none => false
def aCo (P : Program) (ms : List Nat) (u m : Nat) (σ : St) : List Oper → Nat → Bool
 | [], _ => true
 | o :: r, i => match u.testBit i && !agM m i ms 0 with
  | true => match obR P σ o with
   | true => aCo P ms u m σ r (i + 1)
   | false => false
  | false => aCo P ms u m σ r (i + 1)
def aBO (P : Program) (u : Nat) : List Oper → Nat → St → Option St
 | [], _, σ => some σ
 | o :: r, i, σ => match u.testBit i with
  | true => match (evU P σ.H σ.eval o).toO with
   | some x => aBO P u r (i + 1) (σ.put o.dst x)
   | none => none
  | false => aBO P u r (i + 1) σ
def aKk (P : Program) (sig : Sig) (pf : aa6) (call : adR) (b : Nat) (pre : List Oper) (ms : List Nat) : Nat → Nat → Nat → St → Option St
 | 0, u, m, σ => match aCo P ms u m σ pre 0, anV (u ||| m) pre 0 with
  | true, 0 => some σ
  | _, _ => none
 | k + 1, u, m, σ => match aCo P ms u m σ pre 0 with
  | true => match anV (u ||| m) pre 0 with
   | 0 => some σ
   | _ + 1 => match aqA (u ||| m) pre 0 with
    | [x] => match opR P sig pf call x.2 σ with
     | some σ' => match aBO P (akF (m ||| 2 ^ x.1) pre 0 u ^^^ u) pre 0 σ' with
      | some σ1 => aKk P sig pf call b pre ms k (akF (m ||| 2 ^ x.1) pre 0 u) (m ||| 2 ^ x.1) σ1
      | none => none
     | none => none
    | _ => none
  | false => none
def aIn (P : Program) (sig : Sig) (pf : aa6) (call : adR) (ops : Array Oper) (σ : St) (l : List Oper) (ms : List Nat) (m : Nat) (pre : List Oper) (u : Nat) : Option St :=
 match aJD pre pre 0 && acL l 0 && agU m ms 0 && Nat.ble m l.length with
 | true => match aBO P u pre 0 σ with
  | some σ' => match aKk P sig pf call σ.next pre ms (anV u pre 0) u 0 σ' with
   | some σ'' => ayM P sig pf call ops (l.drop m) σ''
   | none => none
  | none => none
 | false => none
def aEP (P : Program) (sig : Sig) (pf : aa6) (call : adR) (ops : Array Oper) (σ : St) : Option St :=
 aIn P sig pf call ops σ ops.toList (abJ ops.toList []) (abR (abJ ops.toList [])) (ops.toList.take (abR (abJ ops.toList []))) (aF6 (ops.toList.take (abR (abJ ops.toList []))) 0 0)
def aJh (P : Program) (sig : Sig) (pf : aa6) (call : adR) (ops : Array Oper) (σ : St) : Option St :=
 match aHp P sig pf call ops (σ.forDraw (aBJ sig) ops.toList) with
 | some s => some s
 | none => match aHp P (aFe sig) pf call ops (σ.forDraw (aBJ (aFe sig)) ops.toList) with
  | some σ' => some σ'
  | none => match aEP P sig pf call ops σ with
   | some σ' => some σ'
   | none => aLK P sig pf call ops σ
def aCj (a : Option St) (b : Option (List PanicEntry × St)) : Option (Exit × St) :=
 match a with
 | some σ => some (.normal, σ)
 | none => match b with
  | some x => some (.panic x.1, x.2)
  | none => none
def aLs : List Nat → Nat → Bool
 | [], _ => false
 | x :: r, k => match Nat.beq x k with
  | true => true
  | false => aLs r k
def adI : Nat → List AV → List Nat → List Nat
 | 0, _, acc => acc
 | _ + 1, [], acc => acc
 | d + 1, x :: r, acc => match x with
  | .ptr k _ => adI d r (k :: acc)
  | .eptr k _ => adI d r (k :: acc)
  | .own k _ _ => adI d r (k :: acc)
  | .ox k _ _ => adI d r (k :: acc)
  | .sv k _ => adI d r (k :: acc)
  | .yld k => adI d r (k :: acc)
  | .mp k => adI d r (k :: acc)
  | .fn _ a b => adI d r (adI d b (adI d a acc))
  | .ag l => adI d r (adI d l acc)
  | .tup l => adI d r (adI d l acc)
  | _ => adI d r acc
def aIv (b : Bk) (acc : List Nat) : List Nat :=
 match b with
 | .vars _ cells => adI 10000 cells acc
 | .dic _ l => adI 10000 (l.map (·.2)) acc
 | .loop r => adI 10000 (r.slots.map (·.2)) acc
 | _ => acc
def aAV (n1 : Nat) : Heap → List Nat → List Nat
 | [], acc => acc
 | (k, b) :: r, acc => match Nat.blt k n1 with
  | true => aAV n1 r (aIv b acc)
  | false => aAV n1 r acc
def aEz (H : Heap) (n1 : Nat) : Nat → List Nat → List Nat → List Nat
 | 0, _, seen => seen
 | _ + 1, [], seen => seen
 | f + 1, k :: r, seen => match Nat.blt k n1 || aLs seen k with
  | true => aEz H n1 f r seen
  | false => match H.find k with
   | some b => aEz H n1 f (aIv b r) (k :: seen)
   | none => aEz H n1 f r seen
def aEW (n1 : Nat) : Heap → Nat → Nat
 | [], c => c
 | (k, _) :: r, c => match Nat.blt k n1 with
  | true => aEW n1 r c
  | false => aEW n1 r (Nat.succ c)
def keepP (n1 : Nat) (seen : List Nat) (k : Nat) : Bool := Nat.blt k n1 || aLs seen k
def St.keepR (σ : St) (p : Nat → Bool) : St := { slots := aa2 p aeH σ.slots, H := σ.H.keep p aeH, next := σ.next, n := σ.n }
def gcR (n1 : Nat) (σ : St) : St :=
 match Nat.ble 8 (aEW n1 σ.H 0) with
 | true => σ.keepR (keepP n1 (aEz σ.H n1 100000 (aAV n1 σ.H (adI 10000 (σ.slots.map (·.2)) [])) []))
 | false => σ
def aG4 (n1 : Nat) (f : St → Option (Exit × St)) : Nat → St → Option (Exit × St)
 | 0, _ => none
 | n + 1, σ => match f σ with
  | some (.normal, σ') => aG4 n1 f n (gcR n1 σ')
  | r => r
def aKl (f : St → Option (Exit × St)) (n : Nat) (σ : St) : Option (Exit × St) := aG4 σ.next f n σ
def aFF (id : Nat) : Option (Exit × St) → Option (Exit × St)
 | some (.exit j, σ) => match Nat.beq j id with
  | true => some (.normal, σ)
  | false => some (.exit j, σ)
 | r => r
def aHK : Option (Exit × St) → Option (Exit × St)
 | some (.goto _, _) => none
 | r => r
def aAX (σ : St) (l : Nat) : Option (AV × Heap × Nat) → Option (Exit × St)
 | some x => match akU x.1 with
  | some _ => none
  | none => match x.2.1.find l with
  | some (.loop r) => match r.st, ajL r.pend with
   | .busy, _ => none
   | _, some e => some (e, { slots := aa2 (abG (x.2.1.up l (.loop { r with st := .exhausted }))) aeH σ.slots, H := x.2.1.up l (.loop { r with st := .exhausted }), next := x.2.2, n := σ.n })
   | _, none => none
  | _ => none
 | none => none
def abO (P : Program) (sig : Sig) (fuel : Nat) (pf : aa6) (call : adR) (rd : Option Nat) : Code → St → Option (Exit × St)
 | .skip, σ => some (.normal, σ)
 | .region _ ops draw, σ => match draw with
  | false => aCj (ayM P sig pf call ops ops.toList σ) (aFU P sig pf call ops ops.toList σ)
  | true => aCj (aJh P sig pf call ops σ) (aHq P sig pf call ops (σ.forDraw (aBJ sig) ops.toList))
 | .seq x y, σ => match abO P sig fuel pf call rd x σ with
  | some (.normal, σ') => abO P sig fuel pf call rd y σ'
  | r => r
 | .cond c x y, σ => match σ.eval c with
  | .d .bool b => match (b : Bool) with
   | true => abO P sig fuel pf call rd x σ
   | false => abO P sig fuel pf call rd y σ
  | _ => none
 | .block id c, σ => aFF id (abO P sig fuel pf call rd c σ)
 | .loop c, σ => aKl (abO P sig fuel pf call rd c) fuel σ
 | .exit id, σ => some (.exit id, σ)
 | .ret, σ => some (.ret, σ)
 | .label _, σ => some (.normal, σ)
 | .scope c, σ => aHK (abO P sig fuel pf call rd c σ)
 | .rangeFunc g ps assign body, σ => match σ.eval g with
  | .fn f first caps => match rd with
   | none => aAX σ σ.next (call (.fn f) (first ++ .yld σ.next :: caps) (σ.lay σ.next ps assign body) (σ.next + 1))
   | some l0 => match σ.H.find l0 with
    | some (.loop _) => aAX σ σ.next (call (.fn f) (first ++ .yld σ.next :: caps) (σ.lay σ.next ps assign body) (σ.next + 1))
    | _ => none
  | _ => none
 | _, _ => none
abbrev aKP := Array Oper → List Oper → St → Option St
abbrev aFR := Option Nat → Code → St → Option (Exit × St)
def aKL (σ : St) : Option (Exit × St) → Option (Exit × St)
 | some (.normal, s) => some (.ret, { slots := aa2 (abG s.H) aeH σ.slots, H := s.H, next := s.next, n := σ.n })
 | some (.ret, s) => some (.ret, { slots := aa2 (abG s.H) aeH σ.slots, H := s.H, next := s.next, n := σ.n })
 | _ => none
def aFv (P : Program) (sq : aKP) (cd : aFR) (g : FuncId) (caps : List AV) (x : AV) (σ : St) : Option (Exit × St) :=
 match aBu P g with
 | some c => match Nat.ble caps.length c.gn.ntmps with
  | true => match sq c.ops c.rest (({ slots := ab7 0 (AV.maps (abG σ.H) aeH caps), H := σ.H, next := σ.next + 1, n := c.gn.ntmps } : St).put c.o.dst x) with
   | some s => aKL σ (cd (some σ.next) c.B s)
   | none => none
  | false => none
 | none => none
def aLa (P : Program) (sq : aKP) (cd : aFR) (g : FuncId) (caps : List AV) : Option (Exit × St) → Option (Exit × St)
 | some (.normal, σ) => aFv P sq cd g caps .nili σ
 | some (.ret, σ) => aFv P sq cd g caps .nili σ
 | some (.panic ch, σ) => match afS ch with
  | some x => aFv P sq cd g caps x σ
  | none => none
 | _ => none
def aJT (P : Program) (sq : aKP) (cd : aFR) (d : DefB) (σ : St) : Option (Exit × St) :=
 match σ.eval d.f with
 | .fn g first caps => match first with
  | [] => aLa P sq cd g caps (cd none d.rest (σ.put d.o.dst .und))
  | _ :: _ => none
 | _ => none
def aL1 (P : Program) (sq : aKP) (cd : aFR) (d : DefB) (σ : St) : Option (Exit × St) :=
 match sq d.ops0 d.ops0.toList σ with
 | some σ => match sq d.ops1 d.ops1.toList.dropLast σ with
  | some σ => aJT P sq cd d σ
  | none => none
 | none => none
def aJp (P : Program) (sq : aKP) (cd : aFR) (c : Code) (σ : St) : Option (Exit × St) :=
 match ajS c with
 | some d => aL1 P sq cd d σ
 | none => cd none c σ
def aCO (P : Program) (sig : Sig) (fuel : Nat) (pf : aa6) (call : adR) : Code → St → Option (Exit × St) :=
 aJp P (ayM P sig pf call) (abO P sig fuel pf call)
def avM (n : Nat) : List AV → Nat → Bool
 | _, 0 => true
 | [], _ => false
 | .ptr k _ :: r, d + 1 => Nat.ble n k || avM n r d
 | .eptr k _ :: r, d + 1 => Nat.ble n k || avM n r d
 | .own k _ _ :: r, d + 1 => Nat.ble n k || avM n r d
 | .ox k _ _ :: r, d + 1 => Nat.ble n k || avM n r d
 | .sv k _ :: r, d + 1 => Nat.ble n k || avM n r d
 | .yld k :: r, d + 1 => Nat.ble n k || avM n r d
 | .mp k :: r, d + 1 => Nat.ble n k || avM n r d
 | .fn _ a b :: r, d + 1 => avM n a d || avM n b d || avM n r d
 | .ag l :: r, d + 1 => avM n l d || avM n r d
 | .tup l :: r, d + 1 => avM n l d || avM n r d
 | _ :: r, d + 1 => avM n r d
def aBg (n : Nat) : Heap → Bool
 | [] => false
 | (k, b) :: r => (match Nat.ble n k with
  | true => false
  | false => match b with
   | .vars _ cells => avM n cells 10000
   | .dic _ l => avM n (l.map (·.2)) 10000
   | _ => false) || aBg n r
def apT (n : Nat) (r : AV) (H : Heap) (m : Nat) : AV × Heap × Nat :=
 match avM n [r] 10000 || aBg n H with
 | true => (r, H, m)
 | false => (r.map (fun k => Nat.blt k n) aeH, H.keep (fun k => Nat.blt k n) aeH, n)
def aJS (P : Program) (fn : Func) : Option (Exit × St) → Option (List AV × St)
 | some (.normal, σ) => match (aFW P σ fn.results.toList).toO with
  | some l => some (l, σ)
  | none => none
 | some (.ret, σ) => match (aFW P σ fn.results.toList).toO with
  | some l => some (l, σ)
  | none => none
 | _ => none
def aDB (P : Program) (sig : Sig) (fuel : Nat) (pf : aa6) (call : adR) : aa6 := fun f A R x =>
 match P.funcs[f]? with
 | some fn => match fn.body with
  | some code => match acG P f && Nat.ble (ai7 A x).length fn.ntmps with
   | true => match aJS P fn (aCO P sig fuel pf call code { slots := ab7 0 (ai7 A x), H := [], next := 0, n := fn.ntmps }) with
    | some (l, σ) => ak6 R (AV.maps (fun _ => false) (aCm σ.H) l)
    | none => none
   | false => none
  | none => none
 | none => none
def aLD (P : Program) (fn : Func) (next : Nat) (x : Option (Exit × St)) : Option (AV × Heap × Nat) :=
 match x with
 | some (.panic ch, σ) => match afS ch with
  | some y => some (aJz y, σ.H, σ.next)
  | none => none
 | x => match aJS P fn x with
  | some (l, σ) => match akU (arN l), akU (apT next (arN l) σ.H σ.next).1 with
   | none, none => some (apT next (arN l) σ.H σ.next)
   | _, _ => none
  | none => none
def aDo (l : Nat) : Option (Exit × St) → Option (AV × Heap × Nat)
 | some (e, σ) => match aIm e with
  | some j => match σ.H.find l with
   | some (.loop r) => some (.d .bool j.isNone, σ.H.up l (.loop { r with st := aoA j, pend := j }), σ.next)
   | _ => none
  | none => none
 | none => none
def aFG (l : Nat) (X : St → Option (Exit × St)) : Option (Exit × St) → Option (Exit × St)
 | some (.normal, σ) => match σ.H.find l with
  | some (.loop r) => match r.st with
   | .ready => X { σ with H := σ.H.up l (.loop { r with st := .busy }) }
   | _ => none
  | _ => none
 | _ => none
def ap8 (P : Program) (sig : Sig) (fuel : Nat) (pf : aa6) (call : adR) : adR := fun t args H next =>
 match t with
 | .fn f => match P.funcs[f]? with
  | some fn => match fn.body with
   | some code => match acG P f && Nat.ble args.length fn.ntmps with
    | true => aLD P fn next (aCO P sig fuel pf call code { slots := ab7 0 args, H := H, next := next, n := fn.ntmps })
    | false => none
   | none => none
  | none => none
 | .yld l => match H.find l with
  | some (.loop r) => match Nat.beq args.length r.ps.size with
   | true => aDo l (aFG l (abO P sig fuel pf call (some l) r.body) (abO P sig fuel pf call (some l) r.assign (am1 { slots := r.slots, H := H, next := next, n := r.n } r.ps.toList args)))
   | false => none
  | _ => none
def aj9 (ext pf : aa6) : aa6 := fun f A R x => match ext f A R x with
 | some y => some y
 | none => pf f A R x
mutual
def awJ (P : Program) (sig : Sig) (fuel : Nat) (ext : aa6) : Nat → aa6
 | 0 => ext
 | d + 1 => aj9 ext (aDB P sig fuel (awJ P sig fuel ext d) (anR P sig fuel ext d))
def anR (P : Program) (sig : Sig) (fuel : Nat) (ext : aa6) : Nat → adR
 | 0 => fun _ _ _ _ => none
 | d + 1 => ap8 P sig fuel (awJ P sig fuel ext d) (anR P sig fuel ext d)
end
def af0 : Nat → Nat → List UInt8 → List UInt8
 | 0, _, acc => acc
 | f + 1, n, acc => match Nat.ble n 9 with
  | true => UInt8.ofNat (48 + n) :: acc
  | false => af0 f (n / 10) (UInt8.ofNat (48 + n % 10) :: acc)
def aG9 : Int → List UInt8
 | .ofNat n => af0 25 n []
 | .negSucc n => 45 :: af0 25 (n + 1) []
def aKT (l : List UInt8) : Nat → List UInt8
 | 0 => []
 | n + 1 => l ++ aKT l n
def aIT (l : List UInt8) (n : Int) : Bool := decide (0 ≤ n) && decide (n ≤ 100000) && Nat.ble l.length 1000
def aJU (l : List UInt8) (n : Int) : List UInt8 := aKT l n.toNat
def aE3 : (A R : Ty) → A.T → Option R.T
 | .pair (.int .i64) .unit, .pair .str .unit, x => some (aG9 x.1, ())
 | _, _, _ => none
def axJ : (A R : Ty) → A.T → Option R.T
 | .pair .str (.pair (.int .i64) .unit), .pair .str .unit, x => match aIT x.1 x.2.1 with
  | true => some (aJU x.1 x.2.1, ())
  | false => none
 | _, _, _ => none
def aE2 (fi fr : Nat) : aa6 := fun f A R x => match Nat.beq f fi with
 | true => aE3 A R x
 | false => match Nat.beq f fr with
  | true => axJ A R x
  | false => none
end Go.Vg
