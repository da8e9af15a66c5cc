/-
  A runner over the evaluator, and calls that have been run. Own work; no condition.
-/
import Derived.Test.YteidbklnpgfldaaGreatDoorClE6
set_option linter.unusedVariables false
set_option linter.unusedSimpArgs false
namespace Go.Vg
open Go Go.RowKit
abbrev aa4 := Nat → (A R : Ty) → A.T → Option R.T
abbrev ad2 := Tgt → List AV → Heap → Nat → Option (AV × Heap × Nat)
abbrev Sig := List (Nat × (Ty × Ty))
def Sig.find : Sig → Nat → Option (Ty × Ty)
 | [], _ => none
 | (g, c) :: r, f => match Nat.beq g f with | true => some c | false => Sig.find r f
def apZ : Sig → Bool
 | (a, _) :: (b, _) :: _ => Nat.beq a b
 | _ => false
def aI2 : Sig → Sig
 | x :: r => x :: x :: r
 | [] => []
def noC : Con := { args := .unit, res := .unit, pre := fun _ => True, fn := fun _ => (), dec := fun _ => inferInstance }
def aIK : Bool → Cons
 | true => [(0, noC), (0, noC)]
 | false => []
def evR (P : Program) (sig : Sig) (pf : aa4) (K : Nat) (H : Heap) (arg : Operand → AV) (o : Oper) : Option (AV × List (Nat × Bk)) :=
 match o.op with
 | .call { callee := .value f, args, .. } => match arg f with
  | .fn g first caps => match sig.find g with
   | some c => match noSl c.2 || !(apN (first ++ args.toList.map arg ++ caps)) with
    | true => match ahB H c.1 (first ++ args.toList.map arg ++ caps) with
     | some x => match pf g c.1 c.2 x with
      | some y => some (at3 (aDv c.2 y), [])
      | none => none
     | none => none
    | false => none
   | none => none
  | _ => none
 | _ => (evM P (aIK (apZ sig)) K H arg o).toO
def aIt (σ : St) (dst : Option Nat) : Option (AV × List (Nat × Bk)) → Option St
 | some x => some (σ.grow dst x.1 x.2)
 | none => none
def aQJ (σ : St) (dst : Option Nat) : Option (AV × Heap × Nat) → Option St
 | some x => match alK x.1 with
  | none => some (({ slots := aa1 (abE x.2.1) aeG σ.slots, H := x.2.1, next := x.2.2, n := σ.n } : St).put dst x.1)
  | some _ => none
 | none => none
def aRn (σ : St) : Option (AV × Heap × Nat) → Option (List PanicEntry × St)
 | some x => match alK x.1 with
  | some y => match ajX y with
   | some ch => some (ch, { slots := aa1 (abE x.2.1) aeG σ.slots, H := x.2.1, next := x.2.2, n := σ.n })
   | none => none
  | none => none
 | none => none
def ae3 (P : Program) (sig : Sig) (pf : aa4) (o : Oper) (σ : St) : Option St := aIt σ o.dst (evR P sig pf σ.next σ.H σ.eval o)
def aGW (P : Program) (o : Oper) (σ : St) (t : TypeId) (a x : Operand) : Option St :=
 match (aBF P σ t a x).toO with
 | some σ' => some (σ'.put o.dst .und)
 | none => none
def az1 (P : Program) (sig : Sig) (pf : aa4) (o : Oper) (σ : St) (b : Builtin) (args : List Operand) (ts : List TypeId) : Option St :=
 match atB P σ o.dst b args ts with
 | some r => r.toO
 | none => ae3 P sig pf o σ
def aPU (P : Program) (sig : Sig) (pf : aa4) (o : Oper) (σ : St) (args : List Operand) (R : Ty) : Option St :=
 match !(noSl R) || aC9 (args.map σ.eval) with
 | true => aIt (σ.thaws (ab4 (args.map σ.eval))) o.dst (evR P sig pf σ.next (σ.thaws (ab4 (args.map σ.eval))).H (σ.thaws (ab4 (args.map σ.eval))).eval o)
 | false => ae3 P sig pf o σ
def aG0 (P : Program) (call : ad2) (o : Oper) (σ : St) (args : List Operand) (g : Nat) (first caps : List AV) : Option St :=
 match aH2 P g with
 | true => match args, first, caps with
  | [x], [], [] => some (σ.put o.dst (σ.eval x))
  | _, _, _ => none
 | false => aQJ σ o.dst (call (.fn g) (first ++ args.map σ.eval ++ caps) σ.H σ.next)
def aRR (P : Program) (sig : Sig) (pf : aa4) (call : ad2) (o : Oper) (σ : St) (args : List Operand) (g : Nat) (first caps : List AV) : Option St :=
 match sig.find g with
 | some c => aPU P sig pf o σ args c.2
 | none => aG0 P call o σ args g first caps
def aGV (P : Program) (sig : Sig) (pf : aa4) (call : ad2) (o : Oper) (σ : St) (f : Operand) (args : List Operand) : Option St :=
 match σ.eval f with
 | .fn g first caps => aRR P sig pf call o σ args g first caps
 | .yld l => aQJ σ o.dst (call (.yld l) (args.map σ.eval) σ.H σ.next)
 | _ => none
def aKI (P : Program) (o : Oper) (σ : St) (t : TypeId) (m i x : Operand) : Option St :=
 match (aIa P σ t (σ.eval m) (σ.eval i) (σ.eval x)).toO with
 | some σ' => some (σ'.put o.dst .und)
 | none => none
def opR (P : Program) (sig : Sig) (pf : aa4) (call : ad2) (o : Oper) (σ : St) : Option St :=
 match o.op with
 | .store t a x => aGW P o σ t a x
 | .buildSlice _ _ ps => ae3 P sig pf o (σ.freed (.ag (ps.toList.map fun x => σ.eval x.2)))
 | .call { callee := .builtin b, args, argTypes } => az1 P sig pf o σ b args.toList argTypes.toList
 | .call { callee := .value f, args, .. } => aGV P sig pf call o σ f args.toList
 | .slice _ y _ _ (some _) => ae3 P sig pf o (σ.freed (σ.eval y))
 | .mapUpdate t m i x => aKI P o σ t m i x
 | .insert t m i x => aKI P o σ t m i x
 | _ => ae3 P sig pf o σ
def opP (P : Program) (sig : Sig) (call : ad2) (o : Oper) (σ : St) : Option (List PanicEntry × St) :=
 match o.op with
 | .panic x => match ajX (σ.eval x) with
  | some ch => some (ch, σ)
  | none => none
 | .call { callee := .value f, args, .. } => match σ.eval f with
  | .fn g first caps => match sig.find g with
   | some _ => none
   | none => match aH2 P g with
    | true => none
    | false => aRn σ (call (.fn g) (first ++ args.toList.map σ.eval ++ caps) σ.H σ.next)
  | _ => none
 | _ => none
def at2 (x y : Bool) : Bool := x == y
def aBv (P : Program) (sig : Sig) (pf : aa4) (call : ad2) (ops : Array Oper) : List Oper → St → Option St
 | [], σ => some σ
 | o :: rest, σ => match o.guard with
  | none => match opR P sig pf call o σ with
   | some σ' => aBv P sig pf call ops rest σ'
   | none => none
  | some (j, want) => match abB ops j with
   | some t => match acT σ.slots t with
    | .d .bool x => match at2 x want with
     | true => match opR P sig pf call o (σ.put (some t) (.d .bool x)) with
      | some σ' => aBv P sig pf call ops rest σ'
      | none => none
     | false => aBv P sig pf call ops rest ((σ.put (some t) (.d .bool x)).put o.dst .und)
    | .und => aBv P sig pf call ops rest (σ.put o.dst .und)
    | _ => none
   | none => none
def aJV (P : Program) (sig : Sig) (pf : aa4) (call : ad2) (ops : Array Oper) : List Oper → St → Option (List PanicEntry × St)
 | [], _ => none
 | o :: rest, σ => match o.guard with
  | none => match opR P sig pf call o σ with
   | some σ' => aJV P sig pf call ops rest σ'
   | none => opP P sig call o σ
  | some (j, want) => match abB ops j with
   | some t => match acT σ.slots t with
    | .d .bool x => match at2 x want with
     | true => match opR P sig pf call o (σ.put (some t) (.d .bool x)) with
      | some σ' => aJV P sig pf call ops rest σ'
      | none => opP P sig call o (σ.put (some t) (.d .bool x))
     | false => aJV P sig pf call ops rest ((σ.put (some t) (.d .bool x)).put o.dst .und)
    | .und => aJV P sig pf call ops rest (σ.put o.dst .und)
    | _ => none
   | none => none
def aQR (P : Program) (sig : Sig) (pf : aa4) (sk : List (Nat × Nat)) (Hs : Heap) (K : Nat) (H0 : Heap) (arg : Operand → AV) (o : Oper) : Option Out :=
 match o.op with
 | .store t a x => match at1 sk K with
  | some k => match (stB P Hs k t (arg a) (arg x)).toO with
   | some b => some (.st k b)
   | none => none
  | none => none
 | _ => match ajA sk K with
  | false => match evR P sig pf K H0 arg o with
   | some x => some (.ran x.1 x.2)
   | none => none
  | true => match o.op with
   | .alloc e => match ab2 P e with
    | some _ => some (.ran (.ptr K 0) [(K, .any)])
    | none => none
   | _ => none
def aNe (P : Program) (sig : Sig) (pf : aa4) (ops : Array Oper) (sk : List (Nat × Nat)) (Hs : Heap) (H0 : Nat → Heap → Heap) : List Oper → Nat → St → List (Nat × Bk) → Option (St × List (Nat × Bk))
 | [], _, σ, s => some (σ, s)
 | o :: rest, K, σ, s => match o.guard with
  | none => match aQR P sig pf sk Hs K (H0 K σ.H) σ.eval o with
   | some u => aNe P sig pf ops sk Hs H0 rest (K + 1) (σ.step o u) (u.sts ++ s)
   | none => none
  | some (j, want) => match abB ops j with
   | some t => match acT σ.slots t with
    | .d .bool x => match at2 x want with
     | true => match aQR P sig pf sk Hs K (H0 K σ.H) (σ.put (some t) (.d .bool x)).eval o with
      | some u => aNe P sig pf ops sk Hs H0 rest (K + 1) ((σ.put (some t) (.d .bool x)).step o u) (u.sts ++ s)
      | none => none
     | false => aNe P sig pf ops sk Hs H0 rest (K + 1) ((σ.put (some t) (.d .bool x)).step o .skip) s
    | .und => aNe P sig pf ops sk Hs H0 rest (K + 1) (σ.step o .skip) s
    | _ => none
   | none => none
structure Plan where
 ok : Bool
 m : Nat
 pre : List Oper
 rest : List Oper
def aDC (ops : Array Oper) : Plan :=
 let l := ops.toList
 let ms := abI l []
 let m := abU ms
 { ok := as8 ops (l.take m) (l.take m) 0 && acP l 0 && ag4 m ms 0 && Nat.ble m l.length, m := m, pre := l.take m, rest := l.drop m }
def aEv (sig : Sig) (g : Nat) : Bool :=
 match sig.find g with
 | some c => !(noSl c.2)
 | none => false
def aLV (P : Program) (sig : Sig) (pf : aa4) (call : ad2) (ops : Array Oper) (σ : St) : Option St :=
 match aDC ops with
 | ⟨ok, m, pre, rest⟩ => match ok with
  | true => match aNQ σ pre σ.next (acI P pre σ.next ++ σ.H) pre σ.next with
   | some sk => match amN (sk.map (·.2)) && al0 pre σ.next sk with
    | true => match aNe P sig pf ops sk (acI P pre σ.next ++ σ.H) (aCy pre σ.next sk (acI P pre σ.next ++ σ.H) (aBD sk σ.H)) pre σ.next { σ with H := aBD sk σ.H, next := σ.next + m } [] with
     | some x => aBv P sig pf call ops rest (ai0 (acI P pre σ.next ++ σ.H) sk x)
     | none => none
    | false => none
   | none => none
  | false => none
def aLW (P : Program) (sig : Sig) (pf : aa4) (call : ad2) (ops : Array Oper) (σ : St) : Option (List PanicEntry × St) :=
 match aDC ops with
 | ⟨ok, m, pre, rest⟩ => match ok with
  | true => match aNQ σ pre σ.next (acI P pre σ.next ++ σ.H) pre σ.next with
   | some sk => match amN (sk.map (·.2)) && al0 pre σ.next sk with
    | true => match aNe P sig pf ops sk (acI P pre σ.next ++ σ.H) (aCy pre σ.next sk (acI P pre σ.next ++ σ.H) (aBD sk σ.H)) pre σ.next { σ with H := aBD sk σ.H, next := σ.next + m } [] with
     | some x => aJV P sig pf call ops rest (ai0 (acI P pre σ.next ++ σ.H) sk x)
     | none => none
    | false => none
   | none => none
  | false => none
def aDk (f : Nat → Oper → List (Nat × St) → Option (List (Nat × St))) : List Oper → Nat → List (Nat × St) → Option (List (Nat × St))
 | [], _, acc => some acc
 | o :: r, i, acc => match f i o acc with
  | some acc => aDk f r (i + 1) acc
  | none => none
def aLJ : List (Nat × St) → Nat → Option St
 | [], _ => none
 | (k, s) :: r, m => match Nat.beq k m with
  | true => some s
  | false => aLJ r m
def aOm (n c : Nat) : List Nat → List (Nat × Nat)
 | [] => []
 | k :: r => match Nat.ble n k with
  | true => (k, c + (k - n)) :: aOm n c r
  | false => aOm n c r
def aNz (b size k d i n : Nat) (σ' : St) : St := ((σ'.rekeysK b (aOm n (b + size + 1 + i * 100) σ'.H.keys.reverse)).sort d (b + size)).forget.raise (b + (size + 2) * 100 + (size - k) * 100)
def aRI (m : Nat) : List Oper → Nat → Nat → Nat
 | [], _, c => c
 | o :: r, j, c => match Nat.testBit m j, o.dst with
  | true, some _ => aRI m r (j + 1) (c + 1)
  | _, _ => aRI m r (j + 1) c
def aR0 (ops : Array Oper) (m i : Nat) (o : Oper) : Nat := match o.dst with
 | none => 0
 | some _ => aRI (m ||| 2 ^ i) ops.toList 0 0
def aQW (acc : List (Nat × St)) (m : Nat) (σ : St) : Option (List (Nat × St)) :=
 match aLJ acc m with
 | some s => match stE σ s with
  | true => some acc
  | false => none
 | none => some ((m, σ) :: acc)
def aPW (P : Program) (sig : Sig) (pf : aa4) (call : ad2) (ops : Array Oper) (b size k m : Nat) (σ : St) (i : Nat) (o : Oper) (acc : List (Nat × St)) : Option (List (Nat × St)) :=
 match Nat.testBit m i with
 | true => some acc
 | false => match alW m o.after.toList with
  | true => match aBv P sig pf call ops [o] σ with
   | some σ' => match Nat.ble σ'.next (aNz b size k (aR0 ops m i o) i σ.next σ').next with
    | true => aQW acc (m ||| 2 ^ i) (aNz b size k (aR0 ops m i o) i σ.next σ')
    | false => none
   | none => none
  | false => some acc
def aDR (P : Program) (sig : Sig) (pf : aa4) (call : ad2) (ops : Array Oper) (b size k : Nat) : List (Nat × St) → List (Nat × St) → Option (List (Nat × St))
 | [], acc => some acc
 | x :: r, acc => match aDk (aPW P sig pf call ops b size k x.1 x.2) ops.toList 0 acc with
  | some acc => aDR P sig pf call ops b size k r acc
  | none => none
def aQC (P : Program) (sig : Sig) (pf : aa4) (call : ad2) (ops : Array Oper) (b size : Nat) : Nat → List (Nat × St) → Option St
 | 0, l => match l with
  | [x] => some x.2
  | _ => none
 | n + 1, l => match aDR P sig pf call ops b size n l [] with
  | some l' => aQC P sig pf call ops b size n l'
  | none => none
def aRN (P : Program) (sig : Sig) (pf : aa4) (call : ad2) (ops : Array Oper) (σ : St) : Option St :=
 match acP ops.toList 0 with
 | true => aQC P sig pf call ops σ.next ops.size ops.size [(0, σ)]
 | false => none
def obR (P : Program) (σ : St) (o : Oper) : Bool := match o.dst with
 | none => false
 | some d => match (evU P σ.H σ.eval o).toO with
  | some r => match acT σ.slots d with
   | .no => true
   | y => avE r y
  | none => false
def aFm (P : Program) (ms : List Nat) (u m : Nat) (σ : St) : List Oper → Nat → Bool
 | [], _ => true
 | o :: r, i => match u.testBit i && !agW m i ms 0 with
  | true => match obR P σ o with
   | true => aFm P ms u m σ r (i + 1)
   | false => false
  | false => aFm P ms u m σ r (i + 1)
def aEy (P : Program) (u : Nat) : List Oper → Nat → St → Option St
 | [], _, σ => some σ
 | o :: r, i, σ => match u.testBit i with
  | true => match (evU P σ.H σ.eval o).toO with
   | some x => aEy P u r (i + 1) (σ.put o.dst x)
   | none => none
  | false => aEy P u r (i + 1) σ
def aP4 (P : Program) (sig : Sig) (pf : aa4) (call : ad2) (b : Nat) (pre : List Oper) (ms : List Nat) : Nat → Nat → Nat → St → Option St
 | 0, u, m, σ => match aFm P ms u m σ pre 0, apI (u ||| m) pre 0 with
  | true, 0 => some σ
  | _, _ => none
 | k + 1, u, m, σ => match aFm P ms u m σ pre 0 with
  | true => match apI (u ||| m) pre 0 with
   | 0 => some σ
   | _ + 1 => match asU (u ||| m) pre 0 with
    | [x] => match opR P sig pf call x.2 σ with
     | some σ' => match aEy P (ak7 (m ||| 2 ^ x.1) pre 0 u ^^^ u) pre 0 σ' with
      | some σ1 => aP4 P sig pf call b pre ms k (ak7 (m ||| 2 ^ x.1) pre 0 u) (m ||| 2 ^ x.1) σ1
      | none => none
     | none => none
    | _ => none
  | false => none
def aNr (P : Program) (sig : Sig) (pf : aa4) (call : ad2) (ops : Array Oper) (σ : St) (l : List Oper) (ms : List Nat) (m : Nat) (pre : List Oper) (u : Nat) : Option St :=
 match aO4 pre pre 0 && acP l 0 && ag4 m ms 0 && Nat.ble m l.length with
 | true => match aEy P u pre 0 σ with
  | some σ' => match aP4 P sig pf call σ.next pre ms (apI u pre 0) u 0 σ' with
   | some σ'' => aBv P sig pf call ops (l.drop m) σ''
   | none => none
  | none => none
 | false => none
def aIr (P : Program) (sig : Sig) (pf : aa4) (call : ad2) (ops : Array Oper) (σ : St) : Option St :=
 aNr P sig pf call ops σ ops.toList (abI ops.toList []) (abU (abI ops.toList [])) (ops.toList.take (abU (abI ops.toList []))) (aJ6 (ops.toList.take (abU (abI ops.toList []))) 0 0)
def aOI (P : Program) (sig : Sig) (pf : aa4) (call : ad2) (ops : Array Oper) (σ : St) : Option St :=
 match aLV P sig pf call ops (σ.forDraw (aEv sig) ops.toList) with
 | some s => some s
 | none => match aLV P (aI2 sig) pf call ops (σ.forDraw (aEv (aI2 sig)) ops.toList) with
  | some σ' => some σ'
  | none => match aIr P sig pf call ops σ with
   | some σ' => some σ'
   | none => aRN P sig pf call ops σ
def aFe (a : Option St) (b : Option (List PanicEntry × St)) : Option (Exit × St) :=
 match a with
 | some σ => some (.normal, σ)
 | none => match b with
  | some x => some (.panic x.1, x.2)
  | none => none
def aRz : List Nat → Nat → Bool
 | [], _ => false
 | x :: r, k => match Nat.beq x k with
  | true => true
  | false => aRz r k
def adV : Nat → List AV → List Nat → List Nat
 | 0, _, acc => acc
 | _ + 1, [], acc => acc
 | d + 1, x :: r, acc => match x with
  | .ptr k _ => adV d r (k :: acc)
  | .eptr k _ => adV d r (k :: acc)
  | .own k _ _ => adV d r (k :: acc)
  | .ox k _ _ => adV d r (k :: acc)
  | .sv k _ _ _ => adV d r (k :: acc)
  | .yld k => adV d r (k :: acc)
  | .mp k => adV d r (k :: acc)
  | .fn _ a b => adV d r (adV d b (adV d a acc))
  | .ag l => adV d r (adV d l acc)
  | .tup l => adV d r (adV d l acc)
  | _ => adV d r acc
def aNB (b : Bk) (acc : List Nat) : List Nat :=
 match b with
 | .vars _ cells => adV 10000 cells acc
 | .dic _ l => adV 10000 (l.map (·.2)) acc
 | .loop r => adV 10000 (r.slots.map (·.2)) acc
 | _ => acc
def aDu (n1 : Nat) : Heap → List Nat → List Nat
 | [], acc => acc
 | (k, b) :: r, acc => match Nat.blt k n1 with
  | true => aDu n1 r (aNB b acc)
  | false => aDu n1 r acc
def aH9 (H : Heap) (n1 : Nat) : Nat → List Nat → List Nat → List Nat
 | 0, _, seen => seen
 | _ + 1, [], seen => seen
 | f + 1, k :: r, seen => match Nat.blt k n1 || aRz seen k with
  | true => aH9 H n1 f r seen
  | false => match H.find k with
   | some b => aH9 H n1 f (aNB b r) (k :: seen)
   | none => aH9 H n1 f r seen
def aIv (n1 : Nat) : Heap → Nat → Nat
 | [], c => c
 | (k, _) :: r, c => match Nat.blt k n1 with
  | true => aIv n1 r c
  | false => aIv n1 r (Nat.succ c)
def keepP (n1 : Nat) (seen : List Nat) (k : Nat) : Bool := Nat.blt k n1 || aRz seen k
def St.keepR (σ : St) (p : Nat → Bool) : St := { slots := aa1 p aeG σ.slots, H := σ.H.keep p aeG, next := σ.next, n := σ.n }
def gcR (n1 : Nat) (σ : St) : St :=
 match Nat.ble 8 (aIv n1 σ.H 0) with
 | true => σ.keepR (keepP n1 (aH9 σ.H n1 100000 (aDu n1 σ.H (adV 10000 (σ.slots.map (·.2)) [])) []))
 | false => σ
def aLw (n1 : Nat) (f : St → Option (Exit × St)) : Nat → St → Option (Exit × St)
 | 0, _ => none
 | n + 1, σ => match f σ with
  | some (.normal, σ') => aLw n1 f n (gcR n1 σ')
  | r => r
def aP8 (f : St → Option (Exit × St)) (n : Nat) (σ : St) : Option (Exit × St) := aLw σ.next f n σ
def aJr (id : Nat) : Option (Exit × St) → Option (Exit × St)
 | some (.exit j, σ) => match Nat.beq j id with
  | true => some (.normal, σ)
  | false => some (.exit j, σ)
 | r => r
def aMj : Option (Exit × St) → Option (Exit × St)
 | some (.goto _, _) => none
 | r => r
def aDw (σ : St) (l : Nat) : Option (AV × Heap × Nat) → Option (Exit × St)
 | some x => match alK x.1 with
  | some _ => none
  | none => match x.2.1.find l with
  | some (.loop r) => match r.st, akB r.pend with
   | .busy, _ => none
   | _, some e => some (e, { slots := aa1 (abE (x.2.1.up l (.loop { r with st := .exhausted }))) aeG σ.slots, H := x.2.1.up l (.loop { r with st := .exhausted }), next := x.2.2, n := σ.n })
   | _, none => none
  | _ => none
 | none => none
def abT (P : Program) (sig : Sig) (fuel : Nat) (pf : aa4) (call : ad2) (rd : Option Nat) : Code → St → Option (Exit × St)
 | .skip, σ => some (.normal, σ)
 | .region _ ops draw, σ => match draw with
  | false => aFe (aBv P sig pf call ops ops.toList σ) (aJV P sig pf call ops ops.toList σ)
  | true => aFe (aOI P sig pf call ops σ) (aLW P sig pf call ops (σ.forDraw (aEv sig) ops.toList))
 | .seq x y, σ => match abT P sig fuel pf call rd x σ with
  | some (.normal, σ') => abT P sig fuel pf call rd y σ'
  | r => r
 | .cond c x y, σ => match σ.eval c with
  | .d .bool b => match (b : Bool) with
   | true => abT P sig fuel pf call rd x σ
   | false => abT P sig fuel pf call rd y σ
  | _ => none
 | .block id c, σ => aJr id (abT P sig fuel pf call rd c σ)
 | .loop c, σ => aP8 (abT P sig fuel pf call rd c) fuel σ
 | .exit id, σ => some (.exit id, σ)
 | .ret, σ => some (.ret, σ)
 | .label _, σ => some (.normal, σ)
 | .scope c, σ => aMj (abT P sig fuel pf call rd c σ)
 | .rangeFunc g ps assign body, σ => match σ.eval g with
  | .fn f first caps => match rd with
   | none => aDw σ σ.next (call (.fn f) (first ++ .yld σ.next :: caps) (σ.lay σ.next ps assign body) (σ.next + 1))
   | some l0 => match σ.H.find l0 with
    | some (.loop _) => aDw σ σ.next (call (.fn f) (first ++ .yld σ.next :: caps) (σ.lay σ.next ps assign body) (σ.next + 1))
    | _ => none
  | _ => none
 | _, _ => none
abbrev aQG := Array Oper → List Oper → St → Option St
abbrev aJT := Option Nat → Code → St → Option (Exit × St)
def aQB (σ : St) : Option (Exit × St) → Option (Exit × St)
 | some (.normal, s) => some (.ret, { slots := aa1 (abE s.H) aeG σ.slots, H := s.H, next := s.next, n := σ.n })
 | some (.ret, s) => some (.ret, { slots := aa1 (abE s.H) aeG σ.slots, H := s.H, next := s.next, n := σ.n })
 | _ => none
def aJl (P : Program) (sq : aQG) (cd : aJT) (g : FuncId) (caps : List AV) (x : AV) (σ : St) : Option (Exit × St) :=
 match aEd P g with
 | some c => match Nat.ble caps.length c.gn.ntmps with
  | true => match sq c.ops c.rest (({ slots := acF 0 (AV.maps (abE σ.H) aeG caps), H := σ.H, next := σ.next + 1, n := c.gn.ntmps } : St).put c.o.dst x) with
   | some s => aQB σ (cd (some σ.next) c.B s)
   | none => none
  | false => none
 | none => none
def aQ2 (P : Program) (sq : aQG) (cd : aJT) (g : FuncId) (caps : List AV) : Option (Exit × St) → Option (Exit × St)
 | some (.normal, σ) => aJl P sq cd g caps .nili σ
 | some (.ret, σ) => aJl P sq cd g caps .nili σ
 | some (.panic ch, σ) => match afQ ch with
  | some x => aJl P sq cd g caps x σ
  | none => none
 | _ => none
def aPj (P : Program) (sq : aQG) (cd : aJT) (d : DefB) (σ : St) : Option (Exit × St) :=
 match σ.eval d.f with
 | .fn g first caps => match first with
  | [] => aQ2 P sq cd g caps (cd none d.rest (σ.put d.o.dst .und))
  | _ :: _ => none
 | _ => none
def aR1 (P : Program) (sq : aQG) (cd : aJT) (d : DefB) (σ : St) : Option (Exit × St) :=
 match sq d.ops0 d.ops0.toList σ with
 | some σ => match sq d.ops1 d.ops1.toList.dropLast σ with
  | some σ => aPj P sq cd d σ
  | none => none
 | none => none
def aOR (P : Program) (sq : aQG) (cd : aJT) (c : Code) (σ : St) : Option (Exit × St) :=
 match akF c with
 | some d => aR1 P sq cd d σ
 | none => cd none c σ
def aFK (P : Program) (sig : Sig) (fuel : Nat) (pf : aa4) (call : ad2) : Code → St → Option (Exit × St) :=
 aOR P (aBv P sig pf call) (abT P sig fuel pf call)
def ayT (n : Nat) : List AV → Nat → Bool
 | _, 0 => true
 | [], _ => false
 | .ptr k _ :: r, d + 1 => Nat.ble n k || ayT n r d
 | .eptr k _ :: r, d + 1 => Nat.ble n k || ayT n r d
 | .own k _ _ :: r, d + 1 => Nat.ble n k || ayT n r d
 | .ox k _ _ :: r, d + 1 => Nat.ble n k || ayT n r d
 | .sv k _ _ _ :: r, d + 1 => Nat.ble n k || ayT n r d
 | .yld k :: r, d + 1 => Nat.ble n k || ayT n r d
 | .mp k :: r, d + 1 => Nat.ble n k || ayT n r d
 | .fn _ a b :: r, d + 1 => ayT n a d || ayT n b d || ayT n r d
 | .ag l :: r, d + 1 => ayT n l d || ayT n r d
 | .tup l :: r, d + 1 => ayT n l d || ayT n r d
 | _ :: r, d + 1 => ayT n r d
def aDX (n : Nat) : Heap → Bool
 | [] => false
 | (k, b) :: r => (match Nat.ble n k with
  | true => false
  | false => match b with
   | .vars _ cells => ayT n cells 10000
   | .dic _ l => ayT n (l.map (·.2)) 10000
   | _ => false) || aDX n r
def ar3 (n : Nat) (r : AV) (H : Heap) (m : Nat) : AV × Heap × Nat :=
 match ayT n [r] 10000 || aDX n H with
 | true => (r, H, m)
 | false => (r.map (fun k => Nat.blt k n) aeG, H.keep (fun k => Nat.blt k n) aeG, n)
def aPi (P : Program) (fn : Func) : Option (Exit × St) → Option (List AV × St)
 | some (.normal, σ) => match (aJY P σ fn.results.toList).toO with
  | some l => some (l, σ)
  | none => none
 | some (.ret, σ) => match (aJY P σ fn.results.toList).toO with
  | some l => some (l, σ)
  | none => none
 | _ => none
def aGL (P : Program) (sig : Sig) (fuel : Nat) (pf : aa4) (call : ad2) : aa4 := fun f A R x =>
 match P.funcs[f]? with
 | some fn => match fn.body with
  | some code => match acM P f && Nat.ble (ajY A x).length fn.ntmps with
   | true => match aPi P fn (aFK P sig fuel pf call code { slots := acF 0 (ajY A x), H := [], next := 0, n := fn.ntmps }) with
    | some (l, σ) => al7 R (AV.maps (fun _ => false) (aFj σ.H) l)
    | none => none
   | false => none
  | none => none
 | none => none
def aRG (P : Program) (fn : Func) (next : Nat) (x : Option (Exit × St)) : Option (AV × Heap × Nat) :=
 match x with
 | some (.panic ch, σ) => match afQ ch with
  | some y => some (aO1 y, σ.H, σ.next)
  | none => none
 | x => match aPi P fn x with
  | some (l, σ) => match alK (at3 l), alK (ar3 next (at3 l) σ.H σ.next).1 with
   | none, none => some (ar3 next (at3 l) σ.H σ.next)
   | _, _ => none
  | none => none
def aGu (l : Nat) : Option (Exit × St) → Option (AV × Heap × Nat)
 | some (e, σ) => match aNp e with
  | some j => match σ.H.find l with
   | some (.loop r) => some (.d .bool j.isNone, σ.H.up l (.loop { r with st := ap2 j, pend := j }), σ.next)
   | _ => none
  | none => none
 | none => none
def aJt (l : Nat) (X : St → Option (Exit × St)) : Option (Exit × St) → Option (Exit × St)
 | some (.normal, σ) => match σ.H.find l with
  | some (.loop r) => match r.st with
   | .ready => X { σ with H := σ.H.up l (.loop { r with st := .busy }) }
   | _ => none
  | _ => none
 | _ => none
def asR (P : Program) (sig : Sig) (fuel : Nat) (pf : aa4) (call : ad2) : ad2 := fun t args H next =>
 match t with
 | .fn f => match P.funcs[f]? with
  | some fn => match fn.body with
   | some code => match acM P f && Nat.ble args.length fn.ntmps with
    | true => aRG P fn next (aFK P sig fuel pf call code { slots := acF 0 args, H := H, next := next, n := fn.ntmps })
    | false => none
   | none => none
  | none => none
 | .yld l => match H.find l with
  | some (.loop r) => match Nat.beq args.length r.ps.size with
   | true => aGu l (aJt l (abT P sig fuel pf call (some l) r.body) (abT P sig fuel pf call (some l) r.assign (aoJ { slots := r.slots, H := H, next := next, n := r.n } r.ps.toList args)))
   | false => none
  | _ => none
def ahK (ext pf : aa4) : aa4 := fun f A R x => match ext f A R x with
 | some y => some y
 | none => pf f A R x
mutual
def azR (P : Program) (sig : Sig) (fuel : Nat) (ext : aa4) : Nat → aa4
 | 0 => ext
 | d + 1 => ahK ext (aGL P sig fuel (azR P sig fuel ext d) (apD P sig fuel ext d))
def apD (P : Program) (sig : Sig) (fuel : Nat) (ext : aa4) : Nat → ad2
 | 0 => fun _ _ _ _ => none
 | d + 1 => asR P sig fuel (azR P sig fuel ext d) (apD P sig fuel ext d)
end
def af2 : Nat → Nat → List UInt8 → List UInt8
 | 0, _, acc => acc
 | f + 1, n, acc => match Nat.ble n 9 with
  | true => UInt8.ofNat (48 + n) :: acc
  | false => af2 f (n / 10) (UInt8.ofNat (48 + n % 10) :: acc)
def aLD : Int → List UInt8
 | .ofNat n => af2 25 n []
 | .negSucc n => 45 :: af2 25 (n + 1) []
def aQI (l : List UInt8) : Nat → List UInt8
 | 0 => []
 | n + 1 => l ++ aQI l n
def aN0 (l : List UInt8) (n : Int) : Bool := decide (0 ≤ n) && decide (n ≤ 100000) && Nat.ble l.length 1000
def aPk (l : List UInt8) (n : Int) : List UInt8 := aQI l n.toNat
def aIO : (A R : Ty) → A.T → Option R.T
 | .pair (.int .i64) .unit, .pair .str .unit, x => some (aLD x.1, ())
 | _, _, _ => none
def aAN : (A R : Ty) → A.T → Option R.T
 | .pair .str (.pair (.int .i64) .unit), .pair .str .unit, x => match aN0 x.1 x.2.1 with
  | true => some (aPk x.1 x.2.1, ())
  | false => none
 | _, _, _ => none
def aIN (fi fr : Nat) : aa4 := fun f A R x => match Nat.beq f fi with
 | true => aIO A R x
 | false => match Nat.beq f fr with
  | true => aAN A R x
  | false => none
end Go.Vg
