/-
  A runner over the evaluator, and calls that have been run. Own work; no condition.
-/
import Derived.Test.YtgibnaibdcbmmaaGreatDoorClE6
set_option linter.unusedVariables false
set_option linter.unusedSimpArgs false
namespace Go.Vg
open Go Go.RowKit
abbrev abC := Nat → (A R : Ty) → A.T → Option R.T
abbrev adX := Tgt → List AV → Heap → Nat → Option (AV × Heap × Nat)
abbrev Sig := List (Nat × (Ty × Ty))
def Sig.find : Sig → Nat → Option (Ty × Ty)
 | [], _ => none
 | (g, c) :: r, f => match Nat.beq g f with | true => some c | false => Sig.find r f
def ap7 : Sig → Bool
 | (a, _) :: (b, _) :: _ => Nat.beq a b
 | _ => false
def aHK : Sig → Sig
 | x :: r => x :: x :: r
 | [] => []
def noC : Con := { args := .unit, res := .unit, pre := fun _ => True, fn := fun _ => (), dec := fun _ => inferInstance }
def aHx : Bool → Cons
 | true => [(0, noC), (0, noC)]
 | false => []
def evR (P : Program) (sig : Sig) (pf : abC) (K : Nat) (H : Heap) (arg : Operand → AV) (o : Oper) : Option (AV × List (Nat × Bk)) :=
 match o.op with
 | .call { callee := .value f, args, .. } => match arg f with
  | .fn g first caps => match sig.find g with
   | some c => match noSl c.2 || !(apZ (first ++ args.toList.map arg ++ caps)) with
    | true => match ahL H c.1 (first ++ args.toList.map arg ++ caps) with
     | some x => match pf g c.1 c.2 x with
      | some y => some (atW (aCS c.2 y), [])
      | none => none
     | none => none
    | false => none
   | none => none
  | _ => none
 | _ => (evM P (aHx (ap7 sig)) K H arg o).toO
def aHo (σ : St) (dst : Option Nat) : Option (AV × List (Nat × Bk)) → Option St
 | some x => some (σ.grow dst x.1 x.2)
 | none => none
def aNC (σ : St) (dst : Option Nat) : Option (AV × Heap × Nat) → Option St
 | some x => match amH x.1 with
  | none => some (({ slots := aa7 (abL x.2.1) aeM σ.slots, H := x.2.1, next := x.2.2, n := σ.n } : St).put dst x.1)
  | some _ => none
 | none => none
def aN8 (σ : St) : Option (AV × Heap × Nat) → Option (List PanicEntry × St)
 | some x => match amH x.1 with
  | some y => match aj8 y with
   | some ch => some (ch, { slots := aa7 (abL x.2.1) aeM σ.slots, H := x.2.1, next := x.2.2, n := σ.n })
   | none => none
  | none => none
 | none => none
def afA (P : Program) (sig : Sig) (pf : abC) (o : Oper) (σ : St) : Option St := aHo σ o.dst (evR P sig pf σ.next σ.H σ.eval o)
def aF6 (P : Program) (o : Oper) (σ : St) (t : TypeId) (a x : Operand) : Option St :=
 match (aA0 P σ t a x).toO with
 | some σ' => some (σ'.put o.dst .und)
 | none => none
def azH (P : Program) (sig : Sig) (pf : abC) (o : Oper) (σ : St) (b : Builtin) (args : List Operand) (ts : List TypeId) : Option St :=
 match as5 P σ o.dst b args ts with
 | some r => r.toO
 | none => afA P sig pf o σ
def aMW (P : Program) (sig : Sig) (pf : abC) (o : Oper) (σ : St) (args : List Operand) (R : Ty) : Option St :=
 match !(noSl R) || aCv (args.map σ.eval) with
 | true => aHo (σ.thaws (ab5 (args.map σ.eval))) o.dst (evR P sig pf σ.next (σ.thaws (ab5 (args.map σ.eval))).H (σ.thaws (ab5 (args.map σ.eval))).eval o)
 | false => afA P sig pf o σ
def aGa (P : Program) (call : adX) (o : Oper) (σ : St) (args : List Operand) (g : Nat) (first caps : List AV) : Option St :=
 match aG2 P g with
 | true => match args, first, caps with
  | [x], [], [] => some (σ.put o.dst (σ.eval x))
  | _, _, _ => none
 | false => aNC σ o.dst (call (.fn g) (first ++ args.map σ.eval ++ caps) σ.H σ.next)
def aOI (P : Program) (sig : Sig) (pf : abC) (call : adX) (o : Oper) (σ : St) (args : List Operand) (g : Nat) (first caps : List AV) : Option St :=
 match sig.find g with
 | some c => aMW P sig pf o σ args c.2
 | none => aGa P call o σ args g first caps
def aF5 (P : Program) (sig : Sig) (pf : abC) (call : adX) (o : Oper) (σ : St) (f : Operand) (args : List Operand) : Option St :=
 match σ.eval f with
 | .fn g first caps => aOI P sig pf call o σ args g first caps
 | .yld l => aNC σ o.dst (call (.yld l) (args.map σ.eval) σ.H σ.next)
 | _ => none
def aI7 (P : Program) (o : Oper) (σ : St) (t : TypeId) (m i x : Operand) : Option St :=
 match (aG6 P σ t (σ.eval m) (σ.eval i) (σ.eval x)).toO with
 | some σ' => some (σ'.put o.dst .und)
 | none => none
def opR (P : Program) (sig : Sig) (pf : abC) (call : adX) (o : Oper) (σ : St) : Option St :=
 match o.op with
 | .store t a x => aF6 P o σ t a x
 | .buildSlice _ _ ps => afA P sig pf o (σ.freed (.ag (ps.toList.map fun x => σ.eval x.2)))
 | .call { callee := .builtin b, args, argTypes } => azH P sig pf o σ b args.toList argTypes.toList
 | .call { callee := .value f, args, .. } => aF5 P sig pf call o σ f args.toList
 | .slice _ y _ _ (some _) => afA P sig pf o (σ.freed (σ.eval y))
 | .mapUpdate t m i x => aI7 P o σ t m i x
 | .insert t m i x => aI7 P o σ t m i x
 | _ => afA P sig pf o σ
def opP (P : Program) (sig : Sig) (call : adX) (o : Oper) (σ : St) : Option (List PanicEntry × St) :=
 match o.op with
 | .panic x => match aj8 (σ.eval x) with
  | some ch => some (ch, σ)
  | none => none
 | .call { callee := .value f, args, .. } => match σ.eval f with
  | .fn g first caps => match sig.find g with
   | some _ => none
   | none => match aG2 P g with
    | true => none
    | false => aN8 σ (call (.fn g) (first ++ args.toList.map σ.eval ++ caps) σ.H σ.next)
  | _ => none
 | _ => none
def atV (x y : Bool) : Bool := x == y
def aAT (P : Program) (sig : Sig) (pf : abC) (call : adX) (ops : Array Oper) : List Oper → St → Option St
 | [], σ => some σ
 | o :: rest, σ => match o.guard with
  | none => match opR P sig pf call o σ with
   | some σ' => aAT P sig pf call ops rest σ'
   | none => none
  | some (j, want) => match abH ops j with
   | some t => match acT σ.slots t with
    | .d .bool x => match atV x want with
     | true => match opR P sig pf call o (σ.put (some t) (.d .bool x)) with
      | some σ' => aAT P sig pf call ops rest σ'
      | none => none
     | false => aAT P sig pf call ops rest ((σ.put (some t) (.d .bool x)).put o.dst .und)
    | .und => aAT P sig pf call ops rest (σ.put o.dst .und)
    | _ => none
   | none => none
def aIt (P : Program) (sig : Sig) (pf : abC) (call : adX) (ops : Array Oper) : List Oper → St → Option (List PanicEntry × St)
 | [], _ => none
 | o :: rest, σ => match o.guard with
  | none => match opR P sig pf call o σ with
   | some σ' => aIt P sig pf call ops rest σ'
   | none => opP P sig call o σ
  | some (j, want) => match abH ops j with
   | some t => match acT σ.slots t with
    | .d .bool x => match atV x want with
     | true => match opR P sig pf call o (σ.put (some t) (.d .bool x)) with
      | some σ' => aIt P sig pf call ops rest σ'
      | none => opP P sig call o (σ.put (some t) (.d .bool x))
     | false => aIt P sig pf call ops rest ((σ.put (some t) (.d .bool x)).put o.dst .und)
    | .und => aIt P sig pf call ops rest (σ.put o.dst .und)
    | _ => none
   | none => none
def aNK (P : Program) (sig : Sig) (pf : abC) (sk : List (Nat × Nat)) (Hs : Heap) (K : Nat) (H0 : Heap) (arg : Operand → AV) (o : Oper) : Option Out :=
 match o.op with
 | .store t a x => match atU sk K with
  | some k => match (stB P Hs k t (arg a) (arg x)).toO with
   | some b => some (.st k b)
   | none => none
  | none => none
 | _ => match ajF sk K with
  | false => match evR P sig pf K H0 arg o with
   | some x => some (.ran x.1 x.2)
   | none => none
  | true => match o.op with
   | .alloc e => match ab3 P e with
    | some _ => some (.ran (.ptr K 0) [(K, .any)])
    | none => none
   | _ => none
def aKY (P : Program) (sig : Sig) (pf : abC) (ops : Array Oper) (sk : List (Nat × Nat)) (Hs : Heap) (H0 : Nat → Heap → Heap) : List Oper → Nat → St → List (Nat × Bk) → Option (St × List (Nat × Bk))
 | [], _, σ, s => some (σ, s)
 | o :: rest, K, σ, s => match o.guard with
  | none => match aNK P sig pf sk Hs K (H0 K σ.H) σ.eval o with
   | some u => aKY P sig pf ops sk Hs H0 rest (K + 1) (σ.step o u) (u.sts ++ s)
   | none => none
  | some (j, want) => match abH ops j with
   | some t => match acT σ.slots t with
    | .d .bool x => match atV x want with
     | true => match aNK P sig pf sk Hs K (H0 K σ.H) (σ.put (some t) (.d .bool x)).eval o with
      | some u => aKY P sig pf ops sk Hs H0 rest (K + 1) ((σ.put (some t) (.d .bool x)).step o u) (u.sts ++ s)
      | none => none
     | false => aKY P sig pf ops sk Hs H0 rest (K + 1) ((σ.put (some t) (.d .bool x)).step o .skip) s
    | .und => aKY P sig pf ops sk Hs H0 rest (K + 1) (σ.step o .skip) s
    | _ => none
   | none => none
structure Plan where
 ok : Bool
 m : Nat
 pre : List Oper
 rest : List Oper
def aCW (ops : Array Oper) : Plan :=
 let l := ops.toList
 let ms := abN l []
 let m := abX ms
 { ok := asX ops (l.take m) (l.take m) 0 && acP l 0 && ahH m ms 0 && Nat.ble m l.length, m := m, pre := l.take m, rest := l.drop m }
def aDF (sig : Sig) (g : Nat) : Bool :=
 match sig.find g with
 | some c => !(noSl c.2)
 | none => false
def aJX (P : Program) (sig : Sig) (pf : abC) (call : adX) (ops : Array Oper) (σ : St) : Option St :=
 match aCW ops with
 | ⟨ok, m, pre, rest⟩ => match ok with
  | true => match aLx σ pre σ.next (acI P pre σ.next ++ σ.H) pre σ.next with
   | some sk => match am4 (sk.map (·.2)) && amN pre σ.next sk with
    | true => match aKY P sig pf ops sk (acI P pre σ.next ++ σ.H) (aBU pre σ.next sk (acI P pre σ.next ++ σ.H) (aAY sk σ.H)) pre σ.next { σ with H := aAY sk σ.H, next := σ.next + m } [] with
     | some x => aAT P sig pf call ops rest (ai6 (acI P pre σ.next ++ σ.H) sk x)
     | none => none
    | false => none
   | none => none
  | false => none
def aJY (P : Program) (sig : Sig) (pf : abC) (call : adX) (ops : Array Oper) (σ : St) : Option (List PanicEntry × St) :=
 match aCW ops with
 | ⟨ok, m, pre, rest⟩ => match ok with
  | true => match aLx σ pre σ.next (acI P pre σ.next ++ σ.H) pre σ.next with
   | some sk => match am4 (sk.map (·.2)) && amN pre σ.next sk with
    | true => match aKY P sig pf ops sk (acI P pre σ.next ++ σ.H) (aBU pre σ.next sk (acI P pre σ.next ++ σ.H) (aAY sk σ.H)) pre σ.next { σ with H := aAY sk σ.H, next := σ.next + m } [] with
     | some x => aIt P sig pf call ops rest (ai6 (acI P pre σ.next ++ σ.H) sk x)
     | none => none
    | false => none
   | none => none
  | false => none
def aCG (f : Nat → Oper → List (Nat × St) → Option (List (Nat × St))) : List Oper → Nat → List (Nat × St) → Option (List (Nat × St))
 | [], _, acc => some acc
 | o :: r, i, acc => match f i o acc with
  | some acc => aCG f r (i + 1) acc
  | none => none
def aJM : List (Nat × St) → Nat → Option St
 | [], _ => none
 | (k, s) :: r, m => match Nat.beq k m with
  | true => some s
  | false => aJM r m
def aM5 : Nat → Nat → Nat → List (Nat × Nat)
 | 0, _, _ => []
 | m + 1, n, c => (n, c) :: aM5 m (n + 1) (c + 1)
def aK9 (b size k d i n : Nat) (σ' : St) : St := ((σ'.rekeysK b (aM5 (σ'.next - n) n (b + size + 1 + i * 100))).sort d (b + size)).forget.raise (b + (size + 2) * 100 + (size - k) * 100)
def aOs (m : Nat) : List Oper → Nat → Nat → Nat
 | [], _, c => c
 | o :: r, j, c => match Nat.testBit m j, o.dst with
  | true, some _ => aOs m r (j + 1) (c + 1)
  | _, _ => aOs m r (j + 1) c
def aOM (ops : Array Oper) (m i : Nat) (o : Oper) : Nat := match o.dst with
 | none => 0
 | some _ => aOs (m ||| 2 ^ i) ops.toList 0 0
def aNP (acc : List (Nat × St)) (m : Nat) (σ : St) : Option (List (Nat × St)) :=
 match aJM acc m with
 | some s => match stE σ s with
  | true => some acc
  | false => none
 | none => some ((m, σ) :: acc)
def aMX (P : Program) (sig : Sig) (pf : abC) (call : adX) (ops : Array Oper) (b size k m : Nat) (σ : St) (i : Nat) (o : Oper) (acc : List (Nat × St)) : Option (List (Nat × St)) :=
 match Nat.testBit m i with
 | true => some acc
 | false => match amL m o.after.toList with
  | true => match aAT P sig pf call ops [o] σ with
   | some σ' => match Nat.ble σ'.next (aK9 b size k (aOM ops m i o) i σ.next σ').next with
    | true => aNP acc (m ||| 2 ^ i) (aK9 b size k (aOM ops m i o) i σ.next σ')
    | false => none
   | none => none
  | false => some acc
def aC9 (P : Program) (sig : Sig) (pf : abC) (call : adX) (ops : Array Oper) (b size k : Nat) : List (Nat × St) → List (Nat × St) → Option (List (Nat × St))
 | [], acc => some acc
 | x :: r, acc => match aCG (aMX P sig pf call ops b size k x.1 x.2) ops.toList 0 acc with
  | some acc => aC9 P sig pf call ops b size k r acc
  | none => none
def aNt (P : Program) (sig : Sig) (pf : abC) (call : adX) (ops : Array Oper) (b size : Nat) : Nat → List (Nat × St) → Option St
 | 0, l => match l with
  | [x] => some x.2
  | _ => none
 | n + 1, l => match aC9 P sig pf call ops b size n l [] with
  | some l' => aNt P sig pf call ops b size n l'
  | none => none
def aOx (P : Program) (sig : Sig) (pf : abC) (call : adX) (ops : Array Oper) (σ : St) : Option St :=
 match acP ops.toList 0 with
 | true => aNt P sig pf call ops σ.next ops.size ops.size [(0, σ)]
 | false => none
def obR (P : Program) (σ : St) (o : Oper) : Bool := match o.dst with
 | none => false
 | some d => match (evU P σ.H σ.eval o).toO with
  | some r => match acT σ.slots d with
   | .no => true
   | y => avE r y
  | none => false
def aEB (P : Program) (ms : List Nat) (u m : Nat) (σ : St) : List Oper → Nat → Bool
 | [], _ => true
 | o :: r, i => match u.testBit i && !ag7 m i ms 0 with
  | true => match obR P σ o with
   | true => aEB P ms u m σ r (i + 1)
   | false => false
  | false => aEB P ms u m σ r (i + 1)
def aDL (P : Program) (u : Nat) : List Oper → Nat → St → Option St
 | [], _, σ => some σ
 | o :: r, i, σ => match u.testBit i with
  | true => match (evU P σ.H σ.eval o).toO with
   | some x => aDL P u r (i + 1) (σ.put o.dst x)
   | none => none
  | false => aDL P u r (i + 1) σ
def aM0 (P : Program) (sig : Sig) (pf : abC) (call : adX) (b : Nat) (pre : List Oper) (ms : List Nat) : Nat → Nat → Nat → St → Option St
 | 0, u, m, σ => match aEB P ms u m σ pre 0, apW (u ||| m) pre 0 with
  | true, 0 => some σ
  | _, _ => none
 | k + 1, u, m, σ => match aEB P ms u m σ pre 0 with
  | true => match apW (u ||| m) pre 0 with
   | 0 => some σ
   | _ + 1 => match asI (u ||| m) pre 0 with
    | [x] => match opR P sig pf call x.2 σ with
     | some σ' => match aDL P (alQ (m ||| 2 ^ x.1) pre 0 u ^^^ u) pre 0 σ' with
      | some σ1 => aM0 P sig pf call b pre ms k (alQ (m ||| 2 ^ x.1) pre 0 u) (m ||| 2 ^ x.1) σ1
      | none => none
     | none => none
    | _ => none
  | false => none
def aK3 (P : Program) (sig : Sig) (pf : abC) (call : adX) (ops : Array Oper) (σ : St) (l : List Oper) (ms : List Nat) (m : Nat) (pre : List Oper) (u : Nat) : Option St :=
 match aMp pre pre 0 && acP l 0 && ahH m ms 0 && Nat.ble m l.length with
 | true => match aDL P u pre 0 σ with
  | some σ' => match aM0 P sig pf call σ.next pre ms (apW u pre 0) u 0 σ' with
   | some σ'' => aAT P sig pf call ops (l.drop m) σ''
   | none => none
  | none => none
 | false => none
def aHm (P : Program) (sig : Sig) (pf : abC) (call : adX) (ops : Array Oper) (σ : St) : Option St :=
 aK3 P sig pf call ops σ ops.toList (abN ops.toList []) (abX (abN ops.toList [])) (ops.toList.take (abX (abN ops.toList []))) (aID (ops.toList.take (abX (abN ops.toList []))) 0 0)
def aL2 (P : Program) (sig : Sig) (pf : abC) (call : adX) (ops : Array Oper) (σ : St) : Option St :=
 match aJX P sig pf call ops (σ.forDraw (aDF sig) ops.toList) with
 | some s => some s
 | none => match aJX P (aHK sig) pf call ops (σ.forDraw (aDF (aHK sig)) ops.toList) with
  | some σ' => some σ'
  | none => match aHm P sig pf call ops σ with
   | some σ' => some σ'
   | none => aOx P sig pf call ops σ
def aEv (a : Option St) (b : Option (List PanicEntry × St)) : Option (Exit × St) :=
 match a with
 | some σ => some (.normal, σ)
 | none => match b with
  | some x => some (.panic x.1, x.2)
  | none => none
def aOe : List Nat → Nat → Bool
 | [], _ => false
 | x :: r, k => match Nat.beq x k with
  | true => true
  | false => aOe r k
def adP : Nat → List AV → List Nat → List Nat
 | 0, _, acc => acc
 | _ + 1, [], acc => acc
 | d + 1, x :: r, acc => match x with
  | .ptr k _ => adP d r (k :: acc)
  | .eptr k _ => adP d r (k :: acc)
  | .own k _ _ => adP d r (k :: acc)
  | .ox k _ _ => adP d r (k :: acc)
  | .sv k _ => adP d r (k :: acc)
  | .yld k => adP d r (k :: acc)
  | .mp k => adP d r (k :: acc)
  | .fn _ a b => adP d r (adP d b (adP d a acc))
  | .ag l => adP d r (adP d l acc)
  | .tup l => adP d r (adP d l acc)
  | _ => adP d r acc
def aLc (b : Bk) (acc : List Nat) : List Nat :=
 match b with
 | .vars _ cells => adP 10000 cells acc
 | .dic _ l => adP 10000 (l.map (·.2)) acc
 | .loop r => adP 10000 (r.slots.map (·.2)) acc
 | _ => acc
def aCR (n1 : Nat) : Heap → List Nat → List Nat
 | [], acc => acc
 | (k, b) :: r, acc => match Nat.blt k n1 with
  | true => aCR n1 r (aLc b acc)
  | false => aCR n1 r acc
def aG5 (H : Heap) (n1 : Nat) : Nat → List Nat → List Nat → List Nat
 | 0, _, seen => seen
 | _ + 1, [], seen => seen
 | f + 1, k :: r, seen => match Nat.blt k n1 || aOe seen k with
  | true => aG5 H n1 f r seen
  | false => match H.find k with
   | some b => aG5 H n1 f (aLc b r) (k :: seen)
   | none => aG5 H n1 f r seen
def aHs (n1 : Nat) : Heap → Nat → Nat
 | [], c => c
 | (k, _) :: r, c => match Nat.blt k n1 with
  | true => aHs n1 r c
  | false => aHs n1 r (Nat.succ c)
def keepP (n1 : Nat) (seen : List Nat) (k : Nat) : Bool := Nat.blt k n1 || aOe seen k
def St.keepR (σ : St) (p : Nat → Bool) : St := { slots := aa7 p aeM σ.slots, H := σ.H.keep p aeM, next := σ.next, n := σ.n }
def gcR (n1 : Nat) (σ : St) : St :=
 match Nat.ble 8 (aHs n1 σ.H 0) with
 | true => σ.keepR (keepP n1 (aG5 σ.H n1 100000 (aCR n1 σ.H (adP 10000 (σ.slots.map (·.2)) [])) []))
 | false => σ
def aJz (n1 : Nat) (f : St → Option (Exit × St)) : Nat → St → Option (Exit × St)
 | 0, _ => none
 | n + 1, σ => match f σ with
  | some (.normal, σ') => aJz n1 f n (gcR n1 σ')
  | r => r
def aM1 (f : St → Option (Exit × St)) (n : Nat) (σ : St) : Option (Exit × St) := aJz σ.next f n σ
def aIb (id : Nat) : Option (Exit × St) → Option (Exit × St)
 | some (.exit j, σ) => match Nat.beq j id with
  | true => some (.normal, σ)
  | false => some (.exit j, σ)
 | r => r
def aKi : Option (Exit × St) → Option (Exit × St)
 | some (.goto _, _) => none
 | r => r
def aCT (σ : St) (l : Nat) : Option (AV × Heap × Nat) → Option (Exit × St)
 | some x => match amH x.1 with
  | some _ => none
  | none => match x.2.1.find l with
  | some (.loop r) => match r.st, akQ r.pend with
   | .busy, _ => none
   | _, some e => some (e, { slots := aa7 (abL (x.2.1.up l (.loop { r with st := .exhausted }))) aeM σ.slots, H := x.2.1.up l (.loop { r with st := .exhausted }), next := x.2.2, n := σ.n })
   | _, none => none
  | _ => none
 | none => none
def abV (P : Program) (sig : Sig) (fuel : Nat) (pf : abC) (call : adX) (rd : Option Nat) : Code → St → Option (Exit × St)
 | .skip, σ => some (.normal, σ)
 | .region _ ops draw, σ => match draw with
  | false => aEv (aAT P sig pf call ops ops.toList σ) (aIt P sig pf call ops ops.toList σ)
  | true => aEv (aL2 P sig pf call ops σ) (aJY P sig pf call ops (σ.forDraw (aDF sig) ops.toList))
 | .seq x y, σ => match abV P sig fuel pf call rd x σ with
  | some (.normal, σ') => abV P sig fuel pf call rd y σ'
  | r => r
 | .cond c x y, σ => match σ.eval c with
  | .d .bool b => match (b : Bool) with
   | true => abV P sig fuel pf call rd x σ
   | false => abV P sig fuel pf call rd y σ
  | _ => none
 | .block id c, σ => aIb id (abV P sig fuel pf call rd c σ)
 | .loop c, σ => aM1 (abV P sig fuel pf call rd c) fuel σ
 | .exit id, σ => some (.exit id, σ)
 | .ret, σ => some (.ret, σ)
 | .label _, σ => some (.normal, σ)
 | .scope c, σ => aKi (abV P sig fuel pf call rd c σ)
 | .rangeFunc g ps assign body, σ => match σ.eval g with
  | .fn f first caps => match rd with
   | none => aCT σ σ.next (call (.fn f) (first ++ .yld σ.next :: caps) (σ.lay σ.next ps assign body) (σ.next + 1))
   | some l0 => match σ.H.find l0 with
    | some (.loop _) => aCT σ σ.next (call (.fn f) (first ++ .yld σ.next :: caps) (σ.lay σ.next ps assign body) (σ.next + 1))
    | _ => none
  | _ => none
 | _, _ => none
abbrev aNw := Array Oper → List Oper → St → Option St
abbrev aIq := Option Nat → Code → St → Option (Exit × St)
def aNs (σ : St) : Option (Exit × St) → Option (Exit × St)
 | some (.normal, s) => some (.ret, { slots := aa7 (abL s.H) aeM σ.slots, H := s.H, next := s.next, n := σ.n })
 | some (.ret, s) => some (.ret, { slots := aa7 (abL s.H) aeM σ.slots, H := s.H, next := s.next, n := σ.n })
 | _ => none
def aH1 (P : Program) (sq : aNw) (cd : aIq) (g : FuncId) (caps : List AV) (x : AV) (σ : St) : Option (Exit × St) :=
 match aDr P g with
 | some c => match Nat.ble caps.length c.gn.ntmps with
  | true => match sq c.ops c.rest (({ slots := ab9 0 (AV.maps (abL σ.H) aeM caps), H := σ.H, next := σ.next + 1, n := c.gn.ntmps } : St).put c.o.dst x) with
   | some s => aNs σ (cd (some σ.next) c.B s)
   | none => none
  | false => none
 | none => none
def aNU (P : Program) (sq : aNw) (cd : aIq) (g : FuncId) (caps : List AV) : Option (Exit × St) → Option (Exit × St)
 | some (.normal, σ) => aH1 P sq cd g caps .nili σ
 | some (.ret, σ) => aH1 P sq cd g caps .nili σ
 | some (.panic ch, σ) => match af4 ch with
  | some x => aH1 P sq cd g caps x σ
  | none => none
 | _ => none
def aMH (P : Program) (sq : aNw) (cd : aIq) (d : DefB) (σ : St) : Option (Exit × St) :=
 match σ.eval d.f with
 | .fn g first caps => match first with
  | [] => aNU P sq cd g caps (cd none d.rest (σ.put d.o.dst .und))
  | _ :: _ => none
 | _ => none
def aON (P : Program) (sq : aNw) (cd : aIq) (d : DefB) (σ : St) : Option (Exit × St) :=
 match sq d.ops0 d.ops0.toList σ with
 | some σ => match sq d.ops1 d.ops1.toList.dropLast σ with
  | some σ => aMH P sq cd d σ
  | none => none
 | none => none
def aMa (P : Program) (sq : aNw) (cd : aIq) (c : Code) (σ : St) : Option (Exit × St) :=
 match akX c with
 | some d => aON P sq cd d σ
 | none => cd none c σ
def aE4 (P : Program) (sig : Sig) (fuel : Nat) (pf : abC) (call : adX) : Code → St → Option (Exit × St) :=
 aMa P (aAT P sig pf call) (abV P sig fuel pf call)
def ax4 (n : Nat) : List AV → Nat → Bool
 | _, 0 => true
 | [], _ => false
 | .ptr k _ :: r, d + 1 => Nat.ble n k || ax4 n r d
 | .eptr k _ :: r, d + 1 => Nat.ble n k || ax4 n r d
 | .own k _ _ :: r, d + 1 => Nat.ble n k || ax4 n r d
 | .ox k _ _ :: r, d + 1 => Nat.ble n k || ax4 n r d
 | .sv k _ :: r, d + 1 => Nat.ble n k || ax4 n r d
 | .yld k :: r, d + 1 => Nat.ble n k || ax4 n r d
 | .mp k :: r, d + 1 => Nat.ble n k || ax4 n r d
 | .fn _ a b :: r, d + 1 => ax4 n a d || ax4 n b d || ax4 n r d
 | .ag l :: r, d + 1 => ax4 n l d || ax4 n r d
 | .tup l :: r, d + 1 => ax4 n l d || ax4 n r d
 | _ :: r, d + 1 => ax4 n r d
def aDe (n : Nat) : Heap → Bool
 | [] => false
 | (k, b) :: r => (match Nat.ble n k with
  | true => false
  | false => match b with
   | .vars _ cells => ax4 n cells 10000
   | .dic _ l => ax4 n (l.map (·.2)) 10000
   | _ => false) || aDe n r
def arZ (n : Nat) (r : AV) (H : Heap) (m : Nat) : AV × Heap × Nat :=
 match ax4 n [r] 10000 || aDe n H with
 | true => (r, H, m)
 | false => (r.map (fun k => Nat.blt k n) aeM, H.keep (fun k => Nat.blt k n) aeM, n)
def aMG (P : Program) (fn : Func) : Option (Exit × St) → Option (List AV × St)
 | some (.normal, σ) => match (aIv P σ fn.results.toList).toO with
  | some l => some (l, σ)
  | none => none
 | some (.ret, σ) => match (aIv P σ fn.results.toList).toO with
  | some l => some (l, σ)
  | none => none
 | _ => none
def aFX (P : Program) (sig : Sig) (fuel : Nat) (pf : abC) (call : adX) : abC := fun f A R x =>
 match P.funcs[f]? with
 | some fn => match fn.body with
  | some code => match acL P f && Nat.ble (akA A x).length fn.ntmps with
   | true => match aMG P fn (aE4 P sig fuel pf call code { slots := ab9 0 (akA A x), H := [], next := 0, n := fn.ntmps }) with
    | some (l, σ) => amW R (AV.maps (fun _ => false) (aEz σ.H) l)
    | none => none
   | false => none
  | none => none
 | none => none
def aOp (P : Program) (fn : Func) (next : Nat) (x : Option (Exit × St)) : Option (AV × Heap × Nat) :=
 match x with
 | some (.panic ch, σ) => match af4 ch with
  | some y => some (aMl y, σ.H, σ.next)
  | none => none
 | x => match aMG P fn x with
  | some (l, σ) => match amH (atW l), amH (arZ next (atW l) σ.H σ.next).1 with
   | none, none => some (arZ next (atW l) σ.H σ.next)
   | _, _ => none
  | none => none
def aFJ (l : Nat) : Option (Exit × St) → Option (AV × Heap × Nat)
 | some (e, σ) => match aK2 e with
  | some j => match σ.H.find l with
   | some (.loop r) => some (.d .bool j.isNone, σ.H.up l (.loop { r with st := ap9 j, pend := j }), σ.next)
   | _ => none
  | none => none
 | none => none
def aId (l : Nat) (X : St → Option (Exit × St)) : Option (Exit × St) → Option (Exit × St)
 | some (.normal, σ) => match σ.H.find l with
  | some (.loop r) => match r.st with
   | .ready => X { σ with H := σ.H.up l (.loop { r with st := .busy }) }
   | _ => none
  | _ => none
 | _ => none
def asG (P : Program) (sig : Sig) (fuel : Nat) (pf : abC) (call : adX) : adX := fun t args H next =>
 match t with
 | .fn f => match P.funcs[f]? with
  | some fn => match fn.body with
   | some code => match acL P f && Nat.ble args.length fn.ntmps with
    | true => aOp P fn next (aE4 P sig fuel pf call code { slots := ab9 0 args, H := H, next := next, n := fn.ntmps })
    | false => none
   | none => none
  | none => none
 | .yld l => match H.find l with
  | some (.loop r) => match Nat.beq args.length r.ps.size with
   | true => aFJ l (aId l (abV P sig fuel pf call (some l) r.body) (abV P sig fuel pf call (some l) r.assign (ao1 { slots := r.slots, H := H, next := next, n := r.n } r.ps.toList args)))
   | false => none
  | _ => none
def alH (ext pf : abC) : abC := fun f A R x => match ext f A R x with
 | some y => some y
 | none => pf f A R x
mutual
def azB (P : Program) (sig : Sig) (fuel : Nat) (ext : abC) : Nat → abC
 | 0 => ext
 | d + 1 => alH ext (aFX P sig fuel (azB P sig fuel ext d) (apT P sig fuel ext d))
def apT (P : Program) (sig : Sig) (fuel : Nat) (ext : abC) : Nat → adX
 | 0 => fun _ _ _ _ => none
 | d + 1 => asG P sig fuel (azB P sig fuel ext d) (apT P sig fuel ext d)
end
def agF : Nat → Nat → List UInt8 → List UInt8
 | 0, _, acc => acc
 | f + 1, n, acc => match Nat.ble n 9 with
  | true => UInt8.ofNat (48 + n) :: acc
  | false => agF f (n / 10) (UInt8.ofNat (48 + n % 10) :: acc)
def aJE : Int → List UInt8
 | .ofNat n => agF 25 n []
 | .negSucc n => 45 :: agF 25 (n + 1) []
def aNB (l : List UInt8) : Nat → List UInt8
 | 0 => []
 | n + 1 => l ++ aNB l n
def aLD (l : List UInt8) (n : Int) : Bool := decide (0 ≤ n) && decide (n ≤ 100000) && Nat.ble l.length 1000
def aMI (l : List UInt8) (n : Int) : List UInt8 := aNB l n.toNat
def aHz : (A R : Ty) → A.T → Option R.T
 | .pair (.int .i64) .unit, .pair .str .unit, x => some (aJE x.1, ())
 | _, _, _ => none
def aAd : (A R : Ty) → A.T → Option R.T
 | .pair .str (.pair (.int .i64) .unit), .pair .str .unit, x => match aLD x.1 x.2.1 with
  | true => some (aMI x.1 x.2.1, ())
  | false => none
 | _, _, _ => none
def aHy (fi fr : Nat) : abC := fun f A R x => match Nat.beq f fi with
 | true => aHz A R x
 | false => match Nat.beq f fr with
  | true => aAd A R x
  | false => none
end Go.Vg
