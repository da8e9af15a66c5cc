/-
  A runner over the evaluator, and calls that have been run. Own work; no condition.
-/
import Derived.Test.YtebeijpmpjpgcaaGreatDoorClE5
set_option linter.unusedVariables false
set_option linter.unusedSimpArgs false
namespace Go.Vg
open Go Go.RowKit
abbrev abO := Nat → (A R : Ty) → A.T → Option R.T
abbrev aeN := Tgt → List AV → Heap → Nat → Option (AV × Heap × Nat)
abbrev Sig := List (Nat × (Ty × Ty))
def Sig.find : Sig → Nat → Option (Ty × Ty)
 | [], _ => none
 | (g, c) :: r, f => match Nat.beq g f with | true => some c | false => Sig.find r f
def aoX : Sig → Bool
 | (a, _) :: (b, _) :: _ => Nat.beq a b
 | _ => false
def aG1 : Sig → Sig
 | x :: r => x :: x :: r
 | [] => []
def noC : Con := { args := .unit, res := .unit, pre := fun _ => True, fn := fun _ => (), dec := fun _ => inferInstance }
def aGH : Bool → Cons
 | true => [(0, noC), (0, noC)]
 | false => []
def evR (P : Program) (sig : Sig) (pf : abO) (K : Nat) (H : Heap) (arg : Operand → AV) (o : Oper) : Option (AV × List (Nat × Bk)) :=
 match o.op with
 | .call { callee := .value f, args, .. } => match arg f with
  | .fn g first caps => match sig.find g with
   | some c => match noSl c.2 || !(aoG (first ++ args.toList.map arg ++ caps)) with
    | true => match ag4 H c.1 (first ++ args.toList.map arg ++ caps) with
     | some x => match pf g c.1 c.2 x with
      | some y => some (asY (aB9 c.2 y), [])
      | none => none
     | none => none
    | false => none
   | none => none
  | _ => none
 | _ => (evM P (aGH (aoX sig)) K H arg o).toO
def aGt (σ : St) (dst : Option Nat) : Option (AV × List (Nat × Bk)) → Option St
 | some x => some (σ.grow dst x.1 x.2)
 | none => none
def aOw (σ : St) (dst : Option Nat) : Option (AV × Heap × Nat) → Option St
 | some x => match amY x.1 with
  | none => some (({ slots := abN (abX x.2.1) ag1 σ.slots, H := x.2.1, next := x.2.2, n := σ.n } : St).put dst x.1)
  | some _ => none
 | none => none
def aPf (σ : St) : Option (AV × Heap × Nat) → Option (List PanicEntry × St)
 | some x => match amY x.1 with
  | some y => match ai1 y with
   | some ch => some (ch, { slots := abN (abX x.2.1) ag1 σ.slots, H := x.2.1, next := x.2.2, n := σ.n })
   | none => none
  | none => none
 | none => none
def afM (P : Program) (sig : Sig) (pf : abO) (o : Oper) (σ : St) : Option St := aGt σ o.dst (evR P sig pf σ.next σ.H σ.eval o)
def aFr (P : Program) (o : Oper) (σ : St) (t : TypeId) (a x : Operand) : Option St :=
 match (aAE P σ t a x).toO with
 | some σ' => some (σ'.put o.dst .und)
 | none => none
def ayB (P : Program) (sig : Sig) (pf : abO) (o : Oper) (σ : St) (b : Builtin) (args : List Operand) (ts : List TypeId) : Option St :=
 match ar5 P σ o.dst b args ts with
 | some r => r.toO
 | none => afM P sig pf o σ
def aNe (P : Program) (sig : Sig) (pf : abO) (o : Oper) (σ : St) (args : List Operand) (R : Ty) : Option St :=
 match !(noSl R) || aBN (args.map σ.eval) with
 | true => aGt (σ.thaws (acI (args.map σ.eval))) o.dst (evR P sig pf σ.next (σ.thaws (acI (args.map σ.eval))).H (σ.thaws (acI (args.map σ.eval))).eval o)
 | false => afM P sig pf o σ
def aFu (P : Program) (call : aeN) (o : Oper) (σ : St) (args : List Operand) (g : Nat) (first caps : List AV) : Option St :=
 match aF5 P g with
 | true => match args, first, caps with
  | [x], [], [] => some (σ.put o.dst (σ.eval x))
  | _, _, _ => none
 | false => aOw σ o.dst (call (.fn g) (first ++ args.map σ.eval ++ caps) σ.H σ.next)
def aPQ (P : Program) (sig : Sig) (pf : abO) (call : aeN) (o : Oper) (σ : St) (args : List Operand) (g : Nat) (first caps : List AV) : Option St :=
 match sig.find g with
 | some c => aNe P sig pf o σ args c.2
 | none => aFu P call o σ args g first caps
def aFq (P : Program) (sig : Sig) (pf : abO) (call : aeN) (o : Oper) (σ : St) (f : Operand) (args : List Operand) : Option St :=
 match σ.eval f with
 | .fn g first caps => aPQ P sig pf call o σ args g first caps
 | .yld l => aOw σ o.dst (call (.yld l) (args.map σ.eval) σ.H σ.next)
 | _ => none
def aIF (P : Program) (o : Oper) (σ : St) (t : TypeId) (m i x : Operand) : Option St :=
 match (aGb P σ t (σ.eval m) (σ.eval i) (σ.eval x)).toO with
 | some σ' => some (σ'.put o.dst .und)
 | none => none
def opR (P : Program) (sig : Sig) (pf : abO) (call : aeN) (o : Oper) (σ : St) : Option St :=
 match o.op with
 | .store t a x => aFr P o σ t a x
 | .buildSlice _ _ ps => afM P sig pf o (σ.freed (.ag (ps.toList.map fun x => σ.eval x.2)))
 | .call { callee := .builtin b, args, argTypes } => ayB P sig pf o σ b args.toList argTypes.toList
 | .call { callee := .value f, args, .. } => aFq P sig pf call o σ f args.toList
 | .slice _ y _ _ (some _) => afM P sig pf o (σ.freed (σ.eval y))
 | .mapUpdate t m i x => aIF P o σ t m i x
 | .insert t m i x => aIF P o σ t m i x
 | _ => afM P sig pf o σ
def opP (P : Program) (sig : Sig) (call : aeN) (o : Oper) (σ : St) : Option (List PanicEntry × St) :=
 match o.op with
 | .panic x => match ai1 (σ.eval x) with
  | some ch => some (ch, σ)
  | none => none
 | .call { callee := .value f, args, .. } => match σ.eval f with
  | .fn g first caps => match sig.find g with
   | some _ => none
   | none => match aF5 P g with
    | true => none
    | false => aPf σ (call (.fn g) (first ++ args.toList.map σ.eval ++ caps) σ.H σ.next)
  | _ => none
 | _ => none
def asX (x y : Bool) : Bool := x == y
def aAx (P : Program) (sig : Sig) (pf : abO) (call : aeN) (ops : Array Oper) : List Oper → St → Option St
 | [], σ => some σ
 | o :: rest, σ => match o.guard with
  | none => match opR P sig pf call o σ with
   | some σ' => aAx P sig pf call ops rest σ'
   | none => none
  | some (j, want) => match abV ops j with
   | some t => match adB σ.slots t with
    | .d .bool x => match asX x want with
     | true => match opR P sig pf call o (σ.put (some t) (.d .bool x)) with
      | some σ' => aAx P sig pf call ops rest σ'
      | none => none
     | false => aAx P sig pf call ops rest ((σ.put (some t) (.d .bool x)).put o.dst .und)
    | .und => aAx P sig pf call ops rest (σ.put o.dst .und)
    | _ => none
   | none => none
def aHX (P : Program) (sig : Sig) (pf : abO) (call : aeN) (ops : Array Oper) : List Oper → St → Option (List PanicEntry × St)
 | [], _ => none
 | o :: rest, σ => match o.guard with
  | none => match opR P sig pf call o σ with
   | some σ' => aHX P sig pf call ops rest σ'
   | none => opP P sig call o σ
  | some (j, want) => match abV ops j with
   | some t => match adB σ.slots t with
    | .d .bool x => match asX x want with
     | true => match opR P sig pf call o (σ.put (some t) (.d .bool x)) with
      | some σ' => aHX P sig pf call ops rest σ'
      | none => opP P sig call o (σ.put (some t) (.d .bool x))
     | false => aHX P sig pf call ops rest ((σ.put (some t) (.d .bool x)).put o.dst .und)
    | .und => aHX P sig pf call ops rest (σ.put o.dst .und)
    | _ => none
   | none => none
def aOU (P : Program) (sig : Sig) (pf : abO) (sk : List (Nat × Nat)) (Hs : Heap) (K : Nat) (H0 : Heap) (arg : Operand → AV) (o : Oper) : Option Out :=
 match o.op with
 | .store t a x => match asW sk K with
  | some k => match (stB P Hs k t (arg a) (arg x)).toO with
   | some b => some (.st k b)
   | none => none
  | none => none
 | _ => match aiJ sk K with
  | false => match evR P sig pf K H0 arg o with
   | some x => some (.ran x.1 x.2)
   | none => none
  | true => match o.op with
   | .alloc e => match acP P e with
    | some _ => some (.ran (.ptr K 0) [(K, .any)])
    | none => none
   | _ => none
def aKz (P : Program) (sig : Sig) (pf : abO) (ops : Array Oper) (sk : List (Nat × Nat)) (Hs : Heap) (H0 : Nat → Heap → Heap) : List Oper → Nat → St → List (Nat × Bk) → Option (St × List (Nat × Bk))
 | [], _, σ, s => some (σ, s)
 | o :: rest, K, σ, s => match o.guard with
  | none => match aOU P sig pf sk Hs K (H0 K σ.H) σ.eval o with
   | some u => aKz P sig pf ops sk Hs H0 rest (K + 1) (σ.step o u) (u.sts ++ s)
   | none => none
  | some (j, want) => match abV ops j with
   | some t => match adB σ.slots t with
    | .d .bool x => match asX x want with
     | true => match aOU P sig pf sk Hs K (H0 K σ.H) (σ.put (some t) (.d .bool x)).eval o with
      | some u => aKz P sig pf ops sk Hs H0 rest (K + 1) ((σ.put (some t) (.d .bool x)).step o u) (u.sts ++ s)
      | none => none
     | false => aKz P sig pf ops sk Hs H0 rest (K + 1) ((σ.put (some t) (.d .bool x)).step o .skip) s
    | .und => aKz P sig pf ops sk Hs H0 rest (K + 1) (σ.step o .skip) s
    | _ => none
   | none => none
structure Plan where
 ok : Bool
 m : Nat
 pre : List Oper
 rest : List Oper
def aCf (ops : Array Oper) : Plan :=
 let l := ops.toList
 let ms := ab2 l []
 let m := ab9 ms
 { ok := ar0 ops (l.take m) (l.take m) 0 && ac7 l 0 && ag2 m ms 0 && Nat.ble m l.length, m := m, pre := l.take m, rest := l.drop m }
def aDe (sig : Sig) (g : Nat) : Bool :=
 match sig.find g with
 | some c => !(noSl c.2)
 | none => false
def aJF (P : Program) (sig : Sig) (pf : abO) (call : aeN) (ops : Array Oper) (σ : St) : Option St :=
 match aCf ops with
 | ⟨ok, m, pre, rest⟩ => match ok with
  | true => match aK9 σ pre σ.next (ac2 P pre σ.next ++ σ.H) pre σ.next with
   | some sk => match alP (sk.map (·.2)) && ak0 pre σ.next sk with
    | true => match aKz P sig pf ops sk (ac2 P pre σ.next ++ σ.H) (aBb pre σ.next sk (ac2 P pre σ.next ++ σ.H) (aAC sk σ.H)) pre σ.next { σ with H := aAC sk σ.H, next := σ.next + m } [] with
     | some x => aAx P sig pf call ops rest (aiC (ac2 P pre σ.next ++ σ.H) sk x)
     | none => none
    | false => none
   | none => none
  | false => none
def aJG (P : Program) (sig : Sig) (pf : abO) (call : aeN) (ops : Array Oper) (σ : St) : Option (List PanicEntry × St) :=
 match aCf ops with
 | ⟨ok, m, pre, rest⟩ => match ok with
  | true => match aK9 σ pre σ.next (ac2 P pre σ.next ++ σ.H) pre σ.next with
   | some sk => match alP (sk.map (·.2)) && ak0 pre σ.next sk with
    | true => match aKz P sig pf ops sk (ac2 P pre σ.next ++ σ.H) (aBb pre σ.next sk (ac2 P pre σ.next ++ σ.H) (aAC sk σ.H)) pre σ.next { σ with H := aAC sk σ.H, next := σ.next + m } [] with
     | some x => aHX P sig pf call ops rest (aiC (ac2 P pre σ.next ++ σ.H) sk x)
     | none => none
    | false => none
   | none => none
  | false => none
def aBW (f : Nat → Oper → List (Nat × St) → Option (List (Nat × St))) : List Oper → Nat → List (Nat × St) → Option (List (Nat × St))
 | [], _, acc => some acc
 | o :: r, i, acc => match f i o acc with
  | some acc => aBW f r (i + 1) acc
  | none => none
def aJq : List (Nat × St) → Nat → Option St
 | [], _ => none
 | (k, s) :: r, m => match Nat.beq k m with
  | true => some s
  | false => aJq r m
def aNq : Nat → Nat → Nat → List (Nat × Nat)
 | 0, _, _ => []
 | m + 1, n, c => (n, c) :: aNq m (n + 1) (c + 1)
def aKX (b size k d i n : Nat) (σ' : St) : St := ((σ'.rekeysK b (aNq (σ'.next - n) n (b + size + 1 + i * 100))).sort d (b + size)).forget.raise (b + (size + 2) * 100 + (size - k) * 100)
def aPD (m : Nat) : List Oper → Nat → Nat → Nat
 | [], _, c => c
 | o :: r, j, c => match Nat.testBit m j, o.dst with
  | true, some _ => aPD m r (j + 1) (c + 1)
  | _, _ => aPD m r (j + 1) c
def aQk (ops : Array Oper) (m i : Nat) (o : Oper) : Nat := match o.dst with
 | none => 0
 | some _ => aPD (m ||| 2 ^ i) ops.toList 0 0
def aOZ (acc : List (Nat × St)) (m : Nat) (σ : St) : Option (List (Nat × St)) :=
 match aJq acc m with
 | some s => match stE σ s with
  | true => some acc
  | false => none
 | none => some ((m, σ) :: acc)
def aNf (P : Program) (sig : Sig) (pf : abO) (call : aeN) (ops : Array Oper) (b size k m : Nat) (σ : St) (i : Nat) (o : Oper) (acc : List (Nat × St)) : Option (List (Nat × St)) :=
 match Nat.testBit m i with
 | true => some acc
 | false => match akW m o.after.toList with
  | true => match aAx P sig pf call ops [o] σ with
   | some σ' => match Nat.ble σ'.next (aKX b size k (aQk ops m i o) i σ.next σ').next with
    | true => aOZ acc (m ||| 2 ^ i) (aKX b size k (aQk ops m i o) i σ.next σ')
    | false => none
   | none => none
  | false => some acc
def aCr (P : Program) (sig : Sig) (pf : abO) (call : aeN) (ops : Array Oper) (b size k : Nat) : List (Nat × St) → List (Nat × St) → Option (List (Nat × St))
 | [], acc => some acc
 | x :: r, acc => match aBW (aNf P sig pf call ops b size k x.1 x.2) ops.toList 0 acc with
  | some acc => aCr P sig pf call ops b size k r acc
  | none => none
def aN1 (P : Program) (sig : Sig) (pf : abO) (call : aeN) (ops : Array Oper) (b size : Nat) : Nat → List (Nat × St) → Option St
 | 0, l => match l with
  | [x] => some x.2
  | _ => none
 | n + 1, l => match aCr P sig pf call ops b size n l [] with
  | some l' => aN1 P sig pf call ops b size n l'
  | none => none
def aPG (P : Program) (sig : Sig) (pf : abO) (call : aeN) (ops : Array Oper) (σ : St) : Option St :=
 match ac7 ops.toList 0 with
 | true => aN1 P sig pf call ops σ.next ops.size ops.size [(0, σ)]
 | false => none
def obR (P : Program) (σ : St) (o : Oper) : Bool := match o.dst with
 | none => false
 | some d => match (evU P σ.H σ.eval o).toO with
  | some r => match adB σ.slots d with
   | .no => true
   | y => avE r y
  | none => false
def aDN (P : Program) (ms : List Nat) (u m : Nat) (σ : St) : List Oper → Nat → Bool
 | [], _ => true
 | o :: r, i => match u.testBit i && !agV m i ms 0 with
  | true => match obR P σ o with
   | true => aDN P ms u m σ r (i + 1)
   | false => false
  | false => aDN P ms u m σ r (i + 1)
def aDh (P : Program) (u : Nat) : List Oper → Nat → St → Option St
 | [], _, σ => some σ
 | o :: r, i, σ => match u.testBit i with
  | true => match (evU P σ.H σ.eval o).toO with
   | some x => aDh P u r (i + 1) (σ.put o.dst x)
   | none => none
  | false => aDh P u r (i + 1) σ
def aNj (P : Program) (sig : Sig) (pf : abO) (call : aeN) (b : Nat) (pre : List Oper) (ms : List Nat) : Nat → Nat → Nat → St → Option St
 | 0, u, m, σ => match aDN P ms u m σ pre 0, aoD (u ||| m) pre 0 with
  | true, 0 => some σ
  | _, _ => none
 | k + 1, u, m, σ => match aDN P ms u m σ pre 0 with
  | true => match aoD (u ||| m) pre 0 with
   | 0 => some σ
   | _ + 1 => match aEb (u ||| m) pre 0 with
    | [x] => match opR P sig pf call x.2 σ with
     | some σ' => match aDh P (akF (m ||| 2 ^ x.1) pre 0 u ^^^ u) pre 0 (aNT b pre.length x.1 k σ σ') with
      | some σ1 => aNj P sig pf call b pre ms k (akF (m ||| 2 ^ x.1) pre 0 u) (m ||| 2 ^ x.1) σ1
      | none => none
     | none => none
    | _ => none
  | false => none
def aKR (P : Program) (sig : Sig) (pf : abO) (call : aeN) (ops : Array Oper) (σ : St) (l : List Oper) (ms : List Nat) (m : Nat) (pre : List Oper) (u : Nat) : Option St :=
 match aMz pre pre 0 && ac7 l 0 && ag2 m ms 0 && Nat.ble m l.length with
 | true => match aDh P u pre 0 σ with
  | some σ' => match aNj P sig pf call σ.next pre ms (aoD u pre 0) u 0 σ' with
   | some σ'' => aAx P sig pf call ops (l.drop m) σ''
   | none => none
  | none => none
 | false => none
def aGr (P : Program) (sig : Sig) (pf : abO) (call : aeN) (ops : Array Oper) (σ : St) : Option St :=
 aKR P sig pf call ops σ ops.toList (ab2 ops.toList []) (ab9 (ab2 ops.toList [])) (ops.toList.take (ab9 (ab2 ops.toList []))) (aIa (ops.toList.take (ab9 (ab2 ops.toList []))) 0 0)
def aLU (P : Program) (sig : Sig) (pf : abO) (call : aeN) (ops : Array Oper) (σ : St) : Option St :=
 match aJF P sig pf call ops (σ.forDraw (aDe sig) ops.toList) with
 | some s => some s
 | none => match aJF P (aG1 sig) pf call ops (σ.forDraw (aDe (aG1 sig)) ops.toList) with
  | some σ' => some σ'
  | none => match aGr P sig pf call ops σ with
   | some σ' => some σ'
   | none => aPG P sig pf call ops σ
def aDI (a : Option St) (b : Option (List PanicEntry × St)) : Option (Exit × St) :=
 match a with
 | some σ => some (.normal, σ)
 | none => match b with
  | some x => some (.panic x.1, x.2)
  | none => none
def aPp : List Nat → Nat → Bool
 | [], _ => false
 | x :: r, k => match Nat.beq x k with
  | true => true
  | false => aPp r k
def aeH : Nat → List AV → List Nat → List Nat
 | 0, _, acc => acc
 | _ + 1, [], acc => acc
 | d + 1, x :: r, acc => match x with
  | .ptr k _ => aeH d r (k :: acc)
  | .eptr k _ => aeH d r (k :: acc)
  | .own k _ _ => aeH d r (k :: acc)
  | .ox k _ _ => aeH d r (k :: acc)
  | .sv k _ => aeH d r (k :: acc)
  | .yld k => aeH d r (k :: acc)
  | .mp k => aeH d r (k :: acc)
  | .fn _ a b => aeH d r (aeH d b (aeH d a acc))
  | .ag l => aeH d r (aeH d l acc)
  | .tup l => aeH d r (aeH d l acc)
  | _ => aeH d r acc
def aKZ (b : Bk) (acc : List Nat) : List Nat :=
 match b with
 | .vars _ cells => aeH 10000 cells acc
 | .dic _ l => aeH 10000 (l.map (·.2)) acc
 | .loop r => aeH 10000 (r.slots.map (·.2)) acc
 | _ => acc
def aB8 (n1 : Nat) : Heap → List Nat → List Nat
 | [], acc => acc
 | (k, b) :: r, acc => match Nat.blt k n1 with
  | true => aB8 n1 r (aKZ b acc)
  | false => aB8 n1 r acc
def aGa (H : Heap) (n1 : Nat) : Nat → List Nat → List Nat → List Nat
 | 0, _, seen => seen
 | _ + 1, [], seen => seen
 | f + 1, k :: r, seen => match Nat.blt k n1 || aPp seen k with
  | true => aGa H n1 f r seen
  | false => match H.find k with
   | some b => aGa H n1 f (aKZ b r) (k :: seen)
   | none => aGa H n1 f r seen
def aGv (n1 : Nat) : Heap → Nat → Nat
 | [], c => c
 | (k, _) :: r, c => match Nat.blt k n1 with
  | true => aGv n1 r c
  | false => aGv n1 r (Nat.succ c)
def keepP (n1 : Nat) (seen : List Nat) (k : Nat) : Bool := Nat.blt k n1 || aPp seen k
def gcR (n1 : Nat) (σ : St) : St :=
 match Nat.ble 32 (aGv n1 σ.H 0) with
 | true => σ.keepR (keepP n1 (aGa σ.H n1 100000 (aB8 n1 σ.H (aeH 10000 (σ.slots.map (·.2)) [])) []))
 | false => σ
def aJb (n1 : Nat) (f : St → Option (Exit × St)) : Nat → St → Option (Exit × St)
 | 0, _ => none
 | n + 1, σ => match f σ with
  | some (.normal, σ') => aJb n1 f n (gcR n1 σ')
  | r => r
def aNm (f : St → Option (Exit × St)) (n : Nat) (σ : St) : Option (Exit × St) := aJb σ.next f n σ
def aHq (id : Nat) : Option (Exit × St) → Option (Exit × St)
 | some (.exit j, σ) => match Nat.beq j id with
  | true => some (.normal, σ)
  | false => some (.exit j, σ)
 | r => r
def aJ4 : Option (Exit × St) → Option (Exit × St)
 | some (.goto _, _) => none
 | r => r
def aCa (σ : St) (l : Nat) : Option (AV × Heap × Nat) → Option (Exit × St)
 | some x => match amY x.1 with
  | some _ => none
  | none => match x.2.1.find l with
  | some (.loop r) => match r.st, ajE r.pend with
   | .busy, _ => none
   | _, some e => some (e, { slots := abN (abX (x.2.1.up l (.loop { r with st := .exhausted }))) ag1 σ.slots, H := x.2.1.up l (.loop { r with st := .exhausted }), next := x.2.2, n := σ.n })
   | _, none => none
  | _ => none
 | none => none
def ab6 (P : Program) (sig : Sig) (fuel : Nat) (pf : abO) (call : aeN) (rd : Option Nat) : Code → St → Option (Exit × St)
 | .skip, σ => some (.normal, σ)
 | .region _ ops draw, σ => match draw with
  | false => aDI (aAx P sig pf call ops ops.toList σ) (aHX P sig pf call ops ops.toList σ)
  | true => aDI (aLU P sig pf call ops σ) (aJG P sig pf call ops (σ.forDraw (aDe sig) ops.toList))
 | .seq x y, σ => match ab6 P sig fuel pf call rd x σ with
  | some (.normal, σ') => ab6 P sig fuel pf call rd y σ'
  | r => r
 | .cond c x y, σ => match σ.eval c with
  | .d .bool b => match (b : Bool) with
   | true => ab6 P sig fuel pf call rd x σ
   | false => ab6 P sig fuel pf call rd y σ
  | _ => none
 | .block id c, σ => aHq id (ab6 P sig fuel pf call rd c σ)
 | .loop c, σ => aNm (ab6 P sig fuel pf call rd c) fuel σ
 | .exit id, σ => some (.exit id, σ)
 | .ret, σ => some (.ret, σ)
 | .label _, σ => some (.normal, σ)
 | .scope c, σ => aJ4 (ab6 P sig fuel pf call rd c σ)
 | .rangeFunc g ps assign body, σ => match σ.eval g with
  | .fn f first caps => match rd with
   | none => aCa σ σ.next (call (.fn f) (first ++ .yld σ.next :: caps) (σ.lay σ.next ps assign body) (σ.next + 1))
   | some l0 => match σ.H.find l0 with
    | some (.loop _) => aCa σ σ.next (call (.fn f) (first ++ .yld σ.next :: caps) (σ.lay σ.next ps assign body) (σ.next + 1))
    | _ => none
  | _ => none
 | _, _ => none
abbrev aN5 := Array Oper → List Oper → St → Option St
abbrev aHU := Option Nat → Code → St → Option (Exit × St)
def aN0 (σ : St) : Option (Exit × St) → Option (Exit × St)
 | some (.normal, s) => some (.ret, { slots := abN (abX s.H) ag1 σ.slots, H := s.H, next := s.next, n := σ.n })
 | some (.ret, s) => some (.ret, { slots := abN (abX s.H) ag1 σ.slots, H := s.H, next := s.next, n := σ.n })
 | _ => none
def aHk (P : Program) (sq : aN5) (cd : aHU) (g : FuncId) (caps : List AV) (x : AV) (σ : St) : Option (Exit × St) :=
 match aCQ P g with
 | some c => match Nat.ble caps.length c.gn.ntmps with
  | true => match sq c.ops c.rest (({ slots := acW 0 (AV.maps (abX σ.H) ag1 caps), H := σ.H, next := σ.next + 1, n := c.gn.ntmps } : St).put c.o.dst x) with
   | some s => aN0 σ (cd (some σ.next) c.B s)
   | none => none
  | false => none
 | none => none
def aO3 (P : Program) (sq : aN5) (cd : aHU) (g : FuncId) (caps : List AV) : Option (Exit × St) → Option (Exit × St)
 | some (.normal, σ) => aHk P sq cd g caps .nili σ
 | some (.ret, σ) => aHk P sq cd g caps .nili σ
 | some (.panic ch, σ) => match af1 ch with
  | some x => aHk P sq cd g caps x σ
  | none => none
 | _ => none
def aMR (P : Program) (sq : aN5) (cd : aHU) (d : DefB) (σ : St) : Option (Exit × St) :=
 match σ.eval d.f with
 | .fn g first caps => match first with
  | [] => aO3 P sq cd g caps (cd none d.rest (σ.put d.o.dst .und))
  | _ :: _ => none
 | _ => none
def aQl (P : Program) (sq : aN5) (cd : aHU) (d : DefB) (σ : St) : Option (Exit × St) :=
 match sq d.ops0 d.ops0.toList σ with
 | some σ => match sq d.ops1 d.ops1.toList.dropLast σ with
  | some σ => aMR P sq cd d σ
  | none => none
 | none => none
def aL0 (P : Program) (sq : aN5) (cd : aHU) (c : Code) (σ : St) : Option (Exit × St) :=
 match ajH c with
 | some d => aQl P sq cd d σ
 | none => cd none c σ
def aEl (P : Program) (sig : Sig) (fuel : Nat) (pf : abO) (call : aeN) : Code → St → Option (Exit × St) :=
 aL0 P (aAx P sig pf call) (ab6 P sig fuel pf call)
def axE (n : Nat) : List AV → Nat → Bool
 | _, 0 => true
 | [], _ => false
 | .ptr k _ :: r, d + 1 => Nat.ble n k || axE n r d
 | .eptr k _ :: r, d + 1 => Nat.ble n k || axE n r d
 | .own k _ _ :: r, d + 1 => Nat.ble n k || axE n r d
 | .ox k _ _ :: r, d + 1 => Nat.ble n k || axE n r d
 | .sv k _ :: r, d + 1 => Nat.ble n k || axE n r d
 | .yld k :: r, d + 1 => Nat.ble n k || axE n r d
 | .mp k :: r, d + 1 => Nat.ble n k || axE n r d
 | .fn _ a b :: r, d + 1 => axE n a d || axE n b d || axE n r d
 | .ag l :: r, d + 1 => axE n l d || axE n r d
 | .tup l :: r, d + 1 => axE n l d || axE n r d
 | _ :: r, d + 1 => axE n r d
def aCx (n : Nat) : Heap → Bool
 | [] => false
 | (k, b) :: r => (match Nat.ble n k with
  | true => false
  | false => match b with
   | .vars _ cells => axE n cells 10000
   | .dic _ l => axE n (l.map (·.2)) 10000
   | _ => false) || aCx n r
def aqR (n : Nat) (r : AV) (H : Heap) (m : Nat) : AV × Heap × Nat :=
 match axE n [r] 10000 || aCx n H with
 | true => (r, H, m)
 | false => (r.map (fun k => Nat.blt k n) ag1, H.keep (fun k => Nat.blt k n) ag1, n)
def aMQ (P : Program) (fn : Func) : Option (Exit × St) → Option (List AV × St)
 | some (.normal, σ) => match (aHZ P σ fn.results.toList).toO with
  | some l => some (l, σ)
  | none => none
 | some (.ret, σ) => match (aHZ P σ fn.results.toList).toO with
  | some l => some (l, σ)
  | none => none
 | _ => none
def aFj (P : Program) (sig : Sig) (fuel : Nat) (pf : abO) (call : aeN) : abO := fun f A R x =>
 match P.funcs[f]? with
 | some fn => match fn.body with
  | some code => match ac1 P f && Nat.ble (aiF A x).length fn.ntmps with
   | true => match aMQ P fn (aEl P sig fuel pf call code { slots := acW 0 (aiF A x), H := [], next := 0, n := fn.ntmps }) with
    | some (l, σ) => ak9 R (AV.maps (fun _ => false) (aDM σ.H) l)
    | none => none
   | false => none
  | none => none
 | none => none
def aPC (P : Program) (fn : Func) (next : Nat) (x : Option (Exit × St)) : Option (AV × Heap × Nat) :=
 match x with
 | some (.panic ch, σ) => match af1 ch with
  | some y => some (aMi y, σ.H, σ.next)
  | none => none
 | x => match aMQ P fn x with
  | some (l, σ) => match amY (asY l), amY (aqR next (asY l) σ.H σ.next).1 with
   | none, none => some (aqR next (asY l) σ.H σ.next)
   | _, _ => none
  | none => none
def aE2 (l : Nat) : Option (Exit × St) → Option (AV × Heap × Nat)
 | some (e, σ) => match aKQ e with
  | some j => match σ.H.find l with
   | some (.loop r) => some (.d .bool j.isNone, σ.H.up l (.loop { r with st := aoZ j, pend := j }), σ.next)
   | _ => none
  | none => none
 | none => none
def aHs (l : Nat) (X : St → Option (Exit × St)) : Option (Exit × St) → Option (Exit × St)
 | some (.normal, σ) => match σ.H.find l with
  | some (.loop r) => match r.st with
   | .ready => X { σ with H := σ.H.up l (.loop { r with st := .busy }) }
   | _ => none
  | _ => none
 | _ => none
def arJ (P : Program) (sig : Sig) (fuel : Nat) (pf : abO) (call : aeN) : aeN := fun t args H next =>
 match t with
 | .fn f => match P.funcs[f]? with
  | some fn => match fn.body with
   | some code => match ac1 P f && Nat.ble args.length fn.ntmps with
    | true => aPC P fn next (aEl P sig fuel pf call code { slots := acW 0 args, H := H, next := next, n := fn.ntmps })
    | false => none
   | none => none
  | none => none
 | .yld l => match H.find l with
  | some (.loop r) => match Nat.beq args.length r.ps.size with
   | true => aE2 l (aHs l (ab6 P sig fuel pf call (some l) r.body) (ab6 P sig fuel pf call (some l) r.assign (anH { slots := r.slots, H := H, next := next, n := r.n } r.ps.toList args)))
   | false => none
  | _ => none
def aj5 (ext pf : abO) : abO := fun f A R x => match ext f A R x with
 | some y => some y
 | none => pf f A R x
mutual
def ax7 (P : Program) (sig : Sig) (fuel : Nat) (ext : abO) : Nat → abO
 | 0 => ext
 | d + 1 => aj5 ext (aFj P sig fuel (ax7 P sig fuel ext d) (an9 P sig fuel ext d))
def an9 (P : Program) (sig : Sig) (fuel : Nat) (ext : abO) : Nat → aeN
 | 0 => fun _ _ _ _ => none
 | d + 1 => arJ P sig fuel (ax7 P sig fuel ext d) (an9 P sig fuel ext d)
end
def agC : Nat → Nat → List UInt8 → List UInt8
 | 0, _, acc => acc
 | f + 1, n, acc => match Nat.ble n 9 with
  | true => UInt8.ofNat (48 + n) :: acc
  | false => agC f (n / 10) (UInt8.ofNat (48 + n % 10) :: acc)
def aJj : Int → List UInt8
 | .ofNat n => agC 25 n []
 | .negSucc n => 45 :: agC 25 (n + 1) []
def aOv (l : List UInt8) : Nat → List UInt8
 | 0 => []
 | n + 1 => l ++ aOv l n
def aLf (l : List UInt8) (n : Int) : Bool := decide (0 ≤ n) && decide (n ≤ 100000) && Nat.ble l.length 1000
def aMS (l : List UInt8) (n : Int) : List UInt8 := aOv l n.toNat
def aGS : (A R : Ty) → A.T → Option R.T
 | .pair (.int .i64) .unit, .pair .str .unit, x => some (aJj x.1, ())
 | _, _, _ => none
def azI : (A R : Ty) → A.T → Option R.T
 | .pair .str (.pair (.int .i64) .unit), .pair .str .unit, x => match aLf x.1 x.2.1 with
  | true => some (aMS x.1 x.2.1, ())
  | false => none
 | _, _, _ => none
def aGR (fi fr : Nat) : abO := fun f A R x => match Nat.beq f fi with
 | true => aGS A R x
 | false => match Nat.beq f fr with
  | true => azI A R x
  | false => none
end Go.Vg
