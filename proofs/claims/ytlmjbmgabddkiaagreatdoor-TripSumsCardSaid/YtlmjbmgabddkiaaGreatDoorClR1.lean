/-
  A runner over the evaluator, and calls that have been run. Own work; no condition.
-/
import Derived.Test.YtlmjbmgabddkiaaGreatDoorClE5
set_option linter.unusedVariables false
set_option linter.unusedSimpArgs false
namespace Go.Vg
open Go Go.RowKit
abbrev abI := Nat → (A R : Ty) → A.T → Option R.T
abbrev ae3 := Tgt → List AV → Heap → Nat → Option (AV × Heap × Nat)
abbrev Sig := List (Nat × (Ty × Ty))
def Sig.find : Sig → Nat → Option (Ty × Ty)
 | [], _ => none
 | (g, c) :: r, f => match Nat.beq g f with | true => some c | false => Sig.find r f
def evR (P : Program) (sig : Sig) (pf : abI) (K : Nat) (H : Heap) (arg : Operand → AV) (o : Oper) : Option (AV × List (Nat × Bk)) :=
 match o.op with
 | .call { callee := .value f, args, .. } => match arg f with
  | .fn g first caps => match sig.find g with
   | some c => match noSl c.2 || !(aoT (first ++ args.toList.map arg ++ caps)) with
    | true => match ag4 H c.1 (first ++ args.toList.map arg ++ caps) with
     | some x => match pf g c.1 c.2 x with
      | some y => some (as0 (aCn c.2 y), [])
      | none => none
     | none => none
    | false => none
   | none => none
  | _ => none
 | _ => (evM P [] K H arg o).toO
def aHa (σ : St) (dst : Option Nat) : Option (AV × List (Nat × Bk)) → Option St
 | some x => some (σ.grow dst x.1 x.2)
 | none => none
def aOp (σ : St) (dst : Option Nat) : Option (AV × Heap × Nat) → Option St
 | some x => match anC x.1 with
  | none => some (({ slots := abD (abX x.2.1) ag2 σ.slots, H := x.2.1, next := x.2.2, n := σ.n } : St).put dst x.1)
  | some _ => none
 | none => none
def aOP (σ : St) : Option (AV × Heap × Nat) → Option (List PanicEntry × St)
 | some x => match anC x.1 with
  | some y => match aiV y with
   | some ch => some (ch, { slots := abD (abX x.2.1) ag2 σ.slots, H := x.2.1, next := x.2.2, n := σ.n })
   | none => none
  | none => none
 | none => none
def afM (P : Program) (sig : Sig) (pf : abI) (o : Oper) (σ : St) : Option St := aHa σ o.dst (evR P sig pf σ.next σ.H σ.eval o)
def aF7 (P : Program) (o : Oper) (σ : St) (t : TypeId) (a x : Operand) : Option St :=
 match (aAI P σ t a x).toO with
 | some σ' => some (σ'.put o.dst .und)
 | none => none
def ayR (P : Program) (sig : Sig) (pf : abI) (o : Oper) (σ : St) (b : Builtin) (args : List Operand) (ts : List TypeId) : Option St :=
 match ar5 P σ o.dst b args ts with
 | some r => r.toO
 | none => afM P sig pf o σ
def aNJ (P : Program) (sig : Sig) (pf : abI) (o : Oper) (σ : St) (args : List Operand) (R : Ty) : Option St :=
 match !(noSl R) || aB5 (args.map σ.eval) with
 | true => aHa (σ.thaws (ab9 (args.map σ.eval))) o.dst (evR P sig pf σ.next (σ.thaws (ab9 (args.map σ.eval))).H (σ.thaws (ab9 (args.map σ.eval))).eval o)
 | false => afM P sig pf o σ
def aGb (P : Program) (call : ae3) (o : Oper) (σ : St) (args : List Operand) (g : Nat) (first caps : List AV) : Option St :=
 match aGO P g with
 | true => match args, first, caps with
  | [x], [], [] => some (σ.put o.dst (σ.eval x))
  | _, _, _ => none
 | false => aOp σ o.dst (call (.fn g) (first ++ args.map σ.eval ++ caps) σ.H σ.next)
def aO7 (P : Program) (sig : Sig) (pf : abI) (call : ae3) (o : Oper) (σ : St) (args : List Operand) (g : Nat) (first caps : List AV) : Option St :=
 match sig.find g with
 | some c => aNJ P sig pf o σ args c.2
 | none => aGb P call o σ args g first caps
def aF6 (P : Program) (sig : Sig) (pf : abI) (call : ae3) (o : Oper) (σ : St) (f : Operand) (args : List Operand) : Option St :=
 match σ.eval f with
 | .fn g first caps => aO7 P sig pf call o σ args g first caps
 | .yld l => aOp σ o.dst (call (.yld l) (args.map σ.eval) σ.H σ.next)
 | _ => none
def aJq (P : Program) (o : Oper) (σ : St) (t : TypeId) (m i x : Operand) : Option St :=
 match (aGU P σ t (σ.eval m) (σ.eval i) (σ.eval x)).toO with
 | some σ' => some (σ'.put o.dst .und)
 | none => none
def opR (P : Program) (sig : Sig) (pf : abI) (call : ae3) (o : Oper) (σ : St) : Option St :=
 match o.op with
 | .store t a x => aF7 P o σ t a x
 | .buildSlice _ _ ps => afM P sig pf o (σ.freed (.ag (ps.toList.map fun x => σ.eval x.2)))
 | .call { callee := .builtin b, args, argTypes } => ayR P sig pf o σ b args.toList argTypes.toList
 | .call { callee := .value f, args, .. } => aF6 P sig pf call o σ f args.toList
 | .slice _ y _ _ (some _) => afM P sig pf o (σ.freed (σ.eval y))
 | .mapUpdate t m i x => aJq P o σ t m i x
 | .insert t m i x => aJq P o σ t m i x
 | _ => afM P sig pf o σ
def opP (P : Program) (sig : Sig) (call : ae3) (o : Oper) (σ : St) : Option (List PanicEntry × St) :=
 match o.op with
 | .panic x => match aiV (σ.eval x) with
  | some ch => some (ch, σ)
  | none => none
 | .call { callee := .value f, args, .. } => match σ.eval f with
  | .fn g first caps => match sig.find g with
   | some _ => none
   | none => match aGO P g with
    | true => none
    | false => aOP σ (call (.fn g) (first ++ args.toList.map σ.eval ++ caps) σ.H σ.next)
  | _ => none
 | _ => none
def asZ (x y : Bool) : Bool := x == y
def aAN (P : Program) (sig : Sig) (pf : abI) (call : ae3) (ops : Array Oper) : List Oper → St → Option St
 | [], σ => some σ
 | o :: rest, σ => match o.guard with
  | none => match opR P sig pf call o σ with
   | some σ' => aAN P sig pf call ops rest σ'
   | none => none
  | some (j, want) => match abK ops j with
   | some t => match adO σ.slots t with
    | .d .bool x => match asZ x want with
     | true => match opR P sig pf call o (σ.put (some t) (.d .bool x)) with
      | some σ' => aAN P sig pf call ops rest σ'
      | none => none
     | false => aAN P sig pf call ops rest ((σ.put (some t) (.d .bool x)).put o.dst .und)
    | .und => aAN P sig pf call ops rest (σ.put o.dst .und)
    | _ => none
   | none => none
def aIG (P : Program) (sig : Sig) (pf : abI) (call : ae3) (ops : Array Oper) : List Oper → St → Option (List PanicEntry × St)
 | [], _ => none
 | o :: rest, σ => match o.guard with
  | none => match opR P sig pf call o σ with
   | some σ' => aIG P sig pf call ops rest σ'
   | none => opP P sig call o σ
  | some (j, want) => match abK ops j with
   | some t => match adO σ.slots t with
    | .d .bool x => match asZ x want with
     | true => match opR P sig pf call o (σ.put (some t) (.d .bool x)) with
      | some σ' => aIG P sig pf call ops rest σ'
      | none => opP P sig call o (σ.put (some t) (.d .bool x))
     | false => aIG P sig pf call ops rest ((σ.put (some t) (.d .bool x)).put o.dst .und)
    | .und => aIG P sig pf call ops rest (σ.put o.dst .und)
    | _ => none
   | none => none
def aOv (P : Program) (sig : Sig) (pf : abI) (sk : List (Nat × Nat)) (Hs : Heap) (K : Nat) (H0 : Heap) (arg : Operand → AV) (o : Oper) : Option Out :=
 match o.op with
 | .store t a x => match asY sk K with
  | some k => match (stB P Hs k t (arg a) (arg x)).toO with
   | some b => some (.st k b)
   | none => none
  | none => none
 | _ => match aiE sk K with
  | false => match evR P sig pf K H0 arg o with
   | some x => some (.ran x.1 x.2)
   | none => none
  | true => match o.op with
   | .alloc e => match acF P e with
    | some _ => some (.ran (.ptr K 0) [(K, .any)])
    | none => none
   | _ => none
def aLj (P : Program) (sig : Sig) (pf : abI) (ops : Array Oper) (sk : List (Nat × Nat)) (Hs : Heap) (H0 : Nat → Heap → Heap) : List Oper → Nat → St → List (Nat × Bk) → Option (St × List (Nat × Bk))
 | [], _, σ, s => some (σ, s)
 | o :: rest, K, σ, s => match o.guard with
  | none => match aOv P sig pf sk Hs K (H0 K σ.H) σ.eval o with
   | some u => aLj P sig pf ops sk Hs H0 rest (K + 1) (σ.step o u) (u.sts ++ s)
   | none => none
  | some (j, want) => match abK ops j with
   | some t => match adO σ.slots t with
    | .d .bool x => match asZ x want with
     | true => match aOv P sig pf sk Hs K (H0 K σ.H) (σ.put (some t) (.d .bool x)).eval o with
      | some u => aLj P sig pf ops sk Hs H0 rest (K + 1) ((σ.put (some t) (.d .bool x)).step o u) (u.sts ++ s)
      | none => none
     | false => aLj P sig pf ops sk Hs H0 rest (K + 1) ((σ.put (some t) (.d .bool x)).step o .skip) s
    | .und => aLj P sig pf ops sk Hs H0 rest (K + 1) (σ.step o .skip) s
    | _ => none
   | none => none
structure Plan where
 ok : Bool
 m : Nat
 pre : List Oper
 rest : List Oper
def aCw (ops : Array Oper) : Plan :=
 let l := ops.toList
 let ms := ac2 l []
 let m := ac1 ms
 { ok := ar3 ops (l.take m) (l.take m) 0 && ad2 l 0 && ak2 m ms 0 && Nat.ble m l.length, m := m, pre := l.take m, rest := l.drop m }
def aFu (sig : Sig) (g : Nat) : Bool :=
 match sig.find g with
 | some c => !(noSl c.2)
 | none => false
def aMH (P : Program) (sig : Sig) (pf : abI) (call : ae3) (ops : Array Oper) (σ : St) : Option St :=
 match aCw ops with
 | ⟨ok, m, pre, rest⟩ => match ok with
  | true => match aLT σ pre σ.next (acQ P pre σ.next ++ σ.H) pre σ.next with
   | some sk => match alX (sk.map (·.2)) && ak3 pre σ.next sk with
    | true => match aLj P sig pf ops sk (acQ P pre σ.next ++ σ.H) (aBl pre σ.next sk (acQ P pre σ.next ++ σ.H) (aAD sk σ.H)) pre σ.next { σ with H := aAD sk σ.H, next := σ.next + m } [] with
     | some x => aAN P sig pf call ops rest (ah7 (acQ P pre σ.next ++ σ.H) sk x)
     | none => none
    | false => none
   | none => none
  | false => none
def aKs (P : Program) (sig : Sig) (pf : abI) (call : ae3) (ops : Array Oper) (σ : St) : Option (List PanicEntry × St) :=
 match aCw ops with
 | ⟨ok, m, pre, rest⟩ => match ok with
  | true => match aLT σ pre σ.next (acQ P pre σ.next ++ σ.H) pre σ.next with
   | some sk => match alX (sk.map (·.2)) && ak3 pre σ.next sk with
    | true => match aLj P sig pf ops sk (acQ P pre σ.next ++ σ.H) (aBl pre σ.next sk (acQ P pre σ.next ++ σ.H) (aAD sk σ.H)) pre σ.next { σ with H := aAD sk σ.H, next := σ.next + m } [] with
     | some x => aIG P sig pf call ops rest (ah7 (acQ P pre σ.next ++ σ.H) sk x)
     | none => none
    | false => none
   | none => none
  | false => none
def aCb (f : Nat → Oper → List (Nat × St) → Option (List (Nat × St))) : List Oper → Nat → List (Nat × St) → Option (List (Nat × St))
 | [], _, acc => some acc
 | o :: r, i, acc => match f i o acc with
  | some acc => aCb f r (i + 1) acc
  | none => none
def aKc : List (Nat × St) → Nat → Option St
 | [], _ => none
 | (k, s) :: r, m => match Nat.beq k m with
  | true => some s
  | false => aKc r m
def aNS : Nat → Nat → Nat → List (Nat × Nat)
 | 0, _, _ => []
 | m + 1, n, c => (n, c) :: aNS m (n + 1) (c + 1)
def aLC (b size k i n : Nat) (σ' : St) : St := ((σ'.rekeysK b (aNS (σ'.next - n) n (b + size + 1 + i * 100))).sort (size - k) (b + size)).raise (b + (size + 2) * 100 + (size - k) * 100)
def aOz (acc : List (Nat × St)) (m : Nat) (σ : St) : Option (List (Nat × St)) :=
 match aKc acc m with
 | some s => match stE σ s with
  | true => some acc
  | false => none
 | none => some ((m, σ) :: acc)
def aNK (P : Program) (sig : Sig) (pf : abI) (call : ae3) (ops : Array Oper) (b size k m : Nat) (σ : St) (i : Nat) (o : Oper) (acc : List (Nat × St)) : Option (List (Nat × St)) :=
 match Nat.testBit m i with
 | true => some acc
 | false => match akX m o.after.toList with
  | true => match aAN P sig pf call ops [o] σ with
   | some σ' => match Nat.ble σ'.next (aLC b size k i σ.next σ').next with
    | true => aOz acc (m ||| 2 ^ i) (aLC b size k i σ.next σ')
    | false => none
   | none => none
  | false => some acc
def aCK (P : Program) (sig : Sig) (pf : abI) (call : ae3) (ops : Array Oper) (b size k : Nat) : List (Nat × St) → List (Nat × St) → Option (List (Nat × St))
 | [], acc => some acc
 | x :: r, acc => match aCb (aNK P sig pf call ops b size k x.1 x.2) ops.toList 0 acc with
  | some acc => aCK P sig pf call ops b size k r acc
  | none => none
def aOe (P : Program) (sig : Sig) (pf : abI) (call : ae3) (ops : Array Oper) (b size : Nat) : Nat → List (Nat × St) → Option St
 | 0, l => match l with
  | [x] => some x.2
  | _ => none
 | n + 1, l => match aCK P sig pf call ops b size n l [] with
  | some l' => aOe P sig pf call ops b size n l'
  | none => none
def aO2 (P : Program) (sig : Sig) (pf : abI) (call : ae3) (ops : Array Oper) (σ : St) : Option St :=
 match ad2 ops.toList 0 with
 | true => aOe P sig pf call ops σ.next ops.size ops.size [(0, σ)]
 | false => none
def aMG (P : Program) (sig : Sig) (pf : abI) (call : ae3) (ops : Array Oper) (σ : St) : Option St :=
 match aMH P sig pf call ops (σ.forDraw (aFu sig) ops.toList) with
 | some s => some s
 | none => aO2 P sig pf call ops σ
def aD9 (a : Option St) (b : Option (List PanicEntry × St)) : Option (Exit × St) :=
 match a with
 | some σ => some (.normal, σ)
 | none => match b with
  | some x => some (.panic x.1, x.2)
  | none => none
def aGY (f : St → Option (Exit × St)) : Nat → St → Option (Exit × St)
 | 0, _ => none
 | n + 1, σ => match f σ with
  | some (.normal, σ') => aGY f n σ'
  | r => r
def aH7 (id : Nat) : Option (Exit × St) → Option (Exit × St)
 | some (.exit j, σ) => match Nat.beq j id with
  | true => some (.normal, σ)
  | false => some (.exit j, σ)
 | r => r
def aKO : Option (Exit × St) → Option (Exit × St)
 | some (.goto _, _) => none
 | r => r
def aCp (σ : St) (l : Nat) : Option (AV × Heap × Nat) → Option (Exit × St)
 | some x => match anC x.1 with
  | some _ => none
  | none => match x.2.1.find l with
  | some (.loop r) => match r.st, ajG r.pend with
   | .busy, _ => none
   | _, some e => some (e, { slots := abD (abX (x.2.1.up l (.loop { r with st := .exhausted }))) ag2 σ.slots, H := x.2.1.up l (.loop { r with st := .exhausted }), next := x.2.2, n := σ.n })
   | _, none => none
  | _ => none
 | none => none
def ab1 (P : Program) (sig : Sig) (fuel : Nat) (pf : abI) (call : ae3) (rd : Option Nat) : Code → St → Option (Exit × St)
 | .skip, σ => some (.normal, σ)
 | .region _ ops draw, σ => match draw with
  | false => aD9 (aAN P sig pf call ops ops.toList σ) (aIG P sig pf call ops ops.toList σ)
  | true => aD9 (aMG P sig pf call ops σ) (aKs P sig pf call ops (σ.forDraw (aFu sig) ops.toList))
 | .seq x y, σ => match ab1 P sig fuel pf call rd x σ with
  | some (.normal, σ') => ab1 P sig fuel pf call rd y σ'
  | r => r
 | .cond c x y, σ => match σ.eval c with
  | .d .bool b => match (b : Bool) with
   | true => ab1 P sig fuel pf call rd x σ
   | false => ab1 P sig fuel pf call rd y σ
  | _ => none
 | .block id c, σ => aH7 id (ab1 P sig fuel pf call rd c σ)
 | .loop c, σ => aGY (ab1 P sig fuel pf call rd c) fuel σ
 | .exit id, σ => some (.exit id, σ)
 | .ret, σ => some (.ret, σ)
 | .label _, σ => some (.normal, σ)
 | .scope c, σ => aKO (ab1 P sig fuel pf call rd c σ)
 | .rangeFunc g ps assign body, σ => match σ.eval g with
  | .fn f first caps => match rd with
   | none => aCp σ σ.next (call (.fn f) (first ++ .yld σ.next :: caps) (σ.lay σ.next ps assign body) (σ.next + 1))
   | some l0 => match σ.H.find l0 with
    | some (.loop _) => aCp σ σ.next (call (.fn f) (first ++ .yld σ.next :: caps) (σ.lay σ.next ps assign body) (σ.next + 1))
    | _ => none
  | _ => none
 | _, _ => none
abbrev aOh := Array Oper → List Oper → St → Option St
abbrev aIC := Option Nat → Code → St → Option (Exit × St)
def aOd (σ : St) : Option (Exit × St) → Option (Exit × St)
 | some (.normal, s) => some (.ret, { slots := abD (abX s.H) ag2 σ.slots, H := s.H, next := s.next, n := σ.n })
 | some (.ret, s) => some (.ret, { slots := abD (abX s.H) ag2 σ.slots, H := s.H, next := s.next, n := σ.n })
 | _ => none
def aH0 (P : Program) (sq : aOh) (cd : aIC) (g : FuncId) (caps : List AV) (x : AV) (σ : St) : Option (Exit × St) :=
 match aC6 P g with
 | some c => match Nat.ble caps.length c.gn.ntmps with
  | true => match sq c.ops c.rest (({ slots := acK 0 (AV.maps (abX σ.H) ag2 caps), H := σ.H, next := σ.next + 1, n := c.gn.ntmps } : St).put c.o.dst x) with
   | some s => aOd σ (cd (some σ.next) c.B s)
   | none => none
  | false => none
 | none => none
def aOC (P : Program) (sq : aOh) (cd : aIC) (g : FuncId) (caps : List AV) : Option (Exit × St) → Option (Exit × St)
 | some (.normal, σ) => aH0 P sq cd g caps .nili σ
 | some (.ret, σ) => aH0 P sq cd g caps .nili σ
 | some (.panic ch, σ) => match af2 ch with
  | some x => aH0 P sq cd g caps x σ
  | none => none
 | _ => none
def aNn (P : Program) (sq : aOh) (cd : aIC) (d : DefB) (σ : St) : Option (Exit × St) :=
 match σ.eval d.f with
 | .fn g first caps => match first with
  | [] => aOC P sq cd g caps (cd none d.rest (σ.put d.o.dst .und))
  | _ :: _ => none
 | _ => none
def aPb (P : Program) (sq : aOh) (cd : aIC) (d : DefB) (σ : St) : Option (Exit × St) :=
 match sq d.ops0 d.ops0.toList σ with
 | some σ => match sq d.ops1 d.ops1.toList.dropLast σ with
  | some σ => aNn P sq cd d σ
  | none => none
 | none => none
def aMN (P : Program) (sq : aOh) (cd : aIC) (c : Code) (σ : St) : Option (Exit × St) :=
 match ajJ c with
 | some d => aPb P sq cd d σ
 | none => cd none c σ
def aEN (P : Program) (sig : Sig) (fuel : Nat) (pf : abI) (call : ae3) : Code → St → Option (Exit × St) :=
 aMN P (aAN P sig pf call) (ab1 P sig fuel pf call)
def axM (n : Nat) : List AV → Nat → Bool
 | _, 0 => true
 | [], _ => false
 | .ptr k _ :: r, d + 1 => Nat.ble n k || axM n r d
 | .eptr k _ :: r, d + 1 => Nat.ble n k || axM n r d
 | .own k _ _ :: r, d + 1 => Nat.ble n k || axM n r d
 | .ox k _ _ :: r, d + 1 => Nat.ble n k || axM n r d
 | .sv k _ :: r, d + 1 => Nat.ble n k || axM n r d
 | .yld k :: r, d + 1 => Nat.ble n k || axM n r d
 | .mp k :: r, d + 1 => Nat.ble n k || axM n r d
 | .fn _ a b :: r, d + 1 => axM n a d || axM n b d || axM n r d
 | .ag l :: r, d + 1 => axM n l d || axM n r d
 | .tup l :: r, d + 1 => axM n l d || axM n r d
 | _ :: r, d + 1 => axM n r d
def aCQ (n : Nat) : Heap → Bool
 | [] => false
 | (k, b) :: r => (match Nat.ble n k with
  | true => false
  | false => match b with
   | .vars _ cells => axM n cells 10000
   | .dic _ l => axM n (l.map (·.2)) 10000
   | _ => false) || aCQ n r
def aqZ (n : Nat) (r : AV) (H : Heap) (m : Nat) : AV × Heap × Nat :=
 match axM n [r] 10000 || aCQ n H with
 | true => (r, H, m)
 | false => (r.map (fun k => Nat.blt k n) ag2, H.keep (fun k => Nat.blt k n) ag2, n)
def aNm (P : Program) (fn : Func) : Option (Exit × St) → Option (List AV × St)
 | some (.normal, σ) => match (aIJ P σ fn.results.toList).toO with
  | some l => some (l, σ)
  | none => none
 | some (.ret, σ) => match (aIJ P σ fn.results.toList).toO with
  | some l => some (l, σ)
  | none => none
 | _ => none
def aFZ (P : Program) (sig : Sig) (fuel : Nat) (pf : abI) (call : ae3) : abI := fun f A R x =>
 match P.funcs[f]? with
 | some fn => match fn.body with
  | some code => match acO P f && Nat.ble (aiW A x).length fn.ntmps with
   | true => match aNm P fn (aEN P sig fuel pf call code { slots := acK 0 (aiW A x), H := [], next := 0, n := fn.ntmps }) with
    | some (l, σ) => alG R (AV.maps (fun _ => false) (aEe σ.H) l)
    | none => none
   | false => none
  | none => none
 | none => none
def aOZ (P : Program) (fn : Func) (next : Nat) (x : Option (Exit × St)) : Option (AV × Heap × Nat) :=
 match x with
 | some (.panic ch, σ) => match af2 ch with
  | some y => some (aMZ y, σ.H, σ.next)
  | none => none
 | x => match aNm P fn x with
  | some (l, σ) => match anC (as0 l), anC (aqZ next (as0 l) σ.H σ.next).1 with
   | none, none => some (aqZ next (as0 l) σ.H σ.next)
   | _, _ => none
  | none => none
def aFA (l : Nat) : Option (Exit × St) → Option (AV × Heap × Nat)
 | some (e, σ) => match aLu e with
  | some j => match σ.H.find l with
   | some (.loop r) => some (.d .bool j.isNone, σ.H.up l (.loop { r with st := ao6 j, pend := j }), σ.next)
   | _ => none
  | none => none
 | none => none
def aH9 (l : Nat) (X : St → Option (Exit × St)) : Option (Exit × St) → Option (Exit × St)
 | some (.normal, σ) => match σ.H.find l with
  | some (.loop r) => match r.st with
   | .ready => X { σ with H := σ.H.up l (.loop { r with st := .busy }) }
   | _ => none
  | _ => none
 | _ => none
def arQ (P : Program) (sig : Sig) (fuel : Nat) (pf : abI) (call : ae3) : ae3 := fun t args H next =>
 match t with
 | .fn f => match P.funcs[f]? with
  | some fn => match fn.body with
   | some code => match acO P f && Nat.ble args.length fn.ntmps with
    | true => aOZ P fn next (aEN P sig fuel pf call code { slots := acK 0 args, H := H, next := next, n := fn.ntmps })
    | false => none
   | none => none
  | none => none
 | .yld l => match H.find l with
  | some (.loop r) => match Nat.beq args.length r.ps.size with
   | true => aFA l (aH9 l (ab1 P sig fuel pf call (some l) r.body) (ab1 P sig fuel pf call (some l) r.assign (anW { slots := r.slots, H := H, next := next, n := r.n } r.ps.toList args)))
   | false => none
  | _ => none
def aiR (ext pf : abI) : abI := fun f A R x => match ext f A R x with
 | some y => some y
 | none => pf f A R x
mutual
def ayO (P : Program) (sig : Sig) (fuel : Nat) (ext : abI) : Nat → abI
 | 0 => ext
 | d + 1 => aiR ext (aFZ P sig fuel (ayO P sig fuel ext d) (aoO P sig fuel ext d))
def aoO (P : Program) (sig : Sig) (fuel : Nat) (ext : abI) : Nat → ae3
 | 0 => fun _ _ _ _ => none
 | d + 1 => arQ P sig fuel (ayO P sig fuel ext d) (aoO P sig fuel ext d)
end
def agC : Nat → Nat → List UInt8 → List UInt8
 | 0, _, acc => acc
 | f + 1, n, acc => match Nat.ble n 9 with
  | true => UInt8.ofNat (48 + n) :: acc
  | false => agC f (n / 10) (UInt8.ofNat (48 + n % 10) :: acc)
def aJ5 : Int → List UInt8
 | .ofNat n => agC 25 n []
 | .negSucc n => 45 :: agC 25 (n + 1) []
def aOo (l : List UInt8) : Nat → List UInt8
 | 0 => []
 | n + 1 => l ++ aOo l n
def aLZ (l : List UInt8) (n : Int) : Bool := decide (0 ≤ n) && decide (n ≤ 100000) && Nat.ble l.length 1000
def aNo (l : List UInt8) (n : Int) : List UInt8 := aOo l n.toNat
def aHz : (A R : Ty) → A.T → Option R.T
 | .pair (.int .i64) .unit, .pair .str .unit, x => some (aJ5 x.1, ())
 | _, _, _ => none
def az3 : (A R : Ty) → A.T → Option R.T
 | .pair .str (.pair (.int .i64) .unit), .pair .str .unit, x => match aLZ x.1 x.2.1 with
  | true => some (aNo x.1 x.2.1, ())
  | false => none
 | _, _, _ => none
def aCX (fi fr : Nat) : abI := fun f A R x => match Nat.beq f fi with
 | true => aHz A R x
 | false => match Nat.beq f fr with
  | true => az3 A R x
  | false => none
def aJ3 (sep : List UInt8) : List (List UInt8) → List UInt8
 | [] => []
 | x :: r => sep ++ (x ++ aJ3 sep r)
def aEl (sep : List UInt8) : List (List UInt8) → List UInt8
 | [] => []
 | x :: r => x ++ aJ3 sep r
def aG2 (sep : List UInt8) (l : List (List UInt8)) : Bool := Nat.ble 1 l.length && (Nat.ble l.length 1000 && Nat.ble (aEl sep l).length 1000000)
def aHy : (A R : Ty) → A.T → Option R.T
 | .pair (.sl .str) (.pair .str .unit), .pair .str .unit, x => match aG2 x.2.1 x.1 with
  | true => some (aEl x.2.1 x.1, ())
  | false => none
 | _, _, _ => none
def aBI (fi fr fj : Nat) : abI := fun f A R x => match Nat.beq f fj with
 | true => aHy A R x
 | false => aCX fi fr f A R x
end Go.Vg
