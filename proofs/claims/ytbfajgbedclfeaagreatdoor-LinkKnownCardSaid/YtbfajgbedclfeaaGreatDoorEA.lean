/-
  The engine, parts A B C D E F G H I. Own work; no condition.
-/
import Derived.Calls
import Derived.Orders
import Derived.Below
import Derived.Laws.CopyRow
import Derived.KernelRfl
import Derived.WideKeyPair
import Derived.ChangeKeysEq
namespace Go.Vg
open Go Go.RowKit

/-- The types of plain data. -/
inductive Ty where
  | int (k : IntKind)
  | bool
  | str
  | unit
  | pair (t u : Ty)
  | arr (n : Nat) (t : Ty)
  | sl (t : Ty)

/-- What a datum of a type is. A struct is a pair of its first field and the rest, ending in 'unit'. -/
def Ty.T : Ty → Type
  | .int _ => Int
  | .bool => Bool
  | .str => List UInt8
  | .unit => Unit
  | .pair t u => t.T × u.T
  | .arr _ t => List t.T
  | .sl t => List t.T

def Ty.dec : (t u : Ty) → Decidable (t = u)
  | .int k, .int j => if h : k = j then isTrue (h ▸ rfl) else isFalse (fun e => h (by injection e))
  | .bool, .bool => isTrue rfl
  | .str, .str => isTrue rfl
  | .unit, .unit => isTrue rfl
  | .pair t u, .pair t' u' => match t.dec t', u.dec u' with
    | isTrue h, isTrue h' => isTrue (h ▸ h' ▸ rfl)
    | isFalse h, _ => isFalse (fun e => h (by injection e))
    | _, isFalse h => isFalse (fun e => h (by injection e))
  | .arr n t, .arr m u => match t.dec u with
    | isTrue h => if e : n = m then isTrue (h ▸ e ▸ rfl) else isFalse (fun x => e (by injection x))
    | isFalse h => isFalse (fun e => h (by injection e))
  | .sl t, .sl u => match t.dec u with
    | isTrue h => isTrue (h ▸ rfl)
    | isFalse h => isFalse (fun e => h (by injection e))
  | .int _, .bool | .int _, .str | .int _, .unit | .int _, .pair _ _ | .int _, .arr _ _ | .int _, .sl _ => isFalse (fun e => by cases e)
  | .bool, .int _ | .bool, .str | .bool, .unit | .bool, .pair _ _ | .bool, .arr _ _ | .bool, .sl _ => isFalse (fun e => by cases e)
  | .str, .int _ | .str, .bool | .str, .unit | .str, .pair _ _ | .str, .arr _ _ | .str, .sl _ => isFalse (fun e => by cases e)
  | .unit, .int _ | .unit, .bool | .unit, .str | .unit, .pair _ _ | .unit, .arr _ _ | .unit, .sl _ => isFalse (fun e => by cases e)
  | .pair _ _, .int _ | .pair _ _, .bool | .pair _ _, .str | .pair _ _, .unit | .pair _ _, .arr _ _ | .pair _ _, .sl _ => isFalse (fun e => by cases e)
  | .arr _ _, .int _ | .arr _ _, .bool | .arr _ _, .str | .arr _ _, .unit | .arr _ _, .pair _ _ | .arr _ _, .sl _ => isFalse (fun e => by cases e)
  | .sl _, .int _ | .sl _, .bool | .sl _, .str | .sl _, .unit | .sl _, .pair _ _ | .sl _, .arr _ _ => isFalse (fun e => by cases e)

instance : DecidableEq Ty := Ty.dec

/-- A datum of one type seen as one of another, if the two are one. -/
def Ty.as (t u : Ty) (x : t.T) : Option u.T := if h : t = u then some (h ▸ x) else none

theorem Ty.as_some {t u : Ty} {x : t.T} {y : u.T} (h : t.as u x = some y) : ∃ e : t = u, e ▸ x = y := by
  unfold Ty.as at h
  split at h
  · rename_i e; subst e; exact ⟨rfl, by simpa using h⟩
  · cases h

/-- How many cells a datum takes. -/
def Ty.size : Ty → Nat
  | .int _ | .bool | .str | .sl _ => 1
  | .unit => 0
  | .pair t u => t.size + u.size
  | .arr n t => n * t.size

/-- Structs and arrays are made of cells. -/
def Ty.agg : Ty → Bool
  | .unit | .pair _ _ | .arr _ _ => true
  | _ => false

def Ty.dflt : (t : Ty) → t.T
  | .int _ => (0 : Int)
  | .bool => false
  | .str => ([] : List UInt8)
  | .unit => ()
  | .pair t u => (t.dflt, u.dflt)
  | .arr n t => List.replicate n t.dflt
  | .sl _ => []

/-- A list of data, one behind the other. -/
def RdL {α : Type} (R : α → List Value → Prop) : List α → List Value → Prop
  | [], cs => cs = []
  | x :: xs, cs => ∃ c1 c2, cs = c1 ++ c2 ∧ R x c1 ∧ RdL R xs c2

/-- The greatest length of a slice or a string of which these proofs speak. -/
def lim : Nat := 140737488355328

/-- The cells cs hold the datum x; 'ok': in which blocks the elements of slices may lie. -/
def Rd (ok : Nat → Prop) (w : World) : (t : Ty) → t.T → List Value → Prop
  | .int k, (x : Int), cs => cs = [.int k x] ∧ k.min ≤ x ∧ x ≤ k.max
  | .bool, (x : Bool), cs => cs = [.bool x]
  | .str, (x : List UInt8), cs => cs = [.string ⟨⟨x⟩⟩] ∧ x.length ≤ lim
  | .unit, _, cs => cs = []
  | .pair t u, x, cs => ∃ c1 c2, cs = c1 ++ c2 ∧ Rd ok w t x.1 c1 ∧ Rd ok w u x.2 c2
  | .arr n t, (x : List t.T), cs => x.length = n ∧ RdL (Rd ok w t) x cs
  | .sl t, (x : List t.T), cs => ∃ a cap, cs = [.slice a x.length cap] ∧ x.length ≤ cap ∧ x.length ≤ lim ∧
      (x = [] ∨ ∃ b o c e fr, a = some ⟨b, o, none⟩ ∧ ok b ∧ w.heap[b]? = some (.cells c e fr) ∧ o + x.length * t.size ≤ c.size ∧
        RdL (Rd ok w t) x ((c.toList.drop o).take (x.length * t.size)))

theorem RdL.mono {α : Type} {R R' : α → List Value → Prop} (h : ∀ x cs, R x cs → R' x cs) : ∀ xs cs, RdL R xs cs → RdL R' xs cs
  | [], _, hc => hc
  | _ :: xs, _, ⟨c1, c2, e, h1, h2⟩ => ⟨c1, c2, e, h _ _ h1, RdL.mono h xs _ h2⟩

theorem Rd.monoC {ok ok' : Nat → Prop} {w w' : World} (h : ∀ b c e fr, ok b → w.heap[b]? = some (.cells c e fr) → ok' b ∧ w'.heap[b]? = w.heap[b]?) :
    ∀ (t : Ty) (x : t.T) (cs : List Value), Rd ok w t x cs → Rd ok' w' t x cs
  | .int _, _, _, hr => hr
  | .bool, _, _, hr => hr
  | .str, _, _, hr => hr
  | .unit, _, _, hr => hr
  | .pair t u, _, _, ⟨c1, c2, e, h1, h2⟩ => ⟨c1, c2, e, Rd.monoC h t _ _ h1, Rd.monoC h u _ _ h2⟩
  | .arr _ t, _, _, ⟨hl, hr⟩ => ⟨hl, RdL.mono (fun x cs => Rd.monoC h t x cs) _ _ hr⟩
  | .sl t, _, _, ⟨a, cap, e, h1, h2, h3⟩ => by
    refine ⟨a, cap, e, h1, h2, ?_⟩
    rcases h3 with h3 | ⟨b, o, c, e, fr, ha, hok, hb, hs, hr⟩
    · exact Or.inl h3
    · exact Or.inr ⟨b, o, c, e, fr, ha, (h b c e fr hok hb).1, (h b c e fr hok hb).2.trans hb, hs, RdL.mono (fun x cs => Rd.monoC h t x cs) _ _ hr⟩

theorem Rd.mono {ok ok' : Nat → Prop} {w w' : World} (h : ∀ b, ok b → ok' b ∧ w'.heap[b]? = w.heap[b]?) (t : Ty) (x : t.T) (cs : List Value) (hr : Rd ok w t x cs) : Rd ok' w' t x cs :=
  Rd.monoC (fun b _ _ _ hb _ => h b hb) t x cs hr

theorem RdL.length {α : Type} {R : α → List Value → Prop} {n : Nat} (h : ∀ x cs, R x cs → cs.length = n) :
    ∀ xs cs, RdL R xs cs → cs.length = xs.length * n
  | [], _, hc => by simp [RdL] at hc; simp [hc]
  | _ :: xs, _, ⟨c1, c2, e, h1, h2⟩ => by
    rw [e, List.length_append, h _ _ h1, RdL.length h xs _ h2, List.length_cons, Nat.succ_mul, Nat.add_comm]

theorem Rd.length {ok : Nat → Prop} {w : World} : ∀ (t : Ty) (x : t.T) (cs : List Value), Rd ok w t x cs → cs.length = t.size
  | .int _, _, _, ⟨e, _⟩ => by rw [e]; rfl
  | .bool, _, _, e => by rw [show _ = _ from e]; rfl
  | .str, _, _, ⟨e, _⟩ => by rw [e]; rfl
  | .unit, _, _, e => by rw [show _ = _ from e]; rfl
  | .pair t u, _, _, ⟨c1, c2, e, h1, h2⟩ => by rw [e, List.length_append, Rd.length t _ _ h1, Rd.length u _ _ h2]; rfl
  | .arr n t, _, _, ⟨hl, hr⟩ => by rw [RdL.length (fun x cs => Rd.length t x cs) _ _ hr, hl]; rfl
  | .sl _, _, _, ⟨_, _, e, _⟩ => by rw [e]; rfl

/-- Each cell of a datum is the value of one cell. -/
theorem RdL.one {α : Type} {R : α → List Value → Prop} (h : ∀ x cs, R x cs → ∀ v ∈ cs, v.oneCell' = true) :
    ∀ xs cs, RdL R xs cs → ∀ v ∈ cs, v.oneCell' = true
  | [], _, hc, v, hv => by simp [RdL] at hc; subst hc; simp at hv
  | _ :: xs, _, ⟨c1, c2, e, h1, h2⟩, v, hv => by
    subst e
    rcases List.mem_append.1 hv with hv | hv
    · exact h _ _ h1 v hv
    · exact RdL.one h xs _ h2 v hv

theorem Rd.one {ok : Nat → Prop} {w : World} : ∀ (t : Ty) (x : t.T) (cs : List Value), Rd ok w t x cs → ∀ v ∈ cs, v.oneCell' = true
  | .int _, _, _, ⟨e, _⟩, v, hv => by subst e; simp at hv; subst hv; rfl
  | .bool, _, _, e, v, hv => by rw [show _ = _ from e] at hv; simp at hv; subst hv; rfl
  | .str, _, _, ⟨e, _⟩, v, hv => by subst e; simp at hv; subst hv; rfl
  | .unit, _, _, e, v, hv => by rw [show _ = _ from e] at hv; simp at hv
  | .pair t u, _, _, ⟨c1, c2, e, h1, h2⟩, v, hv => by
    subst e
    rcases List.mem_append.1 hv with hv | hv
    · exact Rd.one t _ _ h1 v hv
    · exact Rd.one u _ _ h2 v hv
  | .arr _ t, _, _, ⟨_, hr⟩, v, hv => RdL.one (fun x cs => Rd.one t x cs) _ _ hr v hv
  | .sl _, _, _, ⟨_, _, e, _⟩, v, hv => by subst e; simp at hv; subst hv; rfl

/-- A value holds a datum: the value of a struct or an array is its cells, any other is its one cell. -/
def vOf (t : Ty) (cs : List Value) (v : Value) : Prop := if t.agg then v = .agg ⟨cs⟩ else cs = [v]
def RdV (ok : Nat → Prop) (w : World) (t : Ty) (x : t.T) (v : Value) : Prop := ∃ cs, Rd ok w t x cs ∧ vOf t cs v

theorem RdV.monoC {ok ok' : Nat → Prop} {w w' : World} (h : ∀ b c e fr, ok b → w.heap[b]? = some (.cells c e fr) → ok' b ∧ w'.heap[b]? = w.heap[b]?) {t : Ty} {x : t.T} {v : Value}
    (hr : RdV ok w t x v) : RdV ok' w' t x v := let ⟨cs, h1, h2⟩ := hr; ⟨cs, Rd.monoC h t x cs h1, h2⟩

theorem RdV.mono {ok ok' : Nat → Prop} {w w' : World} (h : ∀ b, ok b → ok' b ∧ w'.heap[b]? = w.heap[b]?) {t : Ty} {x : t.T} {v : Value}
    (hr : RdV ok w t x v) : RdV ok' w' t x v := let ⟨cs, h1, h2⟩ := hr; ⟨cs, Rd.mono h t x cs h1, h2⟩

theorem RdV.cells {ok : Nat → Prop} {w : World} {t : Ty} {x : t.T} {v : Value} (hr : RdV ok w t x v) : Rd ok w t x v.cells.toList := by
  obtain ⟨cs, h1, h2⟩ := hr
  unfold vOf at h2
  split at h2
  · subst h2; exact h1
  · subst h2
    have := Rd.one t x _ h1 v (by simp)
    cases v <;> first | exact h1 | cases this

/-- Where the n-th field of a struct begins, and its type. -/
def offD : Ty → Nat → Option (Nat × Ty)
  | .pair t _, 0 => some (0, t)
  | .pair t u, n + 1 => match offD u n with
    | some (o, v) => some (t.size + o, v)
    | none => none
  | _, _ => none

/-- What an abstract slot holds. -/
inductive AV where
  /-- a datum -/
  | d (t : Ty) (x : t.T)
  /-- the address of a cell of one of the call's own blocks -/
  | ptr (k off : Nat)
  /-- the address of an element of one of the call's own rows -/
  | eptr (k i : Nat)
  /-- the address of a field of an element of one of the call's own rows -/
  | efp (k i f : Nat)
  /-- the address of a datum that nobody changes -/
  | dptr (t : Ty) (x : t.T)
  /-- a slice of one of the call's own rows -/
  | own (k off len : Nat)
  /-- the same, a slice that is as long as it can be -/
  | ox (k off len : Nat)
  /-- a slice of the first n elements of one of the call's own blocks of variables -/
  | sv (k o n c : Nat)
  /-- the nil slice -/
  | nsl
  /-- the nil pointer -/
  | nilp
  /-- the nil interface value -/
  | nili
  /-- an interface value that is not nil -/
  | nni
  /-- an interface value that holds a datum -/
  | ifc (k : TypeId) (t : Ty) (x : t.T)
  /-- a function value -/
  | fn (f : FuncId) (first caps : List AV)
  /-- the function that a range over a function hands to its iterator; l: the loop's record -/
  | yld (l : Nat)
  /-- one of the call's own maps -/
  | mp (k : Nat)
  /-- a struct or an array whose cells are not all data -/
  | ag (cells : List AV)
  | tup (l : List AV)
  /-- no value yet -/
  | und
  /-- nothing is known -/
  | no

/-- The record of a range over a function. -/
structure LoopA where
  st : LoopState
  pend : Option Code
  slots : List (Nat × AV)
  n : Nat
  ps : Array Tmp
  assign : Code
  body : Code

/-- What a map's keys are: integers of a kind, texts, or pairs of integers. -/
inductive KK where
  | int (k : IntKind)
  | str
  | two (e : TypeId) (k : IntKind)
  deriving DecidableEq
/-- A key. -/
inductive DK where
  | i (n : Int)
  | s (l : List UInt8)
  | p (a b : Int)
def KK.td : KK → TypeDesc
  | .int k => .int k
  | .str => .string
  | .two e _ => .array 2 e
def KK.has : KK → DK → Bool
  | .int _, .i _ => true
  | .str, .s _ => true
  | .two _ k, .p a b => (decide (k.min ≤ a) && decide (a ≤ k.max)) && (decide (k.min ≤ b) && decide (b ≤ k.max))
  | _, _ => false
def KK.val : KK → DK → Value
  | .int k, .i n => .int k n
  | .str, .s l => .string ⟨⟨l⟩⟩
  | .two _ k, .p a b => .agg #[.int k a, .int k b]
  | _, _ => .bool false
def kkAt (P : Program) (kt : TypeId) : Option KK := match P.underlying kt with
  | some (.int k) => some (.int k)
  | some .string => some .str
  | some (.array n e) => match P.underlying e with
    | some (.int k) => match (Nat.beq n 2 && Nat.beq (P.cellsOf e) 1) && (Nat.beq (P.cellsOf kt) 2 && Nat.ble 1 P.types.size) with
      | true => some (.two e k)
      | false => none
    | _ => none
  | _ => none

/-- One of the call's own blocks: a variable's cells, a row of elements, or the record of a range over a function. -/
inductive Bk where
  | vars (e : TypeId) (cells : List AV)
  | row (e : TypeId) (t : Ty) (l : List t.T)
  | loop (r : LoopA)
  /-- a map from integers, or from texts -/
  | dic (k : KK) (l : List (DK × AV))
  /-- a block of which nothing is known -/
  | any

def look : List (Nat × AV) → Nat → AV
  | [], _ => .no
  | (k, v) :: r, t => match Nat.beq k t with | true => v | false => look r t

abbrev Heap := List (Nat × Bk)
def Heap.keys (H : Heap) : List Nat := H.map (·.1)

/-- What a call's relation to memory is measured by: the world at its beginning, and the blocks in which its arguments may lie. -/
structure Ctx where
  w0 : World
  okA : Nat → Prop
  lt : ∀ b, okA b → b < w0.heap.size
  /-- the size of memory when the activation began -/
  lo : Nat
  hlo : w0.heap.size ≤ lo
  /-- what is deferred below the marks of ranges over functions -/
  us : List Deferred := []
  /-- which marks there are, if this is known -/
  mks : Option (List Nat) := none

def Ok (C : Ctx) (ρ : Nat → Nat) (H : Heap) (w : World) (b : Nat) : Prop :=
  (C.okA b ∨ C.w0.heap.size ≤ b) ∧ b < w.heap.size ∧ ∀ k ∈ H.keys, ρ k ≠ b

mutual
inductive VR (C : Ctx) (ρ : Nat → Nat) (H : Heap) (w : World) : AV → Value → Prop where
  | d {t : Ty} {x : t.T} {v : Value} (h : RdV (Ok C ρ H w) w t x v) : VR C ρ H w (.d t x) v
  | ptr {k off : Nat} (h : k ∈ H.keys) : VR C ρ H w (.ptr k off) (.pointer (some ⟨ρ k, off, none⟩))
  | eptr {k i : Nat} {e : TypeId} {t : Ty} {l : List t.T} (h : (k, .row e t l) ∈ H) (hi : i < l.length) : VR C ρ H w (.eptr k i) (.pointer (some ⟨ρ k, i * t.size, none⟩))
  | efp {k i f o : Nat} {u : Ty} {e : TypeId} {t : Ty} {l : List t.T} (h : (k, .row e t l) ∈ H) (hi : i < l.length) (ho : offD t f = some (o, u)) : VR C ρ H w (.efp k i f) (.pointer (some ⟨ρ k, i * t.size + o, none⟩))
  | dptr {t : Ty} {x : t.T} {b o : Nat} {c : Array Value} {e : TypeId} {fr : Nat × Nat} (hb : Ok C ρ H w b) (hc : w.heap[b]? = some (.cells c e fr))
      (ho : o + t.size ≤ c.size) (h : Rd (Ok C ρ H w) w t x ((c.toList.drop o).take t.size)) : VR C ρ H w (.dptr t x) (.pointer (some ⟨b, o, none⟩))
  | own {k off len : Nat} {e : TypeId} {t : Ty} {l : List t.T} {a : Option Addr} {cap : Nat} {c : Array Value} {fr : Nat × Nat} (h : (k, .row e t l) ∈ H) (hl : off + len ≤ l.length) (hc : len ≤ cap) (hm : cap ≤ maxLen)
      (hb : w.heap[ρ k]? = some (.cells c e fr)) (hs : (off + cap) * t.size = c.size) (ha : a = some ⟨ρ k, off * t.size, none⟩ ∨ cap = 0 ∧ off ≠ 0) : VR C ρ H w (.own k off len) (.slice a len cap)
  | ox {k off len : Nat} {e : TypeId} {t : Ty} {l : List t.T} {a : Option Addr} {c : Array Value} {fr : Nat × Nat} (h : (k, .row e t l) ∈ H) (hl : off + len ≤ l.length) (hm : len ≤ maxLen)
      (hb : w.heap[ρ k]? = some (.cells c e fr)) (hs : (off + len) * t.size = c.size) (ha : a = some ⟨ρ k, off * t.size, none⟩ ∨ len = 0 ∧ off ≠ 0) : VR C ρ H w (.ox k off len) (.slice a len len)
  | sv {k o n cap : Nat} (h : k ∈ H.keys) (hn : n ≤ lim) (hc : n ≤ cap) : VR C ρ H w (.sv k o n cap) (.slice (some ⟨ρ k, o, none⟩) n cap)
  | nsl : VR C ρ H w .nsl (.slice none 0 0)
  | nilp : VR C ρ H w .nilp (.pointer none)
  | nili : VR C ρ H w .nili .nilIface
  | nni {t : TypeId} {p : Value} : VR C ρ H w .nni (.iface t p)
  | ifc {k : TypeId} {t : Ty} {x : t.T} {v : Value} (h : RdV (Ok C ρ H w) w t x v) : VR C ρ H w (.ifc k t x) (.iface k v)
  | fn {f : FuncId} {first caps : List AV} {vf vc : List Value} (h1 : VRs C ρ H w first vf) (h2 : VRs C ρ H w caps vc) : VR C ρ H w (.fn f first caps) (.func (.func f) ⟨vf⟩ ⟨vc⟩)
  | yld {l : Nat} (h : l ∈ H.keys) : VR C ρ H w (.yld l) (.func (.yield (ρ l)) #[] #[])
  | mp {k : Nat} (h : k ∈ H.keys) : VR C ρ H w (.mp k) (.map (some (ρ k)))
  | ag {cells : List AV} {vs : List Value} (h : VRs C ρ H w cells vs) (h1 : ∀ v ∈ vs, v.oneCell' = true) : VR C ρ H w (.ag cells) (.agg ⟨vs⟩)
  | tup {l : List AV} {vs : List Value} (h : VRs C ρ H w l vs) : VR C ρ H w (.tup l) (.tuple ⟨vs⟩)
  | und : VR C ρ H w .und undef
  | no {v : Value} : VR C ρ H w .no v
inductive VRs (C : Ctx) (ρ : Nat → Nat) (H : Heap) (w : World) : List AV → List Value → Prop where
  | nil : VRs C ρ H w [] []
  | cons {a : AV} {v : Value} {as : List AV} {vs : List Value} (h : VR C ρ H w a v) (hs : VRs C ρ H w as vs) : VRs C ρ H w (a :: as) (v :: vs)
end

/-- The length of a slice alone. -/
def AV.soft : AV → AV
  | .ox k off len => .own k off len
  | a => a

theorem VR.soft {C : Ctx} {ρ : Nat → Nat} {H : Heap} {w : World} {a : AV} {v : Value} (h : VR C ρ H w a v) : VR C ρ H w a.soft v := by
  cases h with
  | ox h hl hm hb hs ha => exact .own h hl (Nat.le_refl _) hm hb hs ha
  | _ => constructor <;> assumption

/-- A map's entries are as the abstract ones say. -/
def KeyR (k : KK) (n : DK) (v : Value) : Prop := k.has n = true ∧ v = k.val n
def MapR (R : AV → Value → Prop) (k : KK) : List (DK × AV) → List MapEntry → Prop
  | [], [] => True
  | x :: l, e :: es => KeyR k x.1 e.key ∧ R x.2 e.val ∧ MapR R k l es
  | _, _ => False

/-- A block is as the abstract block says. -/
def BkR (C : Ctx) (ρ : Nat → Nat) (H : Heap) (w : World) (b : Nat) : Bk → Prop
  | .vars e cells => ∃ c, w.heap[b]? = some (.cells c e (0, 0)) ∧ VRs C ρ H w cells c.toList ∧ ∀ v ∈ c.toList, v.oneCell' = true
  | .row e t l => ∃ c, w.heap[b]? = some (.cells c e (0, 0)) ∧ l.length * t.size ≤ c.size ∧ l.length ≤ lim ∧ RdL (Rd (Ok C ρ H w) w t) l (c.toList.take (l.length * t.size)) ∧ ∀ v ∈ c.toList, v.oneCell' = true
  | .loop r => ∃ fn tmps d, w.heap[b]? = some (.loop { state := r.st, pending := r.pend, fn := fn, tmps := tmps, params := r.ps, assign := r.assign, body := r.body, defers := d }) ∧ tmps.size = r.n ∧
      ∀ t, VR C ρ H w (look r.slots t) (tmps.getD t undef)
  | .dic k l => ∃ es n, w.heap[b]? = some (.map es n) ∧ MapR (VR C ρ H w) k l es.toList
  | .any => ∃ o, w.heap[b]? = some o

end Go.Vg

namespace Go.Vg
open Go Go.RowKit

mutual
/-- Keep the references to blocks of which p holds; what becomes of the others: a slice 'f', else nothing is known. -/
def AV.map (p : Nat → Bool) (f : Nat → Nat → Nat → AV) : AV → AV
  | .ptr k off => match p k with | true => .ptr k off | false => .no
  | .eptr k i => match p k with | true => .eptr k i | false => .no
  | .efp k i g => match p k with | true => .efp k i g | false => .no
  | .own k off len => match p k with | true => .own k off len | false => f k off len
  | .ox k off len => match p k with | true => .ox k off len | false => f k off len
  | .sv k o n c => match p k with | true => .sv k o n c | false => .no
  | .fn g first caps => .fn g (AV.maps p f first) (AV.maps p f caps)
  | .yld l => match p l with | true => .yld l | false => .no
  | .mp k => match p k with | true => .mp k | false => .no
  | .ag cells => .ag (AV.maps p f cells)
  | .tup l => .tup (AV.maps p f l)
  | .d t x => .d t x
  | .dptr t x => .dptr t x
  | .nsl => .nsl
  | .nilp => .nilp
  | .nili => .nili
  | .nni => .nni
  | .ifc k t x => .ifc k t x
  | .und => .und
  | .no => .no
def AV.maps (p : Nat → Bool) (f : Nat → Nat → Nat → AV) : List AV → List AV
  | [] => []
  | a :: as => a.map p f :: AV.maps p f as
end

theorem VR.mapC {C : Ctx} {ρ ρ' : Nat → Nat} {H H' : Heap} {w w' : World} {p : Nat → Bool} {f : Nat → Nat → Nat → AV}
    (hd : ∀ b c e fr, Ok C ρ H w b → w.heap[b]? = some (.cells c e fr) → Ok C ρ' H' w' b ∧ w'.heap[b]? = w.heap[b]?)
    (hk : ∀ k ∈ H.keys, p k = true → k ∈ H'.keys ∧ ρ' k = ρ k)
    (hr : ∀ k e t l, (k, Bk.row e t l) ∈ H → p k = true → ∃ l', (k, Bk.row e t l') ∈ H' ∧ l.length ≤ l'.length ∧
      ∀ c fr, w.heap[ρ k]? = some (.cells c e fr) → ∃ c' fr', w'.heap[ρ k]? = some (.cells c' e fr') ∧ c.size = c'.size)
    (hf : ∀ k off len v, p k = false → VR C ρ H w (.own k off len) v → VR C ρ' H' w' (f k off len) v)
    {x : AV} {v : Value} (h : VR C ρ H w x v) : VR C ρ' H' w' (x.map p f) v := by
  refine VR.rec (motive_1 := fun x v _ => VR C ρ' H' w' (x.map p f) v) (motive_2 := fun xs vs _ => VRs C ρ' H' w' (AV.maps p f xs) vs)
    ?_ ?_ ?_ ?_ ?_ ?_ ?_ ?_ ?_ ?_ ?_ ?_ ?_ ?_ ?_ ?_ ?_ ?_ ?_ ?_ ?_ ?_ h
  · intro t x v h; exact .d (RdV.monoC hd h)
  · intro k off h
    simp only [AV.map]
    cases hp : p k
    · exact .no
    · obtain ⟨h1, h2⟩ := hk k h hp; rw [← h2]; exact .ptr h1
  · intro k i e t l h hi
    simp only [AV.map]
    have hkk : k ∈ H.keys := List.mem_map.2 ⟨_, h, rfl⟩
    cases hp : p k
    · exact .no
    · obtain ⟨l', h1, h2, _⟩ := hr k e t l h hp
      rw [← (hk k hkk hp).2]; exact .eptr h1 (by omega)
  · intro k i g o u e t l h hi ho
    simp only [AV.map]
    have hkk : k ∈ H.keys := List.mem_map.2 ⟨_, h, rfl⟩
    cases hp : p k
    · exact .no
    · obtain ⟨l', h1, h2, _⟩ := hr k e t l h hp
      rw [← (hk k hkk hp).2]; exact .efp h1 (by omega) ho
  · intro t x b o c e fr hb hc ho h
    exact .dptr (hd b c e fr hb hc).1 ((hd b c e fr hb hc).2.trans hc) ho (Rd.monoC hd _ _ _ h)
  · intro k off len e t l a cap c fr h hl hc hm hb hs ha
    simp only [AV.map]
    have hkk : k ∈ H.keys := List.mem_map.2 ⟨_, h, rfl⟩
    cases hp : p k
    · exact hf k off len _ hp (.own h hl hc hm hb hs ha)
    · obtain ⟨l', h1, h2, h3⟩ := hr k e t l h hp
      obtain ⟨c', fr', hb', hs'⟩ := h3 c fr hb
      have he := (hk k hkk hp).2
      exact .own (c := c') (fr := fr') h1 (by omega) hc hm (by rw [he]; exact hb') (by omega) (by rw [he]; exact ha)
  · intro k off len e t l a c fr h hl hm hb hs ha
    simp only [AV.map]
    have hkk : k ∈ H.keys := List.mem_map.2 ⟨_, h, rfl⟩
    cases hp : p k
    · exact hf k off len _ hp (.own h hl (Nat.le_refl _) hm hb hs ha)
    · obtain ⟨l', h1, h2, h3⟩ := hr k e t l h hp
      obtain ⟨c', fr', hb', hs'⟩ := h3 c fr hb
      have he := (hk k hkk hp).2
      exact .ox (c := c') (fr := fr') h1 (by omega) hm (by rw [he]; exact hb') (by omega) (by rw [he]; exact ha)
  · intro k o n cap h hn hc
    simp only [AV.map]
    cases hp : p k
    · exact .no
    · obtain ⟨h1, h2⟩ := hk k h hp; rw [← h2]; exact .sv h1 hn hc
  · exact .nsl
  · exact .nilp
  · exact .nili
  · exact .nni
  · intro k t x v h; exact .ifc (RdV.monoC hd h)
  · intro g first caps vf vc _ _ h1 h2; exact .fn h1 h2
  · intro l h
    simp only [AV.map]
    cases hp : p l
    · exact .no
    · obtain ⟨h1, h2⟩ := hk l h hp; rw [← h2]; exact .yld h1
  · intro k h
    simp only [AV.map]
    cases hp : p k
    · exact .no
    · obtain ⟨h1, h2⟩ := hk k h hp; rw [← h2]; exact .mp h1
  · intro cells vs _ h1 h; exact .ag h h1
  · intro l vs _ h; exact .tup h
  · exact .und
  · intro v; exact .no
  · exact .nil
  · intro a v as vs _ _ h hs; exact .cons h hs

theorem VR.map {C : Ctx} {ρ ρ' : Nat → Nat} {H H' : Heap} {w w' : World} {p : Nat → Bool} {f : Nat → Nat → Nat → AV}
    (hd : ∀ b, Ok C ρ H w b → Ok C ρ' H' w' b ∧ w'.heap[b]? = w.heap[b]?)
    (hk : ∀ k ∈ H.keys, p k = true → k ∈ H'.keys ∧ ρ' k = ρ k)
    (hr : ∀ k e t l, (k, Bk.row e t l) ∈ H → p k = true → ∃ l', (k, Bk.row e t l') ∈ H' ∧ l.length ≤ l'.length ∧
      ∀ c fr, w.heap[ρ k]? = some (.cells c e fr) → ∃ c' fr', w'.heap[ρ k]? = some (.cells c' e fr') ∧ c.size = c'.size)
    (hf : ∀ k off len v, p k = false → VR C ρ H w (.own k off len) v → VR C ρ' H' w' (f k off len) v)
    {x : AV} {v : Value} (h : VR C ρ H w x v) : VR C ρ' H' w' (x.map p f) v := VR.mapC (fun b _ _ _ hb _ => hd b hb) hk hr hf h

theorem AV.map_true (f : Nat → Nat → Nat → AV) (x : AV) : x.map (fun _ => true) f = x := by
  refine AV.rec (motive_1 := fun x => x.map (fun _ => true) f = x) (motive_2 := fun xs => AV.maps (fun _ => true) f xs = xs) ?_ ?_ ?_ ?_ ?_ ?_ ?_ ?_ ?_ ?_ ?_ ?_ ?_ ?_ ?_ ?_ ?_ ?_ ?_ ?_ ?_ ?_ x <;>
    intros <;> simp_all [AV.map, AV.maps]

theorem VRs.map {C : Ctx} {ρ ρ' : Nat → Nat} {H H' : Heap} {w w' : World} {p : Nat → Bool} {f : Nat → Nat → Nat → AV}
    (h : ∀ x v, VR C ρ H w x v → VR C ρ' H' w' (x.map p f) v) : ∀ {xs : List AV} {vs : List Value}, VRs C ρ H w xs vs → VRs C ρ' H' w' (AV.maps p f xs) vs
  | _, _, .nil => .nil
  | _, _, .cons h1 h2 => .cons (h _ _ h1) (VRs.map h h2)

theorem VRs.imp {C : Ctx} {ρ ρ' : Nat → Nat} {H H' : Heap} {w w' : World}
    (h : ∀ x v, VR C ρ H w x v → VR C ρ' H' w' x v) : ∀ {xs : List AV} {vs : List Value}, VRs C ρ H w xs vs → VRs C ρ' H' w' xs vs
  | _, _, .nil => .nil
  | _, _, .cons h1 h2 => .cons (h _ _ h1) (VRs.imp h h2)

/-- What is kept from one state of memory to a later one; the blocks whose keys are at least n may have been made in between. -/
structure Fr (C : Ctx) (n : Nat) (ρ : Nat → Nat) (H : Heap) (w : World) (ρ' : Nat → Nat) (H' : Heap) (w' : World) : Prop where
  data : ∀ b, Ok C ρ H w b → Ok C ρ' H' w' b ∧ w'.heap[b]? = w.heap[b]?
  keys : ∀ k, k < n → k ∈ H'.keys → k ∈ H.keys ∧ ρ' k = ρ k
  rows : ∀ k e t l, k < n → (k, Bk.row e t l) ∈ H → k ∈ H'.keys → ∃ l', (k, Bk.row e t l') ∈ H' ∧ l.length ≤ l'.length ∧
      ∀ c fr, w.heap[ρ k]? = some (.cells c e fr) → ∃ c' fr', w'.heap[ρ k]? = some (.cells c' e fr') ∧ c.size = c'.size
  size : w.heap.size ≤ w'.heap.size

theorem Fr.refl (C : Ctx) (n : Nat) (ρ : Nat → Nat) (H : Heap) (w : World) : Fr C n ρ H w ρ H w :=
  ⟨fun _ h => ⟨h, rfl⟩, fun _ _ h => ⟨h, rfl⟩, fun _ _ _ l _ h _ => ⟨l, h, Nat.le_refl _, fun c fr h => ⟨c, fr, h, rfl⟩⟩, Nat.le_refl _⟩

theorem Fr.trans {C : Ctx} {n n' : Nat} {ρ ρ' ρ'' : Nat → Nat} {H H' H'' : Heap} {w w' w'' : World} (hn : n ≤ n')
    (h : Fr C n ρ H w ρ' H' w') (g : Fr C n' ρ' H' w' ρ'' H'' w'') : Fr C n ρ H w ρ'' H'' w'' := by
  refine ⟨fun b hb => ?_, fun k hk hm => ?_, fun k e t l hk hm hm'' => ?_, Nat.le_trans h.size g.size⟩
  · obtain ⟨h1, h2⟩ := h.data b hb
    obtain ⟨g1, g2⟩ := g.data b h1
    exact ⟨g1, g2.trans h2⟩
  · obtain ⟨g1, g2⟩ := g.keys k (by omega) hm
    obtain ⟨h1, h2⟩ := h.keys k hk g1
    exact ⟨h1, g2.trans h2⟩
  · obtain ⟨g1, g2⟩ := g.keys k (by omega) hm''
    obtain ⟨l', h1, h2, h3⟩ := h.rows k e t l hk hm g1
    obtain ⟨l'', g3, g4, g5⟩ := g.rows k e t l' (by omega) h1 hm''
    refine ⟨l'', g3, by omega, fun c fr hc => ?_⟩
    obtain ⟨c', fr', hc', hs⟩ := h3 c fr hc
    rw [← (h.keys k hk g1).2] at hc' ⊢
    obtain ⟨c'', fr'', hc'', hs'⟩ := g5 c' fr' hc'
    exact ⟨c'', fr'', hc'', by omega⟩

structure St where
  slots : List (Nat × AV)
  H : Heap
  next : Nat
  n : Nat

def del : List (Nat × AV) → Nat → List (Nat × AV)
  | [], _ => []
  | (k, v) :: r, t => match Nat.beq k t with | true => del r t | false => (k, v) :: del r t

theorem beq_false {a b : Nat} (h : Nat.beq a b = false) : a ≠ b := fun e => by subst e; simp at h
theorem beq_true {a b : Nat} (h : Nat.beq a b = true) : a = b := Nat.eq_of_beq_eq_true h

theorem ne_beq {a b : Nat} (h : a ≠ b) : Nat.beq a b = false := by
  cases e : Nat.beq a b with
  | false => rfl
  | true => exact absurd (beq_true e) h

theorem look_del_ne {l : List (Nat × AV)} {t u : Nat} (h : t ≠ u) : look (del l t) u = look l u := by
  induction l with
  | nil => rfl
  | cons x r ih =>
    obtain ⟨k, v⟩ := x
    simp only [del, look]
    cases hb : Nat.beq k t with
    | true =>
      have : Nat.beq k u = false := by have := beq_true hb; subst this; exact ne_beq h
      simp only [this]; exact ih
    | false => simp only [look]; rw [ih]

def St.put (σ : St) (dst : Option Nat) (v : AV) : St :=
  match dst with
  | none => σ
  | some t => match Nat.blt t σ.n with
    | true => { σ with slots := (t, v) :: del σ.slots t }
    | false => σ

/-- The memory's half of the relation. -/
structure MRel (C : Ctx) (ρ : Nat → Nat) (H : Heap) (next : Nat) (w : World) : Prop where
  below : Below C.w0.heap.size C.w0 w
  nodup : H.keys.Nodup
  lt : ∀ k ∈ H.keys, k < next
  inj : ∀ k ∈ H.keys, ∀ k' ∈ H.keys, ρ k = ρ k' → k = k'
  low : ∀ k ∈ H.keys, C.w0.heap.size ≤ ρ k
  mem : ∀ k b, (k, b) ∈ H → BkR C ρ H w (ρ k) b

/-- The marks of ranges over functions among a frame's deferred calls: of blocks that nobody else touches. -/
def Dfs (C : Ctx) (ρ : Nat → Nat) (H : Heap) (w : World) (l : List Deferred) : Prop :=
  C.lo ≤ w.heap.size ∧ ∃ ds : List Nat, l = ds.map (fun d => { target := .collected d, args := #[] }) ++ C.us ∧ ds.Nodup ∧ (∀ d ∈ ds, (C.lo ≤ d ∧ ∀ k ∈ H.keys, ρ k ≠ d) ∧ w.heap[d]? = some (.deferred (some []))) ∧ ∀ x, C.mks = some x → ds = x

theorem Dfs.ok {C : Ctx} {ρ : Nat → Nat} {H : Heap} {w : World} {d : Nat} (h : C.lo ≤ d ∧ ∀ k ∈ H.keys, ρ k ≠ d) (hd : w.heap[d]? = some (.deferred (some []))) : Ok C ρ H w d :=
  ⟨Or.inr (Nat.le_trans C.hlo h.1), (Array.getElem?_eq_some_iff.1 hd).1, h.2⟩

theorem Dfs.mono {C : Ctx} {ρ ρ' : Nat → Nat} {H H' : Heap} {w w' : World} {l : List Deferred} (hd : ∀ b, Ok C ρ H w b → Ok C ρ' H' w' b ∧ w'.heap[b]? = w.heap[b]?) (hsz : w.heap.size ≤ w'.heap.size) (h : Dfs C ρ H w l) : Dfs C ρ' H' w' l := by
  obtain ⟨h0, ds, h1, h2, h3, hmk⟩ := h
  refine ⟨Nat.le_trans h0 hsz, ds, h1, h2, fun d hm => ?_, hmk⟩
  obtain ⟨h4, h5⟩ := h3 d hm
  obtain ⟨h6, h7⟩ := hd d (Dfs.ok h4 h5)
  exact ⟨⟨h4.1, h6.2.2⟩, h7.trans h5⟩

theorem Dfs.nil {C : Ctx} {ρ : Nat → Nat} {H : Heap} {w : World} (h : C.lo ≤ w.heap.size) (hu : C.us = []) (hm : C.mks = none) : Dfs C ρ H w [] := ⟨h, [], by rw [hu]; rfl, List.nodup_nil, fun _ h => (by cases h), fun x hx => by rw [hm] at hx; cases hx⟩

structure SRel (C : Ctx) (ρ : Nat → Nat) (σ : St) (a : Act) (w : World) : Prop where
  m : MRel C ρ σ.H σ.next w
  slots : ∀ t, VR C ρ σ.H w (look σ.slots t) (a.tmps.getD t undef)
  size : a.tmps.size = σ.n
  defers : Dfs C ρ σ.H w a.defers

theorem SRel.put {C : Ctx} {ρ : Nat → Nat} {σ : St} {a : Act} {w : World} {dst : Option Nat} {x : AV} {v : Value}
    (h : SRel C ρ σ a w) (hv : VR C ρ σ.H w x v) : SRel C ρ (σ.put dst x) (a.put dst v) w := by
  cases dst with
  | none => exact h
  | some t =>
    simp only [St.put, Act.put]
    cases hb : Nat.blt t σ.n with
    | false =>
      have hge : σ.n ≤ t := by
        have : ¬ t < σ.n := fun hlt => by simp [Nat.blt, Nat.ble_eq_true_of_le hlt] at hb
        omega
      have : a.tmps.setIfInBounds t v = a.tmps := by
        rw [Array.setIfInBounds, dif_neg (by rw [h.size]; omega)]
      simp only [this]
      exact h
    | true =>
      have hlt : t < σ.n := Nat.le_of_ble_eq_true hb
      refine ⟨h.m, fun u => ?_, by simp [h.size], h.defers⟩
      simp only [look]
      cases hu : Nat.beq t u with
      | true =>
        have := beq_true hu; subst this
        simp only
        rw [show (a.tmps.setIfInBounds t v).getD t undef = v by
          simp [Array.getD, h.size, hlt]]
        exact hv
      | false =>
        have hne := beq_false hu
        simp only
        rw [look_del_ne hne]
        rw [show (a.tmps.setIfInBounds t v).getD u undef = a.tmps.getD u undef by
          simp only [Array.getD_eq_getD_getElem?]; rw [Array.getElem?_setIfInBounds_ne hne]]
        exact h.slots u

/-- Memory has gone on, and every reference of the slots is still good. -/
theorem SRel.frame {C : Ctx} {ρ ρ' : Nat → Nat} {σ : St} {H' : Heap} {next' : Nat} {a : Act} {w w' : World}
    (h : SRel C ρ σ a w) (hm : MRel C ρ' H' next' w') (hf : Fr C σ.next ρ σ.H w ρ' H' w') (hk : ∀ k ∈ σ.H.keys, k ∈ H'.keys) :
    SRel C ρ' { σ with H := H', next := next' } a w' := by
  refine ⟨hm, fun t => ?_, h.size, h.defers.mono hf.data hf.size⟩
  have := VR.map (p := fun _ => true) (f := fun _ _ _ => .no) hf.data (fun k hkk _ => ⟨hk k hkk, (hf.keys k (h.m.lt k hkk) (hk k hkk)).2⟩)
    (fun k e t l hmem _ => hf.rows k e t l (h.m.lt k (List.mem_map.2 ⟨_, hmem, rfl⟩)) hmem (hk k (List.mem_map.2 ⟨_, hmem, rfl⟩))) (fun _ _ _ _ h => by cases h) (h.slots t)
  rw [AV.map_true] at this
  exact this

end Go.Vg

namespace Go.Vg
open Go Go.RowKit

/-- Memory has gone on, and every block of the call's own is still there. -/
structure Ext (C : Ctx) (ρ : Nat → Nat) (H : Heap) (w : World) (ρ' : Nat → Nat) (H' : Heap) (w' : World) : Prop where
  data : ∀ b, Ok C ρ H w b → Ok C ρ' H' w' b ∧ w'.heap[b]? = w.heap[b]?
  keys : ∀ k ∈ H.keys, k ∈ H'.keys ∧ ρ' k = ρ k
  rows : ∀ k e t l, (k, Bk.row e t l) ∈ H → ∃ l', (k, Bk.row e t l') ∈ H' ∧ l.length ≤ l'.length ∧
      ∀ c fr, w.heap[ρ k]? = some (.cells c e fr) → ∃ c' fr', w'.heap[ρ k]? = some (.cells c' e fr') ∧ c.size = c'.size
  size : w.heap.size ≤ w'.heap.size

theorem Ext.refl (C : Ctx) (ρ : Nat → Nat) (H : Heap) (w : World) : Ext C ρ H w ρ H w :=
  ⟨fun _ h => ⟨h, rfl⟩, fun _ h => ⟨h, rfl⟩, fun _ _ _ l h => ⟨l, h, Nat.le_refl _, fun c fr h => ⟨c, fr, h, rfl⟩⟩, Nat.le_refl _⟩

theorem Ext.vr {C : Ctx} {ρ ρ' : Nat → Nat} {H H' : Heap} {w w' : World} (h : Ext C ρ H w ρ' H' w') {x : AV} {v : Value}
    (hv : VR C ρ H w x v) : VR C ρ' H' w' x v := by
  have := VR.map (p := fun _ => true) (f := fun _ _ _ => .no) h.data (fun k hk _ => h.keys k hk) (fun k e t l hm _ => h.rows k e t l hm) (fun _ _ _ _ h => by cases h) hv
  rwa [AV.map_true] at this

theorem mem_keys {H : Heap} {k : Nat} {b : Bk} (h : (k, b) ∈ H) : k ∈ H.keys := List.mem_map.2 ⟨_, h, rfl⟩

theorem Ext.trans {C : Ctx} {ρ ρ' ρ'' : Nat → Nat} {H H' H'' : Heap} {w w' w'' : World}
    (h : Ext C ρ H w ρ' H' w') (g : Ext C ρ' H' w' ρ'' H'' w'') : Ext C ρ H w ρ'' H'' w'' := by
  refine ⟨fun b hb => ?_, fun k hk => ?_, fun k e t l hm => ?_, Nat.le_trans h.size g.size⟩
  · obtain ⟨h1, h2⟩ := h.data b hb
    obtain ⟨g1, g2⟩ := g.data b h1
    exact ⟨g1, g2.trans h2⟩
  · obtain ⟨h1, h2⟩ := h.keys k hk
    obtain ⟨g1, g2⟩ := g.keys k h1
    exact ⟨g1, g2.trans h2⟩
  · obtain ⟨l', h1, h2, h3⟩ := h.rows k e t l hm
    obtain ⟨l'', g1, g2, g3⟩ := g.rows k e t l' h1
    refine ⟨l'', g1, by omega, fun c fr hc => ?_⟩
    obtain ⟨c', fr', hc', hs⟩ := h3 c fr hc
    have hk := (h.keys k (mem_keys hm)).2
    rw [← hk] at hc'
    obtain ⟨c'', fr'', hc'', hs'⟩ := g3 c' fr' hc'
    exact ⟨c'', fr'', by rw [← hk]; exact hc'', by omega⟩

theorem Ext.fr {C : Ctx} {n : Nat} {ρ ρ' : Nat → Nat} {H H' : Heap} {w w' : World} (h : Ext C ρ H w ρ' H' w')
    (hn : ∀ k, k < n → k ∈ H'.keys → k ∈ H.keys) : Fr C n ρ H w ρ' H' w' :=
  ⟨h.data, fun k hk hm => ⟨hn k hk hm, (h.keys k (hn k hk hm)).2⟩, fun k e t l _ hm _ => h.rows k e t l hm, h.size⟩

theorem MapR.imp {R R' : AV → Value → Prop} {k : KK} (h : ∀ x v, R x v → R' x v) : ∀ {l : List (DK × AV)} {es : List MapEntry}, MapR R k l es → MapR R' k l es
  | [], [], _ => trivial
  | _ :: _, _ :: _, ⟨h1, h2, h3⟩ => ⟨h1, h _ _ h2, MapR.imp h h3⟩
  | [], _ :: _, h => h.elim
  | _ :: _, [], h => h.elim

theorem BkR.ext {C : Ctx} {ρ ρ' : Nat → Nat} {H H' : Heap} {w w' : World} {b b' : Nat} {x : Bk} (h : Ext C ρ H w ρ' H' w')
    (hb : w'.heap[b']? = w.heap[b]?) (hx : BkR C ρ H w b x) : BkR C ρ' H' w' b' x := by
  cases x with
  | vars e cells =>
    obtain ⟨c, h1, h2, h3⟩ := hx
    exact ⟨c, hb.trans h1, h2.imp (fun _ _ => h.vr), h3⟩
  | row e t l =>
    obtain ⟨c, h1, h2, h3, h4, h5⟩ := hx
    exact ⟨c, hb.trans h1, h2, h3, RdL.mono (fun x cs => Rd.mono h.data t x cs) _ _ h4, h5⟩
  | loop r =>
    obtain ⟨fn, tmps, d, h1, h2, h3⟩ := hx
    exact ⟨fn, tmps, d, hb.trans h1, h2, fun t => h.vr (h3 t)⟩
  | dic k l => obtain ⟨es, n, h1, h2⟩ := hx; exact ⟨es, n, hb.trans h1, h2.imp (fun _ _ => h.vr)⟩
  | any => obtain ⟨o, h1⟩ := hx; exact ⟨o, hb.trans h1⟩

theorem BkR.block {C : Ctx} {ρ : Nat → Nat} {H : Heap} {w : World} {b : Nat} {x : Bk} (h : BkR C ρ H w b x) :
    ∃ o, w.heap[b]? = some o := by
  cases x with
  | vars e cells => obtain ⟨c, h1, _⟩ := h; exact ⟨_, h1⟩
  | row e t l => obtain ⟨c, h1, _⟩ := h; exact ⟨_, h1⟩
  | loop r => obtain ⟨fn, tmps, d, h1, _⟩ := h; exact ⟨_, h1⟩
  | dic k l => obtain ⟨es, n, h1, _⟩ := h; exact ⟨_, h1⟩
  | any => exact h

theorem lt_of_block {w : World} {b : Nat} {o : Obj} (h : w.heap[b]? = some o) : b < w.heap.size := (Array.getElem?_eq_some_iff.1 h).1

theorem MRel.key_lt {C : Ctx} {ρ : Nat → Nat} {H : Heap} {next : Nat} {w : World} (hm : MRel C ρ H next w) {k : Nat} (hk : k ∈ H.keys) : ρ k < w.heap.size := by
  obtain ⟨⟨k', b⟩, hb, e⟩ := List.mem_map.1 hk
  subst e
  obtain ⟨o, h⟩ := (hm.mem k' b hb).block
  exact lt_of_block h

def upd (ρ : Nat → Nat) (K b : Nat) : Nat → Nat := fun k => match Nat.beq k K with | true => b | false => ρ k
theorem upd_same (ρ : Nat → Nat) (K b : Nat) : upd ρ K b K = b := by simp [upd]
theorem upd_ne (ρ : Nat → Nat) {K b k : Nat} (h : k ≠ K) : upd ρ K b k = ρ k := by simp [upd, ne_beq h]

/-- A new block. -/
theorem MRel.allocO {C : Ctx} {ρ : Nat → Nat} {H : Heap} {next : Nat} {w : World} {K : Nat} {ob : Obj} {blk : Bk}
    (hm : MRel C ρ H next w) (hK : K ∉ H.keys) (hlt : K < next)
    (hb : ∀ (ρ' : Nat → Nat) (H' : Heap) (w' : World), Ext C ρ H w ρ' H' w' → w'.heap[w.heap.size]? = some ob → BkR C ρ' H' w' w.heap.size blk) :
    MRel C (upd ρ K w.heap.size) ((K, blk) :: H) next (w.alloc ob) ∧
      Ext C ρ H w (upd ρ K w.heap.size) ((K, blk) :: H) (w.alloc ob) := by
  have hne : ∀ k ∈ H.keys, k ≠ K := fun k hk e => hK (e ▸ hk)
  have hn0 : C.w0.heap.size ≤ w.heap.size := hm.below.size
  have hext : Ext C ρ H w (upd ρ K w.heap.size) ((K, blk) :: H) (w.alloc ob) := by
    refine ⟨fun b hb => ?_, fun k hk => ⟨List.mem_cons_of_mem _ hk, upd_ne _ (hne k hk)⟩, fun k e' t l hmem => ⟨l, List.mem_cons_of_mem _ hmem, Nat.le_refl _, fun c' fr hc => ⟨c', fr, ?_, rfl⟩⟩, by simp⟩
    · obtain ⟨h1, h2, h3⟩ := hb
      refine ⟨⟨h1, by simp; omega, fun k hk => ?_⟩, Below.heap_alloc _ _ _ h2⟩
      rcases List.mem_cons.1 hk with rfl | hk
      · simp only [upd_same]; omega
      · have hk' : k ∈ H.keys := hk
        rw [upd_ne _ (hne k hk')]; exact h3 k hk'
    · rw [Below.heap_alloc _ _ _ (lt_of_block hc)]; exact hc
  refine ⟨⟨hm.below.alloc hn0 _, ?_, ?_, ?_, ?_, ?_⟩, hext⟩
  · exact List.nodup_cons.2 ⟨hK, hm.nodup⟩
  · intro k hk
    rcases List.mem_cons.1 hk with rfl | hk
    · exact hlt
    · exact hm.lt k hk
  · intro k hk k' hk' heq
    rcases List.mem_cons.1 hk with rfl | hk1 <;> rcases List.mem_cons.1 hk' with rfl | hk1'
    · rfl
    · have hk2 : k' ∈ H.keys := hk1'
      simp only [upd_same, upd_ne _ (hne k' hk2)] at heq
      have := hm.key_lt hk2; omega
    · have hk2 : k ∈ H.keys := hk1
      simp only [upd_same, upd_ne _ (hne k hk2)] at heq
      have := hm.key_lt hk2; omega
    · have hk2 : k ∈ H.keys := hk1
      have hk3 : k' ∈ H.keys := hk1'
      rw [upd_ne _ (hne k hk2), upd_ne _ (hne k' hk3)] at heq
      exact hm.inj k hk2 k' hk3 heq
  · intro k hk
    rcases List.mem_cons.1 hk with rfl | hk
    · simp only [upd_same]; exact hn0
    · have hk2 : k ∈ H.keys := hk
      rw [upd_ne _ (hne k hk2)]; exact hm.low k hk2
  · intro k b hkb
    rcases List.mem_cons.1 hkb with heq | hkb
    · injection heq with h1 h2; subst h1; subst h2
      simp only [upd_same]
      exact hb _ _ _ hext (by show (w.heap.push _)[w.heap.size]? = _; simp)
    · have hk2 := mem_keys hkb
      rw [upd_ne _ (hne k hk2)]
      exact (hm.mem k b hkb).ext hext (Below.heap_alloc _ _ _ (hm.key_lt hk2))

theorem MRel.alloc {C : Ctx} {ρ : Nat → Nat} {H : Heap} {next : Nat} {w : World} {K : Nat} {c : Array Value} {e : TypeId} {blk : Bk}
    (hm : MRel C ρ H next w) (hK : K ∉ H.keys) (hlt : K < next)
    (hb : ∀ (ρ' : Nat → Nat) (H' : Heap) (w' : World), Ext C ρ H w ρ' H' w' → w'.heap[w.heap.size]? = some (.cells c e (0, 0)) → BkR C ρ' H' w' w.heap.size blk) :
    MRel C (upd ρ K w.heap.size) ((K, blk) :: H) next (w.alloc (.cells c e)) ∧
      Ext C ρ H w (upd ρ K w.heap.size) ((K, blk) :: H) (w.alloc (.cells c e)) := hm.allocO hK hlt hb

def Heap.up : Heap → Nat → Bk → Heap
  | [], _, _ => []
  | (j, x) :: r, k, b => match Nat.beq j k with | true => (j, b) :: r | false => (j, x) :: Heap.up r k b

theorem Heap.keys_up (H : Heap) (k : Nat) (b : Bk) : (H.up k b).keys = H.keys := by
  induction H with
  | nil => rfl
  | cons x r ih =>
    obtain ⟨j, y⟩ := x
    simp only [Heap.up]
    cases Nat.beq j k with
    | true => rfl
    | false => simp only [Heap.keys, List.map_cons] at ih ⊢; rw [ih]

theorem Heap.mem_up_same {H : Heap} {k : Nat} {b : Bk} (h : k ∈ H.keys) : (k, b) ∈ H.up k b := by
  induction H with
  | nil => simp [Heap.keys] at h
  | cons x r ih =>
    obtain ⟨j, y⟩ := x
    simp only [Heap.up]
    cases hb : Nat.beq j k with
    | true => have := beq_true hb; subst this; exact List.mem_cons_self
    | false =>
      have hne := beq_false hb
      rcases List.mem_cons.1 h with e | h
      · exact absurd e.symm hne
      · exact List.mem_cons_of_mem _ (ih h)

theorem Heap.mem_up_ne {H : Heap} {k j : Nat} {b x : Bk} (hne : j ≠ k) : (j, x) ∈ H.up k b ↔ (j, x) ∈ H := by
  induction H with
  | nil => simp [Heap.up]
  | cons y r ih =>
    obtain ⟨i, z⟩ := y
    simp only [Heap.up]
    cases hb : Nat.beq i k with
    | true =>
      have := beq_true hb; subst this
      simp [hne]
    | false => simp only [List.mem_cons, ih]

theorem Heap.mem_up_eq {H : Heap} {k : Nat} {b x : Bk} (hn : H.keys.Nodup) (h : (k, x) ∈ H.up k b) : x = b := by
  induction H with
  | nil => simp [Heap.up] at h
  | cons y r ih =>
    obtain ⟨i, z⟩ := y
    have hn' := List.nodup_cons.1 hn
    simp only [Heap.up] at h
    cases hb : Nat.beq i k with
    | true =>
      rw [hb] at h
      have := beq_true hb; subst this
      rcases List.mem_cons.1 h with e | h
      · injection e
      · exact absurd (mem_keys (H := r) h) hn'.1
    | false =>
      rw [hb] at h
      rcases List.mem_cons.1 h with e | h
      · injection e with e1 e2; exact absurd e1.symm (beq_false hb)
      · exact ih hn'.2 h

theorem Heap.mem_unique {H : Heap} {k : Nat} {x y : Bk} (hn : H.keys.Nodup) (hx : (k, x) ∈ H) (hy : (k, y) ∈ H) : x = y := by
  induction H with
  | nil => simp at hx
  | cons z r ih =>
    obtain ⟨i, u⟩ := z
    have hn' := List.nodup_cons.1 hn
    rcases List.mem_cons.1 hx with e | hx1 <;> rcases List.mem_cons.1 hy with e' | hy1
    · injection e with _ e2; injection e' with _ e4; rw [e2, e4]
    · injection e with e1 _; subst e1; exact absurd (mem_keys (H := r) hy1) hn'.1
    · injection e' with e1 _; subst e1; exact absurd (mem_keys (H := r) hx1) hn'.1
    · exact ih hn'.2 hx1 hy1

/-- A store into one of the call's own blocks. -/
theorem MRel.write {C : Ctx} {ρ : Nat → Nat} {H : Heap} {next : Nat} {w : World} {k : Nat} {ob nb : Bk} {c c' : Array Value} {e : TypeId}
    (hm : MRel C ρ H next w) (hk : (k, ob) ∈ H) (hc : w.heap[ρ k]? = some (.cells c e (0, 0))) (hs : c.size = c'.size)
    (hrow : ∀ e t l, ob = .row e t l → ∃ l', nb = .row e t l' ∧ l.length ≤ l'.length)
    (hb : ∀ (H' : Heap) (w' : World), Ext C ρ H w ρ H' w' → w'.heap[ρ k]? = some (.cells c' e (0, 0)) → BkR C ρ H' w' (ρ k) nb) :
    MRel C ρ (H.up k nb) next (w.setRow (ρ k) c') ∧ Ext C ρ H w ρ (H.up k nb) (w.setRow (ρ k) c') := by
  have hkk := mem_keys hk
  have hext : Ext C ρ H w ρ (H.up k nb) (w.setRow (ρ k) c') := by
    refine ⟨fun b hb => ?_, fun j hj => ⟨by rw [Heap.keys_up]; exact hj, rfl⟩, fun j e' t l hmem => ?_, by simp⟩
    · obtain ⟨h1, h2, h3⟩ := hb
      exact ⟨⟨h1, by simpa using h2, fun j hj => h3 j (by rwa [Heap.keys_up] at hj)⟩, setRow_other _ _ _ _ (fun e => h3 k hkk e.symm)⟩
    · by_cases hj : j = k
      · subst hj
        have := Heap.mem_unique hm.nodup hk hmem
        obtain ⟨l', hl, hle⟩ := hrow e' t l this
        refine ⟨l', by rw [← hl]; exact Heap.mem_up_same hkk, hle, fun c1 fr1 h1 => ?_⟩
        rw [hc] at h1; injection h1 with h1; injection h1 with h1 h2 h3
        subst h1; subst h2; subst h3
        exact ⟨c', (0, 0), setRow_heap _ _ _ _ _ _ hc, hs⟩
      · refine ⟨l, (Heap.mem_up_ne hj).2 hmem, Nat.le_refl _, fun c1 fr1 h1 => ⟨c1, fr1, ?_, rfl⟩⟩
        rw [setRow_other _ _ _ _ (fun e => hj (hm.inj j (mem_keys hmem) k hkk e))]; exact h1
  refine ⟨⟨?_, ?_, ?_, ?_, ?_, ?_⟩, hext⟩
  · exact hm.below.trans ⟨rfl, rfl, rfl, by simp, fun i hi => setRow_other _ _ _ _ (fun e => by have := hm.low k hkk; omega)⟩
  · rw [Heap.keys_up]; exact hm.nodup
  · rw [Heap.keys_up]; exact hm.lt
  · rw [Heap.keys_up]; exact hm.inj
  · rw [Heap.keys_up]; exact hm.low
  · intro j b hjb
    by_cases hj : j = k
    · subst hj
      rw [Heap.mem_up_eq hm.nodup hjb]
      exact hb _ _ hext (setRow_heap _ _ _ _ _ _ hc)
    · have hjb' := (Heap.mem_up_ne hj).1 hjb
      exact (hm.mem j b hjb').ext hext (setRow_other _ _ _ _ (fun e => hj (hm.inj j (mem_keys hjb') k hkk e)))

def mapSlots (p : Nat → Bool) (f : Nat → Nat → Nat → AV) : List (Nat × AV) → List (Nat × AV)
  | [] => []
  | (t, v) :: r => (t, v.map p f) :: mapSlots p f r

theorem look_map (p : Nat → Bool) (f : Nat → Nat → Nat → AV) (l : List (Nat × AV)) (t : Nat) : look (mapSlots p f l) t = (look l t).map p f := by
  induction l with
  | nil => rfl
  | cons x r ih =>
    obtain ⟨k, v⟩ := x
    simp only [mapSlots, look]
    cases Nat.beq k t <;> simp [ih]

def LoopA.map (p : Nat → Bool) (f : Nat → Nat → Nat → AV) (r : LoopA) : LoopA := { r with slots := mapSlots p f r.slots }

def mapEnt (p : Nat → Bool) (f : Nat → Nat → Nat → AV) : List (DK × AV) → List (DK × AV)
  | [] => []
  | (n, v) :: r => (n, v.map p f) :: mapEnt p f r

theorem MapR.map {R R' : AV → Value → Prop} {p : Nat → Bool} {f : Nat → Nat → Nat → AV} {k : KK} (h : ∀ x v, R x v → R' (x.map p f) v) : ∀ {l : List (DK × AV)} {es : List MapEntry}, MapR R k l es → MapR R' k (mapEnt p f l) es
  | [], [], _ => trivial
  | _ :: _, _ :: _, ⟨h1, h2, h3⟩ => ⟨h1, h _ _ h2, MapR.map h h3⟩
  | [], _ :: _, h => h.elim
  | _ :: _, [], h => h.elim

def Bk.map (p : Nat → Bool) (f : Nat → Nat → Nat → AV) : Bk → Bk
  | .vars e cells => .vars e (AV.maps p f cells)
  | .row e t l => .row e t l
  | .loop r => .loop (r.map p f)
  | .dic k l => .dic k (mapEnt p f l)
  | .any => .any

def Heap.keep (p : Nat → Bool) (f : Nat → Nat → Nat → AV) : Heap → Heap
  | [] => []
  | (k, b) :: r => match p k with | true => (k, b.map p f) :: Heap.keep p f r | false => Heap.keep p f r

theorem Heap.mem_keep {p : Nat → Bool} {f : Nat → Nat → Nat → AV} {H : Heap} {k : Nat} {b : Bk} :
    (k, b) ∈ H.keep p f ↔ p k = true ∧ ∃ b', (k, b') ∈ H ∧ b = b'.map p f := by
  induction H with
  | nil => simp [Heap.keep]
  | cons x r ih =>
    obtain ⟨j, y⟩ := x
    simp only [Heap.keep]
    cases hp : p j with
    | true =>
      simp only [List.mem_cons, ih]
      constructor
      · rintro (e | ⟨h1, b', h2, h3⟩)
        · injection e with e1 e2; subst e1; exact ⟨hp, y, Or.inl rfl, e2⟩
        · exact ⟨h1, b', Or.inr h2, h3⟩
      · rintro ⟨h1, b', h2 | h2, h3⟩
        · injection h2 with e1 e2; subst e1; subst e2; exact Or.inl (by rw [h3])
        · exact Or.inr ⟨h1, b', h2, h3⟩
    | false =>
      simp only [ih, List.mem_cons]
      constructor
      · rintro ⟨h1, b', h2, h3⟩; exact ⟨h1, b', Or.inr h2, h3⟩
      · rintro ⟨h1, b', h2 | h2, h3⟩
        · injection h2 with e1 e2; subst e1; rw [hp] at h1; cases h1
        · exact ⟨h1, b', h2, h3⟩

theorem Heap.keys_keep {p : Nat → Bool} {f : Nat → Nat → Nat → AV} {H : Heap} {k : Nat} :
    k ∈ (H.keep p f).keys ↔ p k = true ∧ k ∈ H.keys := by
  constructor
  · intro h
    obtain ⟨⟨k', b⟩, hb, e⟩ := List.mem_map.1 h
    subst e
    obtain ⟨h1, b', h2, _⟩ := Heap.mem_keep.1 hb
    exact ⟨h1, mem_keys h2⟩
  · rintro ⟨h1, h2⟩
    obtain ⟨⟨k', b⟩, hb, e⟩ := List.mem_map.1 h2
    subst e
    exact mem_keys (Heap.mem_keep.2 ⟨h1, b, hb, rfl⟩)

theorem Heap.nodup_keep {p : Nat → Bool} {f : Nat → Nat → Nat → AV} {H : Heap} (h : H.keys.Nodup) : (H.keep p f).keys.Nodup := by
  induction H with
  | nil => simp [Heap.keep, Heap.keys]
  | cons x r ih =>
    obtain ⟨j, y⟩ := x
    have h' := List.nodup_cons.1 h
    simp only [Heap.keep]
    cases hp : p j with
    | true => exact List.nodup_cons.2 ⟨fun hm => h'.1 (Heap.keys_keep.1 hm).2, ih h'.2⟩
    | false => exact ih h'.2

theorem BkR.mapC {C : Ctx} {ρ ρ' : Nat → Nat} {H H' : Heap} {w w' : World} {p : Nat → Bool} {f : Nat → Nat → Nat → AV} {b b' : Nat} {x : Bk}
    (hd : ∀ b c e fr, Ok C ρ H w b → w.heap[b]? = some (.cells c e fr) → Ok C ρ' H' w' b ∧ w'.heap[b]? = w.heap[b]?)
    (hv : ∀ x v, VR C ρ H w x v → VR C ρ' H' w' (x.map p f) v)
    (hb : w'.heap[b']? = w.heap[b]?) (hx : BkR C ρ H w b x) : BkR C ρ' H' w' b' (x.map p f) := by
  cases x with
  | vars e cells =>
    obtain ⟨c, h1, h2, h3⟩ := hx
    exact ⟨c, hb.trans h1, VRs.map hv h2, h3⟩
  | row e t l =>
    obtain ⟨c, h1, h2, h3, h4, h5⟩ := hx
    exact ⟨c, hb.trans h1, h2, h3, RdL.mono (fun x cs => Rd.monoC hd t x cs) _ _ h4, h5⟩
  | loop r =>
    obtain ⟨fn, tmps, d, h1, h2, h3⟩ := hx
    exact ⟨fn, tmps, d, hb.trans h1, h2, fun t => by simp only [LoopA.map, look_map]; exact hv _ _ (h3 t)⟩
  | dic k l => obtain ⟨es, n, h1, h2⟩ := hx; exact ⟨es, n, hb.trans h1, h2.map hv⟩
  | any => obtain ⟨o, h1⟩ := hx; exact ⟨o, hb.trans h1⟩

theorem BkR.map {C : Ctx} {ρ ρ' : Nat → Nat} {H H' : Heap} {w w' : World} {p : Nat → Bool} {f : Nat → Nat → Nat → AV} {b b' : Nat} {x : Bk}
    (hd : ∀ b, Ok C ρ H w b → Ok C ρ' H' w' b ∧ w'.heap[b]? = w.heap[b]?)
    (hv : ∀ x v, VR C ρ H w x v → VR C ρ' H' w' (x.map p f) v)
    (hb : w'.heap[b']? = w.heap[b]?) (hx : BkR C ρ H w b x) : BkR C ρ' H' w' b' (x.map p f) := BkR.mapC (fun b _ _ _ h _ => hd b h) hv hb hx

theorem RdL.take_drop {α : Type} {R : α → List Value → Prop} {n : Nat} (hn : ∀ x cs, R x cs → cs.length = n) :
    ∀ (l : List α) (cs : List Value) (a b : Nat), RdL R l cs → RdL R ((l.drop a).take b) ((cs.drop (a * n)).take (b * n)) := by
  have ht : ∀ (l : List α) (cs : List Value) (b : Nat), RdL R l cs → RdL R (l.take b) (cs.take (b * n)) := by
    intro l
    induction l with
    | nil => intro cs b h; simp [RdL] at h; subst h; simp [RdL]
    | cons x xs ih =>
      intro cs b h
      obtain ⟨c1, c2, e, h1, h2⟩ := h
      cases b with
      | zero => simp [RdL]
      | succ b =>
        refine ⟨c1, c2.take (b * n), ?_, h1, ih _ _ h2⟩
        rw [e, List.take_append, hn _ _ h1, Nat.succ_mul, List.take_of_length_le (by rw [hn _ _ h1]; omega)]
        congr 2; omega
  have hdr : ∀ (l : List α) (cs : List Value) (a : Nat), RdL R l cs → RdL R (l.drop a) (cs.drop (a * n)) := by
    intro l
    induction l with
    | nil => intro cs a h; simp [RdL] at h; subst h; simp [RdL]
    | cons x xs ih =>
      intro cs a h
      cases a with
      | zero => simpa using h
      | succ a =>
        obtain ⟨c1, c2, e, h1, h2⟩ := h
        have := ih c2 a h2
        rw [List.drop_succ_cons]
        have h0 : c1.drop ((a + 1) * n) = [] := List.drop_of_length_le (by rw [hn _ _ h1, Nat.succ_mul]; omega)
        rw [e, List.drop_append, hn _ _ h1, h0, List.nil_append]
        rw [show (a + 1) * n - n = a * n by rw [Nat.succ_mul]; omega]
        exact this
  intro l cs a b h
  exact ht _ _ _ (hdr _ _ _ h)

theorem RdL.first {α : Type} {R : α → List Value → Prop} {sz n c : Nat} (hn : ∀ x cs, R x cs → cs.length = sz) {l : List α} {cs : List Value} (hl : l.length = c) (h : n ≤ c) (hr : RdL R l cs) :
    (l.take n).length = n ∧ n * sz ≤ cs.length ∧ RdL R (l.take n) (cs.take (n * sz)) := by
  have h1 := RdL.length hn l cs hr
  have h2 := RdL.take_drop hn l cs 0 n hr
  rw [List.drop_zero, Nat.zero_mul, List.drop_zero] at h2
  exact ⟨by rw [List.length_take, hl]; omega, by rw [h1, hl]; exact Nat.mul_le_mul_right _ h, h2⟩

end Go.Vg

namespace Go.Vg
open Go Go.RowKit

def neK (k : Nat) : Nat → Bool := fun j => match Nat.beq j k with | true => false | false => true
theorem neK_true {k j : Nat} (h : neK k j = true) : j ≠ k := by
  unfold neK at h
  cases e : Nat.beq j k with
  | true => rw [e] at h; cases h
  | false => exact beq_false e
theorem neK_false {k j : Nat} (h : neK k j = false) : j = k := by
  unfold neK at h
  cases e : Nat.beq j k with
  | true => exact beq_true e
  | false => rw [e] at h; cases h
theorem neK_of {k j : Nat} (h : j ≠ k) : neK k j = true := by simp [neK, ne_beq h]
theorem neK_self (k : Nat) : neK k k = false := by simp [neK]

def dead : Nat → Nat → Nat → AV := fun _ _ _ => .no
def asData (t : Ty) (l : List t.T) : Nat → Nat → Nat → AV := fun _ off len => .d (.sl t) ((l.drop off).take len)

/-- What is known when some references are given up. -/
theorem SRel.keepTo {C : Ctx} {ρ ρ' : Nat → Nat} {σ : St} {H' : Heap} {next' : Nat} {a : Act} {w w' : World} {p : Nat → Bool} {f : Nat → Nat → Nat → AV}
    (h : SRel C ρ σ a w) (hm : MRel C ρ' H' next' w') (hv : ∀ x v, VR C ρ σ.H w x v → VR C ρ' H' w' (x.map p f) v) (hd : ∀ b, Ok C ρ σ.H w b → Ok C ρ' H' w' b ∧ w'.heap[b]? = w.heap[b]?) (hsz : w.heap.size ≤ w'.heap.size) :
    SRel C ρ' { slots := mapSlots p f σ.slots, H := H', next := next', n := σ.n } a w' :=
  ⟨hm, fun t => by rw [look_map]; exact hv _ _ (h.slots t), h.size, h.defers.mono hd hsz⟩

theorem Ok.keep {C : Ctx} {ρ : Nat → Nat} {H : Heap} {w : World} {p : Nat → Bool} {f : Nat → Nat → Nat → AV} {b : Nat} (h : Ok C ρ H w b) : Ok C ρ (H.keep p f) w b :=
  ⟨h.1, h.2.1, fun k hk => h.2.2 k (Heap.keys_keep.1 hk).2⟩

theorem list_window {α : Type} (c : List α) (N a b : Nat) (h : a + b ≤ N) : ((c.take N).drop a).take b = (c.drop a).take b := by
  rw [List.drop_take, List.take_take, Nat.min_eq_left (by omega)]

/-- The elements of a slice of one of the call's own rows. -/
theorem MRel.ownCells {C : Ctx} {ρ : Nat → Nat} {H : Heap} {next : Nat} {w : World} (hm : MRel C ρ H next w) {k off len : Nat} {e : TypeId} {t : Ty} {l : List t.T}
    (hk : (k, .row e t l) ∈ H) (hl : off + len ≤ l.length) : ∃ c, w.heap[ρ k]? = some (.cells c e (0, 0)) ∧ off * t.size + ((l.drop off).take len).length * t.size ≤ c.size ∧ ((l.drop off).take len).length = len ∧ len ≤ lim ∧
      RdL (Rd (Ok C ρ H w) w t) ((l.drop off).take len) ((c.toList.drop (off * t.size)).take (((l.drop off).take len).length * t.size)) := by
  obtain ⟨c, h1, h2, h3, h4, _⟩ := hm.mem k _ hk
  have hlen : ((l.drop off).take len).length = len := by simp; omega
  have hle : (off + len) * t.size ≤ l.length * t.size := Nat.mul_le_mul_right _ hl
  rw [Nat.add_mul] at hle
  refine ⟨c, h1, by rw [hlen]; omega, hlen, by omega, ?_⟩
  have := RdL.take_drop (fun x cs => Rd.length t x cs) l _ off len h4
  rw [list_window _ _ _ _ hle] at this
  rw [hlen]
  exact this

/-- A row of the call's own is given away: its slices are data from now on. -/
theorem MRel.thaw {C : Ctx} {ρ : Nat → Nat} {H : Heap} {next : Nat} {w : World} (hm : MRel C ρ H next w) {k : Nat} {e : TypeId} {t : Ty} {l : List t.T}
    (hk : (k, .row e t l) ∈ H) : MRel C ρ (H.keep (neK k) (asData t l)) next w ∧
      (∀ x v, VR C ρ H w x v → VR C ρ (H.keep (neK k) (asData t l)) w (x.map (neK k) (asData t l)) v) ∧
      ∀ n, Fr C n ρ H w ρ (H.keep (neK k) (asData t l)) w := by
  have hkk := mem_keys hk
  have hd : ∀ b, Ok C ρ H w b → Ok C ρ (H.keep (neK k) (asData t l)) w b ∧ w.heap[b]? = w.heap[b]? := fun b hb => ⟨hb.keep, rfl⟩
  have hokk : Ok C ρ (H.keep (neK k) (asData t l)) w (ρ k) :=
    ⟨Or.inr (hm.low k hkk), hm.key_lt hkk, fun j hj e => by
      obtain ⟨h1, h2⟩ := Heap.keys_keep.1 hj
      exact neK_true h1 (hm.inj j h2 k hkk e)⟩
  have hrows : ∀ j e' t' l', (j, Bk.row e' t' l') ∈ H → neK k j = true → (j, Bk.row e' t' l') ∈ H.keep (neK k) (asData t l) :=
    fun j e' t' l' hj hp => Heap.mem_keep.2 ⟨hp, _, hj, rfl⟩
  have hv : ∀ x v, VR C ρ H w x v → VR C ρ (H.keep (neK k) (asData t l)) w (x.map (neK k) (asData t l)) v := by
    intro x v hx
    refine VR.map hd (fun j hj hp => ⟨Heap.keys_keep.2 ⟨hp, hj⟩, rfl⟩) (fun j e' t' l' hj hp => ⟨l', hrows j e' t' l' hj hp, Nat.le_refl _, fun c fr h => ⟨c, fr, h, rfl⟩⟩) ?_ hx
    intro j off len v hp hov
    have := neK_false hp
    subst this
    cases hov with
    | own h hl hc hmx hb hs ha =>
      have hu := Heap.mem_unique hm.nodup hk h
      injection hu with hu1 hu2 hu3
      subst hu1; subst hu2
      have hu3 := eq_of_heq hu3
      subst hu3
      obtain ⟨c, h1, h2, h3, h4, h5⟩ := hm.ownCells hk hl
      refine .d ⟨_, ⟨_, _, by rw [h3], by rw [h3]; exact hc, by rw [h3]; exact h4, ?_⟩, rfl⟩
      by_cases hnil : (l.drop off).take len = []
      · exact Or.inl hnil
      · have hpos : 0 < len := by
          rw [← h3]; exact List.length_pos_iff.2 hnil
        have ha' := ha.resolve_right (fun h => by omega)
        exact Or.inr ⟨ρ j, off * t.size, c, e, (0, 0), ha', hokk, h1, h2, RdL.mono (fun x cs => Rd.mono hd t x cs) _ _ h5⟩
  refine ⟨⟨hm.below, Heap.nodup_keep hm.nodup, fun j hj => hm.lt j (Heap.keys_keep.1 hj).2, fun j hj j' hj' => hm.inj j (Heap.keys_keep.1 hj).2 j' (Heap.keys_keep.1 hj').2,
    fun j hj => hm.low j (Heap.keys_keep.1 hj).2, fun j b hj => ?_⟩, hv, fun n => ⟨hd, fun j _ hj => ⟨(Heap.keys_keep.1 hj).2, rfl⟩, fun j e' t' l' _ hj hj' => ⟨l', hrows j e' t' l' hj (Heap.keys_keep.1 hj').1, Nat.le_refl _, fun c fr h => ⟨c, fr, h, rfl⟩⟩, Nat.le_refl _⟩⟩
  obtain ⟨_, b', hb', e'⟩ := Heap.mem_keep.1 hj
  subst e'
  exact (hm.mem j b' hb').map hd hv rfl

/-- A row is replaced by another one, which lies in its place or in a new block. -/
theorem MRel.swap {C : Ctx} {ρ : Nat → Nat} {H : Heap} {next : Nat} {w w' : World} (hm : MRel C ρ H next w) {k K B : Nat} {e : TypeId} {t : Ty} {l l' : List t.T}
    (hk : (k, .row e t l) ∈ H) (hK : K ∉ H.keys) (hlt : K < next) (hB : B = ρ k ∨ w.heap.size ≤ B) (hg : w.grownBy w' (some (ρ k)))
    (hb : ∀ (ρ' : Nat → Nat) (H' : Heap), (∀ b, Ok C ρ H w b → Ok C ρ' H' w' b ∧ w'.heap[b]? = w.heap[b]?) → BkR C ρ' H' w' B (.row e t l')) :
    MRel C (upd ρ K B) ((K, .row e t l') :: H.keep (neK k) dead) next w' ∧
      (∀ x v, VR C ρ H w x v → VR C (upd ρ K B) ((K, .row e t l') :: H.keep (neK k) dead) w' (x.map (neK k) dead) v) ∧
      ∀ n, n ≤ K → Fr C n ρ H w (upd ρ K B) ((K, .row e t l') :: H.keep (neK k) dead) w' := by
  have hkk := mem_keys hk
  have hne : ∀ j ∈ H.keys, j ≠ K := fun j hj e => hK (e ▸ hj)
  have hlow := hm.low k hkk
  have hn0 : C.w0.heap.size ≤ w.heap.size := hm.below.size
  have hBlow : C.w0.heap.size ≤ B := by rcases hB with h | h <;> omega
  have hBne : ∀ j ∈ H.keys, j ≠ k → ρ j ≠ B := by
    intro j hj hjk e
    rcases hB with h | h
    · exact hjk (hm.inj j hj k hkk (e.trans h))
    · have := hm.key_lt hj; omega
  have hblk : ∀ j ∈ H.keys, j ≠ k → w'.heap[ρ j]? = w.heap[ρ j]? := fun j hj hjk =>
    hg.block _ (hm.key_lt hj) (fun e => by injection e with e; exact hjk (hm.inj j hj k hkk e))
  have hd : ∀ b, Ok C ρ H w b → Ok C (upd ρ K B) ((K, .row e t l') :: H.keep (neK k) dead) w' b ∧ w'.heap[b]? = w.heap[b]? := by
    rintro b ⟨h1, h2, h3⟩
    refine ⟨⟨h1, Nat.lt_of_lt_of_le h2 hg.size, fun j hj => ?_⟩, hg.block _ h2 (fun e => by injection e with e; exact h3 k hkk e.symm)⟩
    rcases List.mem_cons.1 hj with rfl | hj
    · simp only [upd_same]
      rcases hB with h | h
      · rw [h]; exact h3 k hkk
      · omega
    · obtain ⟨_, h5⟩ := Heap.keys_keep.1 hj
      rw [upd_ne _ (hne j h5)]; exact h3 j h5
  have hrows : ∀ j e' t' l'', (j, Bk.row e' t' l'') ∈ H → neK k j = true → (j, Bk.row e' t' l'') ∈ ((K, Bk.row e t l') :: H.keep (neK k) dead) :=
    fun j e' t' l'' hj hp => List.mem_cons_of_mem _ (Heap.mem_keep.2 ⟨hp, _, hj, rfl⟩)
  have hv : ∀ x v, VR C ρ H w x v → VR C (upd ρ K B) ((K, .row e t l') :: H.keep (neK k) dead) w' (x.map (neK k) dead) v := by
    intro x v hx
    refine VR.map hd (fun j hj hp => ⟨List.mem_cons_of_mem _ (Heap.keys_keep.2 ⟨hp, hj⟩), upd_ne _ (hne j hj)⟩)
      (fun j e' t' l'' hj hp => ⟨l'', hrows j e' t' l'' hj hp, Nat.le_refl _, fun c fr h => ⟨c, fr, ?_, rfl⟩⟩) (fun _ _ _ _ _ _ => .no) hx
    rw [hblk j (mem_keys hj) (neK_true hp)]; exact h
  refine ⟨⟨?_, ?_, ?_, ?_, ?_, ?_⟩, hv, fun n hn => ⟨hd, fun j hjn hj => ?_, fun j e' t' l'' hjn hj hj' => ?_, hg.size⟩⟩
  · exact hm.below.grown hg hn0 (fun j e => by injection e with e; omega)
  · exact List.nodup_cons.2 ⟨fun h => hK (Heap.keys_keep.1 h).2, Heap.nodup_keep hm.nodup⟩
  · intro j hj
    rcases List.mem_cons.1 hj with rfl | hj
    · exact hlt
    · exact hm.lt j (Heap.keys_keep.1 hj).2
  · intro j hj j' hj' heq
    rcases List.mem_cons.1 hj with rfl | hj1 <;> rcases List.mem_cons.1 hj' with rfl | hj1'
    · rfl
    · obtain ⟨h4, h5⟩ := Heap.keys_keep.1 hj1'
      simp only [upd_same, upd_ne _ (hne j' h5)] at heq
      exact absurd heq.symm (hBne j' h5 (neK_true h4))
    · obtain ⟨h4, h5⟩ := Heap.keys_keep.1 hj1
      simp only [upd_same, upd_ne _ (hne j h5)] at heq
      exact absurd heq (hBne j h5 (neK_true h4))
    · obtain ⟨_, h5⟩ := Heap.keys_keep.1 hj1
      obtain ⟨_, h7⟩ := Heap.keys_keep.1 hj1'
      rw [upd_ne _ (hne j h5), upd_ne _ (hne j' h7)] at heq
      exact hm.inj j h5 j' h7 heq
  · intro j hj
    rcases List.mem_cons.1 hj with rfl | hj
    · simp only [upd_same]; exact hBlow
    · obtain ⟨_, h5⟩ := Heap.keys_keep.1 hj
      rw [upd_ne _ (hne j h5)]; exact hm.low j h5
  · intro j b hj
    rcases List.mem_cons.1 hj with heq | hj
    · injection heq with h1 h2; subst h1; subst h2
      simp only [upd_same]
      exact hb _ _ hd
    · obtain ⟨h4, b', hb', e'⟩ := Heap.mem_keep.1 hj
      subst e'
      have h5 := mem_keys hb'
      rw [upd_ne _ (hne j h5)]
      exact (hm.mem j b' hb').map hd hv (hblk j h5 (neK_true h4))
  · rcases List.mem_cons.1 hj with rfl | hj
    · omega
    · obtain ⟨_, h5⟩ := Heap.keys_keep.1 hj
      exact ⟨h5, upd_ne _ (hne j h5)⟩
  · rcases List.mem_cons.1 hj' with rfl | hj'
    · omega
    · obtain ⟨h4, h5⟩ := Heap.keys_keep.1 hj'
      refine ⟨l'', hrows j e' t' l'' hj h4, Nat.le_refl _, fun c fr h => ⟨c, fr, ?_, rfl⟩⟩
      rw [hblk j h5 (neK_true h4)]; exact h

end Go.Vg

namespace Go.Vg
open Go Go.RowKit

/-- A computation that may part, and may ask for something to be shown. -/
inductive T (α : Type) where
  | ok (a : α)
  | ite (b : Bool) (x y : T α)
  | need (p : Prop) [d : Decidable p] (x : T α)
  | bad

def bcase (b : Bool) (x y : Prop) : Prop := match b with | true => x | false => y
theorem bcase_intro {b : Bool} {x y : Prop} (h : b = true → x) (h' : b = false → y) : bcase b x y := by cases b; exact h' rfl; exact h rfl
theorem bcase_true {x y : Prop} : bcase true x y = x := rfl
theorem bcase_false {x y : Prop} : bcase false x y = y := rfl

def T.holds {α : Type} : T α → (α → Prop) → Prop
  | .ok a, K => K a
  | .ite b x y, K => bcase b (x.holds K) (y.holds K)
  | @T.need _ p _ x, K => p ∧ x.holds K
  | .bad, _ => False

def T.bind {α β : Type} : T α → (α → T β) → T β
  | .ok a, f => f a
  | .ite b x y, f => .ite b (x.bind f) (y.bind f)
  | @T.need _ p d x, f => @T.need _ p d (x.bind f)
  | .bad, _ => .bad

def T.ofO {α : Type} : Option α → T α
  | some a => .ok a
  | none => .bad

theorem T.holds_bind {α β : Type} {x : T α} {f : α → T β} {K : β → Prop} (h : (x.bind f).holds K) : x.holds (fun a => (f a).holds K) := by
  induction x with
  | ok a => exact h
  | ite b x y hx hy =>
    simp only [T.bind, T.holds] at h ⊢
    cases b
    · exact hy h
    · exact hx h
  | need p x hx => exact ⟨h.1, hx h.2⟩
  | bad => exact h

theorem T.holds_mono {α : Type} {x : T α} {K K' : α → Prop} (hk : ∀ a, K a → K' a) (h : x.holds K) : x.holds K' := by
  induction x with
  | ok a => exact hk _ h
  | ite b x y hx hy =>
    simp only [T.holds] at h ⊢
    cases b
    · exact hy h
    · exact hx h
  | need p x hx => exact ⟨h.1, hx h.2⟩
  | bad => exact h

/-- The one way through, where nothing is open. -/
def T.toO {α : Type} : T α → Option α
  | .ok a => some a
  | .ite b x y => match b with
    | true => x.toO
    | false => y.toO
  | @T.need _ _ d x => match d with
    | isTrue _ => x.toO
    | isFalse _ => none
  | .bad => none

theorem T.holds_toO {α : Type} {x : T α} {a : α} {K : α → Prop} (h : x.toO = some a) (hk : K a) : x.holds K := by
  induction x with
  | ok b => simp only [T.toO, Option.some.injEq] at h; subst h; exact hk
  | ite b x y hx hy =>
    simp only [T.toO] at h
    cases b
    · exact hy h
    · exact hx h
  | @need p d x hx =>
    simp only [T.toO] at h
    cases d with
    | isTrue hp => exact ⟨hp, hx h⟩
    | isFalse hp => cases h
  | bad => cases h

/-- One of the ways through holds. -/
inductive T.Leaf {α : Type} : T α → α → Prop where
  | ok {a : α} : T.Leaf (.ok a) a
  | t {x y : T α} {a : α} (h : T.Leaf x a) : T.Leaf (.ite true x y) a
  | f {x y : T α} {a : α} (h : T.Leaf y a) : T.Leaf (.ite false x y) a
  | need {p : Prop} {d : Decidable p} {x : T α} {a : α} (hp : p) (h : T.Leaf x a) : T.Leaf (@T.need _ p d x) a

theorem T.leaf {α : Type} {x : T α} {K : α → Prop} (h : x.holds K) : ∃ a, x.Leaf a ∧ K a := by
  induction x with
  | ok a => exact ⟨a, .ok, h⟩
  | ite b x y hx hy =>
    simp only [T.holds] at h
    cases b
    · obtain ⟨a, h1, h2⟩ := hy h; exact ⟨a, .f h1, h2⟩
    · obtain ⟨a, h1, h2⟩ := hx h; exact ⟨a, .t h1, h2⟩
  | need p x hx => obtain ⟨a, h1, h2⟩ := hx h.2; exact ⟨a, .need h.1 h1, h2⟩
  | bad => exact h.elim

theorem T.Leaf.bind {α β : Type} {x : T α} {f : α → T β} {b : β} (h : (x.bind f).Leaf b) : ∃ a, x.Leaf a ∧ (f a).Leaf b := by
  induction x with
  | ok a => exact ⟨a, .ok, h⟩
  | ite c x y hx hy =>
    simp only [T.bind] at h
    cases h with
    | t h => obtain ⟨a, h1, h2⟩ := hx h; exact ⟨a, .t h1, h2⟩
    | f h => obtain ⟨a, h1, h2⟩ := hy h; exact ⟨a, .f h1, h2⟩
  | need p x hx =>
    simp only [T.bind] at h
    cases h with
    | need hp h => obtain ⟨a, h1, h2⟩ := hx h; exact ⟨a, .need hp h1, h2⟩
  | bad => cases h

theorem T.Leaf.ofO {α : Type} {o : Option α} {a : α} (h : (T.ofO o).Leaf a) : o = some a := by
  cases o with
  | none => cases h
  | some b => cases h; rfl

/-- A Go constant. -/
def constAV : Value → AV
  | .bool b => .d .bool b
  | .int k n => match decide (k.min ≤ n) && decide (n ≤ k.max) with | true => .d (.int k) n | false => .no
  | .string s => match Nat.ble s.data.toList.length lim with | true => .d .str s.data.toList | false => .no
  | .slice none 0 0 => .nsl
  | .pointer none => .nilp
  | .nilIface => .nili
  | _ => .no

def constAVs : List Value → List AV
  | [] => []
  | v :: vs => constAV v :: constAVs vs

def allOne : List Value → Bool
  | [] => true
  | v :: vs => match v.oneCell' with | true => allOne vs | false => false

/-- A constant that may be a struct or an array. -/
def constAg : Value → AV
  | .agg cs => match allOne cs.toList with | true => .ag (constAVs cs.toList) | false => .no
  | v => constAV v

def St.eval (σ : St) : Operand → AV
  | .tmp t => look σ.slots t
  | .const v => constAg v
  | .func f => .fn f [] []
  | .global _ => .no

def Heap.find : Heap → Nat → Option Bk
  | [], _ => none
  | (j, b) :: r, k => match Nat.beq j k with | true => some b | false => Heap.find r k

theorem Heap.find_mem {H : Heap} {k : Nat} {b : Bk} (h : H.find k = some b) : (k, b) ∈ H := by
  induction H with
  | nil => cases h
  | cons x r ih =>
    obtain ⟨j, y⟩ := x
    simp only [Heap.find] at h
    cases hb : Nat.beq j k with
    | true => rw [hb] at h; have := beq_true hb; subst this; injection h with h; subst h; exact List.mem_cons_self
    | false => rw [hb] at h; exact List.mem_cons_of_mem _ (ih h)

def nilOf : (t : Ty) → Option t.T
  | .sl _ => some []
  | _ => none

def packS (t : Ty) : List AV → Option (t.T × List AV)
  | .d u x :: r => match u.as t x with
    | some y => some (y, r)
    | none => none
  | .nsl :: r => match nilOf t with
    | some y => some (y, r)
    | none => none
  | _ => none

/-- Cells that hold a datum of type t: the datum, and the cells behind it. -/
def pack : (t : Ty) → List AV → Option (t.T × List AV)
  | .int k => packS (.int k)
  | .bool => packS .bool
  | .str => packS .str
  | .sl t => packS (.sl t)
  | .unit => fun r => some ((), r)
  | .pair t u => fun r => match pack t r with
    | some (x, r') => match pack u r' with
      | some (y, r'') => some ((x, y), r'')
      | none => none
    | none => none
  | .arr n t => packN (pack t) n
where packN {α : Type} (f : List AV → Option (α × List AV)) : Nat → List AV → Option (List α × List AV)
  | 0, r => some ([], r)
  | n + 1, r => match f r with
    | some (x, r') => match packN f n r' with
      | some (xs, r'') => some (x :: xs, r'')
      | none => none
    | none => none

/-- The cells of a datum. -/
def unpack : (t : Ty) → t.T → List AV
  | .int k, x => [.d (.int k) x]
  | .bool, x => [.d .bool x]
  | .str, x => [.d .str x]
  | .sl t, x => [.d (.sl t) x]
  | .unit, _ => []
  | .pair t u, x => unpack t x.1 ++ unpack u x.2
  | .arr n t, x => unpackN (unpack t) t.dflt n x
where unpackN {α : Type} (f : α → List AV) (d : α) : Nat → List α → List AV
  | 0, _ => []
  | n + 1, l => f (l.headD d) ++ unpackN f d n l.tail

/-- An abstract value as a datum of type t. -/
def toD (t : Ty) : AV → Option t.T
  | .d u x => u.as t x
  | .nsl => nilOf t
  | .ag cells => match t.agg with
    | true => match pack t cells with
      | some (x, []) => some x
      | _ => none
    | false => none
  | _ => none

/-- The same, a slice of one of the call's own rows being lent. -/
def toDL (H : Heap) (t : Ty) : AV → Option t.T
  | .own k off len => match t with
    | .sl u => match H.find k with
      | some (.row _ v l) => (v.sl).as (.sl u) ((l.drop off).take len)
      | _ => none
    | _ => none
  | .sv k o n c => match t with
    | .sl u => match H.find k with
      | some (.vars _ cells) => match Nat.ble o cells.length, pack (.arr c u) (cells.drop o) with
        | true, some (l, _) => some (List.take n l)
        | _, _ => none
      | _ => none
    | _ => none
  | x => toD t x

/-- The cells of an abstract value. -/
def cellsOf : AV → Option (List AV)
  | .d t x => some (unpack t x)
  | .ag cells => some cells
  | .ptr k off => some [.ptr k off]
  | .efp k i f => some [.efp k i f]
  | .own k off len => some [.own k off len]
  | .ox k off len => some [.ox k off len]
  | .sv k o n c => some [.sv k o n c]
  | .nsl => some [.nsl]
  | .fn f a b => some [.fn f a b]
  | .yld l => some [.yld l]
  | .mp k => some [.mp k]
  | .nilp => some [.nilp]
  | .nili => some [.nili]
  | .nni => some [.nni]
  | .ifc k t x => some [.ifc k t x]
  | _ => none

/-- The type of plain data of a Go type. -/
def tyOf (P : Program) : Nat → TypeId → Option Ty
  | 0, _ => none
  | n + 1, t => match P.underlying t with
    | some (.int k) => some (.int k)
    | some .bool => some .bool
    | some .string => some .str
    | some (.slice e) => (tyOf P n e).map .sl
    | some (.array m e) => (tyOf P n e).map (.arr m)
    | some (.struct fs) => tyFs (tyOf P n) fs.toList 0
    | _ => none
where tyFs (f : TypeId → Option Ty) : List Field → Nat → Option Ty
  | [], _ => some .unit
  | x :: r, off => match Nat.beq x.offset off with
    | true => match f x.type with
      | some t => (tyFs f r (off + t.size)).map (.pair t)
      | none => none
    | false => none

def aggOf (P : Program) (t : TypeId) : Option Bool :=
  match P.underlying t with
  | some (.struct _) | some (.array _ _) => some true
  | some _ => some false
  | none => none

def sizeAt (P : Program) (t : TypeId) : Option Nat := (P.info? t).map (·.size)

/-- Is one of the cells a nil slice? -/
def anyNsl : List AV → Bool
  | [] => false
  | .nsl :: _ => true
  | _ :: r => anyNsl r

/-- A struct or an array out of its cells. -/
def aggAV (P : Program) (t : TypeId) (cells : List AV) : AV :=
  match tyOf P 20 t with
  | some u => match u.agg with
    | true => match anyNsl cells with
      | true => .ag cells
      | false => match pack u cells with
        | some (x, []) => .d u x
        | _ => .ag cells
    | false => .ag cells
  | none => .ag cells

/-- Cells read out of a list of cells, as a value of type t. -/
def readAV (P : Program) (t : TypeId) (cells : List AV) (off : Nat) : Option AV :=
  match aggOf P t, sizeAt P t with
  | some true, some n => match Nat.ble (off + n) cells.length with
    | true => some (aggAV P t ((cells.drop off).take n))
    | false => none
  | some false, some _ => cells[off]?
  | _, _ => none

end Go.Vg

namespace Go.Vg
open Go Go.RowKit

section
variable {C : Ctx} {ρ : Nat → Nat} {H : Heap} {w : World}

theorem RdV.scalar {ok : Nat → Prop} {t : Ty} {x : t.T} {v : Value} (ht : t.agg = false) (h : RdV ok w t x v) : Rd ok w t x [v] := by
  obtain ⟨cs, h1, h2⟩ := h
  simp only [vOf, ht] at h2
  simp at h2
  subst h2; exact h1

theorem RdV.of_scalar {ok : Nat → Prop} {t : Ty} {x : t.T} {v : Value} (ht : t.agg = false) (h : Rd ok w t x [v]) : RdV ok w t x v :=
  ⟨[v], h, by simp [vOf, ht]⟩

theorem VR.datum {t : Ty} {x : t.T} {v : Value} (h : VR C ρ H w (.d t x) v) : RdV (Ok C ρ H w) w t x v := by
  cases h with
  | d h => exact h

theorem VR.as {t u : Ty} {x : t.T} {y : u.T} {v : Value} (h : VR C ρ H w (.d t x) v) (e : t.as u x = some y) : RdV (Ok C ρ H w) w u y v := by
  obtain ⟨e, he⟩ := Ty.as_some e
  subst e
  subst he
  exact h.datum

theorem VRs.length {as : List AV} {vs : List Value} (h : VRs C ρ H w as vs) : as.length = vs.length := by
  induction as generalizing vs with
  | nil => cases h; rfl
  | cons a as ih =>
    cases h with
    | cons h1 h2 => simp [ih h2]

theorem VRs.append {as bs : List AV} {vs us : List Value} (h : VRs C ρ H w as vs) (h' : VRs C ρ H w bs us) : VRs C ρ H w (as ++ bs) (vs ++ us) := by
  induction as generalizing vs with
  | nil => cases h; exact h'
  | cons a as ih =>
    cases h with
    | cons h1 h2 => exact .cons h1 (ih h2)

theorem VRs.get {as : List AV} {vs : List Value} (h : VRs C ρ H w as vs) {i : Nat} {a : AV} (ha : as[i]? = some a) : ∃ v, vs[i]? = some v ∧ VR C ρ H w a v := by
  induction as generalizing vs i with
  | nil => simp at ha
  | cons b as ih =>
    cases h with
    | cons h1 h2 =>
      cases i with
      | zero => simp at ha; subst ha; exact ⟨_, rfl, h1⟩
      | succ i => simpa using ih h2 (by simpa using ha)

theorem VRs.drop {as : List AV} {vs : List Value} (h : VRs C ρ H w as vs) (n : Nat) : VRs C ρ H w (as.drop n) (vs.drop n) := by
  induction n generalizing as vs with
  | zero => exact h
  | succ n ih =>
    cases h with
    | nil => simp; exact .nil
    | cons h1 h2 => simpa using ih h2

theorem VRs.take {as : List AV} {vs : List Value} (h : VRs C ρ H w as vs) (n : Nat) : VRs C ρ H w (as.take n) (vs.take n) := by
  induction n generalizing as vs with
  | zero => simp; exact .nil
  | succ n ih =>
    cases h with
    | nil => simp; exact .nil
    | cons h1 h2 => simpa using VRs.cons h1 (ih h2)

theorem constAV_sound (v : Value) : VR C ρ H w (constAV v) v := by
  unfold constAV
  split
  · exact .d ⟨_, rfl, rfl⟩
  · rename_i k n
    split
    · rename_i h
      simp only [Bool.and_eq_true, decide_eq_true_eq] at h
      exact .d ⟨_, ⟨rfl, h.1, h.2⟩, rfl⟩
    · exact .no
  · rename_i s
    split
    · rename_i h
      exact .d ⟨_, ⟨rfl, Nat.le_of_ble_eq_true h⟩, rfl⟩
    · exact .no
  · exact .nsl
  · exact .nilp
  · exact .nili
  · exact .no

theorem constAVs_sound (vs : List Value) : VRs C ρ H w (constAVs vs) vs := by
  induction vs with
  | nil => exact .nil
  | cons v vs ih => exact .cons (constAV_sound v) ih

theorem allOne_sound {vs : List Value} (h : allOne vs = true) : ∀ v ∈ vs, v.oneCell' = true := by
  induction vs with
  | nil => intro v hv; cases hv
  | cons u vs ih =>
    intro v hv
    simp only [allOne] at h
    cases hu : u.oneCell' with
    | false => rw [hu] at h; cases h
    | true =>
      rw [hu] at h
      rcases List.mem_cons.1 hv with rfl | hv
      · exact hu
      · exact ih h v hv

theorem unpackN_sound {α : Type} {R : α → List Value → Prop} {f : α → List AV} {d : α} (hf : ∀ x cs, R x cs → VRs C ρ H w (f x) cs) :
    ∀ (l : List α) (cs : List Value), RdL R l cs → VRs C ρ H w (unpack.unpackN f d l.length l) cs
  | [], cs, h => by simp [RdL] at h; subst h; exact .nil
  | x :: xs, cs, ⟨c1, c2, e, h1, h2⟩ => by
    subst e
    exact (hf x c1 h1).append (unpackN_sound hf xs c2 h2)

theorem unpack_sound : ∀ (t : Ty) (x : t.T) (cs : List Value), Rd (Ok C ρ H w) w t x cs → VRs C ρ H w (unpack t x) cs
  | .int k, x, cs, h => by obtain ⟨e, h'⟩ := h; subst e; exact .cons (.d ⟨_, ⟨rfl, h'⟩, rfl⟩) .nil
  | .bool, x, cs, h => by obtain rfl : cs = [.bool x] := h; exact .cons (.d ⟨_, rfl, rfl⟩) .nil
  | .str, x, cs, h => by obtain ⟨e, h'⟩ := h; subst e; exact .cons (.d ⟨_, ⟨rfl, h'⟩, rfl⟩) .nil
  | .sl t, x, cs, h => by
    have h0 := h
    obtain ⟨a, cap, e, _⟩ := h
    subst e
    exact .cons (.d ⟨_, h0, rfl⟩) .nil
  | .unit, x, cs, h => by obtain rfl : cs = [] := h; exact .nil
  | .pair t u, x, cs, h => by
    obtain ⟨c1, c2, e, h1, h2⟩ := h
    subst e
    exact (unpack_sound t _ _ h1).append (unpack_sound u _ _ h2)
  | .arr n t, x, cs, h => by
    obtain ⟨e, h'⟩ := h
    have := unpackN_sound (d := t.dflt) (fun x cs => unpack_sound t x cs) x cs h'
    rw [e] at this
    exact this

theorem packN_sound {α : Type} {R : α → List Value → Prop} {f : List AV → Option (α × List AV)}
    (hf : ∀ cells x r vs, f cells = some (x, r) → VRs C ρ H w cells vs → ∃ c1 c2, vs = c1 ++ c2 ∧ R x c1 ∧ VRs C ρ H w r c2) :
    ∀ (n : Nat) (cells : List AV) (xs : List α) (r : List AV) (vs : List Value), pack.packN f n cells = some (xs, r) → VRs C ρ H w cells vs →
      xs.length = n ∧ ∃ c1 c2, vs = c1 ++ c2 ∧ RdL R xs c1 ∧ VRs C ρ H w r c2
  | 0, cells, xs, r, vs, h, hv => by
    simp only [pack.packN] at h
    injection h with h; injection h with h1 h2; subst h1; subst h2
    exact ⟨rfl, [], vs, rfl, rfl, hv⟩
  | n + 1, cells, xs, r, vs, h, hv => by
    simp only [pack.packN] at h
    split at h
    · rename_i x r' hx
      split at h
      · rename_i ys r'' hy
        injection h with h; injection h with h1 h2; subst h1; subst h2
        obtain ⟨c1, c2, e, h1, h2⟩ := hf _ _ _ _ hx hv
        obtain ⟨hl, d1, d2, e', h3, h4⟩ := packN_sound hf n _ _ _ _ hy h2
        refine ⟨by simp [hl], c1 ++ d1, d2, by rw [e, e', List.append_assoc], ⟨c1, d1, rfl, h1, h3⟩, h4⟩
      · cases h
    · cases h

theorem nilOf_sound {ok : Nat → Prop} {t : Ty} {y : t.T} (h : nilOf t = some y) : Rd ok w t y [.slice none 0 0] := by
  cases t <;> first | cases h | skip
  exact ⟨none, 0, rfl, Nat.le_refl _, Nat.zero_le _, Or.inl rfl⟩

theorem packS_sound {t : Ty} (ht : t.agg = false) {cells : List AV} {x : t.T} {r : List AV} {vs : List Value} (h : packS t cells = some (x, r)) (hv : VRs C ρ H w cells vs) :
    ∃ c1 c2, vs = c1 ++ c2 ∧ Rd (Ok C ρ H w) w t x c1 ∧ VRs C ρ H w r c2 := by
  unfold packS at h
  split at h
  · rename_i u y r'
    split at h
    · rename_i z hz
      injection h with h; injection h with h1 h2; subst h1; subst h2
      cases hv with
      | cons h1 h2 => exact ⟨[_], _, rfl, (VR.as h1 hz).scalar ht, h2⟩
    · cases h
  · rename_i r'
    split at h
    · rename_i z hz
      injection h with h; injection h with h1 h2; subst h1; subst h2
      cases hv with
      | cons h1 h2 => cases h1; exact ⟨[_], _, rfl, nilOf_sound hz, h2⟩
    · cases h
  · cases h

theorem pack_sound : ∀ (t : Ty) (cells : List AV) (x : t.T) (r : List AV) (vs : List Value), pack t cells = some (x, r) → VRs C ρ H w cells vs →
    ∃ c1 c2, vs = c1 ++ c2 ∧ Rd (Ok C ρ H w) w t x c1 ∧ VRs C ρ H w r c2 := by
  intro t
  induction t with
  | int k => intro cells x r vs h hv; exact packS_sound rfl h hv
  | bool => intro cells x r vs h hv; exact packS_sound rfl h hv
  | str => intro cells x r vs h hv; exact packS_sound rfl h hv
  | unit =>
    intro cells x r vs h hv
    simp only [pack] at h
    injection h with h; injection h with h1 h2; subst h2
    exact ⟨[], vs, rfl, rfl, hv⟩
  | pair t u iht ihu =>
    intro cells x r vs h hv
    simp only [pack] at h
    split at h
    · rename_i y r' hy
      split at h
      · rename_i z r'' hz
        injection h with h; injection h with h1 h2; subst h1; subst h2
        obtain ⟨c1, c2, e, h1, h2⟩ := iht _ _ _ _ hy hv
        obtain ⟨d1, d2, e', h3, h4⟩ := ihu _ _ _ _ hz h2
        exact ⟨c1 ++ d1, d2, by rw [e, e', List.append_assoc], ⟨c1, d1, rfl, h1, h3⟩, h4⟩
      · cases h
    · cases h
  | arr n t iht =>
    intro cells x r vs h hv
    simp only [pack] at h
    obtain ⟨hl, c1, c2, e, h1, h2⟩ := packN_sound (R := Rd (Ok C ρ H w) w t) (fun cells x r vs hh hvv => iht cells x r vs hh hvv) n cells x r vs h hv
    exact ⟨c1, c2, e, ⟨hl, h1⟩, h2⟩
  | sl t iht => intro cells x r vs h hv; exact packS_sound rfl h hv

theorem nilOf_agg {t : Ty} {y : t.T} (h : nilOf t = some y) : t.agg = false := by cases t <;> first | rfl | cases h

theorem toD_sound {t : Ty} {a : AV} {x : t.T} {v : Value} (h : toD t a = some x) (hv : VR C ρ H w a v) : RdV (Ok C ρ H w) w t x v := by
  unfold toD at h
  split at h
  · exact VR.as hv h
  · cases hv; exact RdV.of_scalar (nilOf_agg h) (nilOf_sound h)
  · split at h
    · rename_i hag
      split at h
      · rename_i y hp
        injection h with h; subst h
        cases hv with
        | ag hvs _ =>
          obtain ⟨c1, c2, e, h1, h2⟩ := pack_sound _ _ _ _ _ hp hvs
          cases h2
          simp at e
          subst e
          exact ⟨_, h1, by simp [vOf, hag]⟩
      · cases h
    · cases h
  · cases h

/-- In which blocks data may lie that are lent. -/
def OkL (C : Ctx) (ρ : Nat → Nat) (H : Heap) (w : World) (b : Nat) : Prop := Ok C ρ H w b ∨ ∃ k ∈ H.keys, ρ k = b

theorem RdV.lend {t : Ty} {x : t.T} {v : Value} (h : RdV (Ok C ρ H w) w t x v) : RdV (OkL C ρ H w) w t x v := h.mono (fun _ hb => ⟨Or.inl hb, rfl⟩)

theorem toDL_sound {H0 : Heap} (hsub : ∀ x ∈ H0, x ∈ H) {next : Nat} (hm : MRel C ρ H next w) {t : Ty} {a : AV} {x : t.T} {v : Value} (h : toDL H0 t a = some x) (hv : VR C ρ H w a v) : RdV (OkL C ρ H w) w t x v := by
  unfold toDL at h
  split at h
  · rename_i k off len
    split at h
    · rename_i u
      split at h
      · rename_i e v' l hf
        obtain ⟨e1, e2⟩ := Ty.as_some h
        injection e1 with e1
        subst e1
        subst e2
        have hk := hsub _ (Heap.find_mem hf)
        cases hv with
        | own hk' hl hc hmx hb hs ha =>
          have hu := Heap.mem_unique hm.nodup hk hk'
          injection hu with hu1 hu2 hu3
          subst hu1; subst hu2
          have hu3 := eq_of_heq hu3
          subst hu3
          obtain ⟨c, h1, h2, h3, h4, h5⟩ := hm.ownCells hk hl
          refine ⟨_, ⟨_, _, by rw [h3], by rw [h3]; exact hc, by rw [h3]; exact h4, ?_⟩, rfl⟩
          by_cases hnil : (l.drop off).take len = []
          · exact Or.inl hnil
          · have hpos : 0 < len := by rw [← h3]; exact List.length_pos_iff.2 hnil
            have ha' := ha.resolve_right (fun h => by omega)
            exact Or.inr ⟨ρ k, off * v'.size, c, e, (0, 0), ha', Or.inr ⟨k, mem_keys hk, rfl⟩, h1, h2, RdL.mono (fun x cs => Rd.mono (fun b hb => ⟨Or.inl hb, rfl⟩) _ x cs) _ _ h5⟩
      · cases h
    · cases h
  · rename_i k o n cc
    split at h
    · rename_i u
      split at h
      · rename_i e cells hf
        split at h
        · rename_i l _ hoc hp
          injection h with h
          subst h
          have hk := hsub _ (Heap.find_mem hf)
          obtain ⟨c, hc, hvs, _⟩ := hm.mem _ _ hk
          obtain ⟨c1, c2, e1, hl, -⟩ := pack_sound _ _ _ _ _ hp (hvs.drop o)
          obtain ⟨hn, hr⟩ := hl
          have hsz := RdL.length (fun x cs => Rd.length u x cs) _ _ hr
          cases hv with
          | sv hk' hlim hcap =>
            obtain ⟨hlt, hle, htk⟩ := RdL.first (fun x cs => Rd.length u x cs) hn hcap hr
            refine ⟨[.slice (some ⟨ρ k, o, none⟩) n cc], ⟨_, cc, by rw [hlt], by rw [hlt]; exact hcap, by rw [hlt]; exact hlim, Or.inr ⟨ρ k, o, c, e, (0, 0), rfl, Or.inr ⟨k, mem_keys hk, rfl⟩, hc, ?_, ?_⟩⟩, rfl⟩
            · have : c.size - o = c1.length + c2.length := by rw [← List.length_append, ← e1]; simp
              have hoc := Nat.le_of_ble_eq_true hoc
              have hcl : cells.length = c.size := by rw [hvs.length]; simp
              rw [hlt]; omega
            · rw [e1, hlt, List.take_append_of_le_length hle]
              exact RdL.mono (fun x cs => Rd.mono (fun b hb => ⟨Or.inl hb, rfl⟩) _ x cs) _ _ htk
        · cases h
      · cases h
    · cases h
  · exact (toD_sound h hv).lend

theorem cellsOf_sound {a : AV} {cells : List AV} {v : Value} (h : cellsOf a = some cells) (hv : VR C ρ H w a v) :
    VRs C ρ H w cells v.cells.toList ∧ ∀ u ∈ v.cells.toList, u.oneCell' = true := by
  unfold cellsOf at h
  split at h <;> first | (injection h with h; subst h) | skip
  · exact ⟨unpack_sound _ _ _ hv.datum.cells, Rd.one _ _ _ hv.datum.cells⟩
  · cases hv with
    | ag h1 h2 => exact ⟨h1, h2⟩
  · cases hv with
    | ptr hk => exact ⟨.cons (.ptr hk) .nil, by simp [Value.cells, Value.oneCell']⟩
  · have hv' := hv
    cases hv with
    | efp _ _ _ => exact ⟨.cons hv' .nil, by simp [Value.cells, Value.oneCell']⟩
  · have hv' := hv
    cases hv with
    | own _ _ _ _ _ _ _ => exact ⟨.cons hv' .nil, by simp [Value.cells, Value.oneCell']⟩
  · have hv' := hv
    cases hv with
    | ox _ _ _ _ _ _ => exact ⟨.cons hv' .nil, by simp [Value.cells, Value.oneCell']⟩
  · have hv' := hv
    cases hv with
    | sv _ _ _ => exact ⟨.cons hv' .nil, by simp [Value.cells, Value.oneCell']⟩
  · have hv' := hv
    cases hv with
    | nsl => exact ⟨.cons hv' .nil, by simp [Value.cells, Value.oneCell']⟩
  · have hv' := hv
    cases hv with
    | fn _ _ => exact ⟨.cons hv' .nil, by simp [Value.cells, Value.oneCell']⟩
  · have hv' := hv
    cases hv with
    | yld _ => exact ⟨.cons hv' .nil, by simp [Value.cells, Value.oneCell']⟩
  · have hv' := hv
    cases hv with
    | mp _ => exact ⟨.cons hv' .nil, by simp [Value.cells, Value.oneCell']⟩
  · have hv' := hv
    cases hv with
    | nilp => exact ⟨.cons hv' .nil, by simp [Value.cells, Value.oneCell']⟩
  · have hv' := hv
    cases hv with
    | nili => exact ⟨.cons hv' .nil, by simp [Value.cells, Value.oneCell']⟩
  · have hv' := hv
    cases hv with
    | nni => exact ⟨.cons hv' .nil, by simp [Value.cells, Value.oneCell']⟩
  · have hv' := hv
    cases hv with
    | ifc _ => exact ⟨.cons hv' .nil, by simp [Value.cells, Value.oneCell']⟩
  · cases h

theorem constAg_sound (v : Value) : VR C ρ H w (constAg v) v := by
  unfold constAg
  split
  · rename_i cs
    split
    · rename_i h
      exact .ag (constAVs_sound _) (allOne_sound h)
    · exact .no
  · exact constAV_sound v

theorem SRel.eval {σ : St} {a : Act} (h : SRel C ρ σ a w) (x : Operand) : VR C ρ σ.H w (σ.eval x) (a.eval x) := by
  cases x with
  | tmp t => exact h.slots t
  | const v => exact constAg_sound v
  | func f => exact .fn .nil .nil
  | global g => exact .no

theorem tyOf_agg {P : Program} {n : Nat} {t : TypeId} {u : Ty} (h : tyOf P n t = some u) : aggOf P t = some u.agg := by
  cases n with
  | zero => cases h
  | succ n =>
    simp only [tyOf] at h
    unfold aggOf
    split at h
    · rename_i hu; rw [hu]; injection h with h; subst h; rfl
    · rename_i hu; rw [hu]; injection h with h; subst h; rfl
    · rename_i hu; rw [hu]; injection h with h; subst h; rfl
    · rename_i e hu
      rw [hu]
      cases ht : tyOf P n e with
      | none => rw [ht] at h; cases h
      | some v => rw [ht] at h; injection h with h; subst h; rfl
    · rename_i m e hu
      rw [hu]
      cases ht : tyOf P n e with
      | none => rw [ht] at h; cases h
      | some v => rw [ht] at h; injection h with h; subst h; rfl
    · rename_i fs hu
      rw [hu]
      simp only
      cases hl : fs.toList with
      | nil => rw [hl] at h; simp only [tyOf.tyFs] at h; injection h with h; subst h; rfl
      | cons f r =>
        rw [hl] at h
        simp only [tyOf.tyFs] at h
        split at h
        · split at h
          · rename_i t' _
            cases hr : tyOf.tyFs (tyOf P n) r (0 + t'.size) with
            | none => rw [hr] at h; cases h
            | some v => rw [hr] at h; injection h with h; subst h; rfl
          · cases h
        · cases h
    · cases h

theorem aggAV_sound {P : Program} {t : TypeId} {cells : List AV} {vs : List Value} (h : VRs C ρ H w cells vs) (h1 : ∀ v ∈ vs, v.oneCell' = true) :
    VR C ρ H w (aggAV P t cells) (.agg ⟨vs⟩) := by
  unfold aggAV
  split
  · split
    · rename_i hag
      split
      · exact .ag h h1
      split
      · rename_i x hp
        obtain ⟨c1, c2, e, h3, h4⟩ := pack_sound _ _ _ _ _ hp h
        cases h4
        simp at e
        subst e
        exact .d ⟨_, h3, by simp [vOf, hag]⟩
      · exact .ag h h1
    · exact .ag h h1
  · exact .ag h h1
end
end Go.Vg

namespace Go.Vg
open Go Go.RowKit

theorem wrap_range (k : IntKind) (n : Int) : k.min ≤ k.wrap n ∧ k.wrap n ≤ k.max := by
  cases k <;> simp [IntKind.wrap, IntKind.min, IntKind.max, IntKind.bits, IntKind.signed] <;> (try split) <;> omega

theorem wrap_id {k : IntKind} {n : Int} (h : k.min ≤ n) (h' : n ≤ k.max) : k.wrap n = n := by
  cases k <;> simp [IntKind.wrap, IntKind.min, IntKind.max, IntKind.bits, IntKind.signed] at * <;> (try split) <;> omega

theorem min_le_zero (k : IntKind) : k.min ≤ 0 ∧ 0 ≤ k.max := by
  cases k <;> simp [IntKind.min, IntKind.max, IntKind.bits, IntKind.signed]

theorem tmod_range {lo hi x y : Int} (h0 : lo ≤ 0) (h1 : 0 ≤ hi) (hl : lo ≤ x) (hh : x ≤ hi) : lo ≤ x.tmod y ∧ x.tmod y ≤ hi := by
  rcases Int.le_total 0 x with h | h
  · have a := Int.tmod_nonneg y h
    have b : x.tmod y ≤ x := by
      have e := Int.tmod_add_mul_tdiv x y
      rcases Int.le_total 0 y with hy | hy
      · have := Int.mul_nonneg hy (Int.tdiv_nonneg h hy); omega
      · have h2 : x.tdiv y ≤ 0 := Int.tdiv_nonpos_of_nonneg_of_nonpos h hy
        have := Int.mul_nonneg_of_nonpos_of_nonpos hy h2; omega
    omega
  · have a : x.tmod y ≤ 0 := by
      have := Int.tmod_nonneg y (show 0 ≤ -x by omega)
      rw [Int.neg_tmod] at this; omega
    have b : x ≤ x.tmod y := by
      have e := Int.tmod_add_mul_tdiv x y
      rcases Int.le_total 0 y with hy | hy
      · have h2 : x.tdiv y ≤ 0 := by
          have := Int.tdiv_nonneg (show 0 ≤ -x by omega) hy
          rw [Int.neg_tdiv] at this; omega
        have := Int.mul_nonpos_of_nonneg_of_nonpos hy h2; omega
      · have h2 : 0 ≤ x.tdiv y := by
          have := Int.tdiv_nonneg (show 0 ≤ -x by omega) (show 0 ≤ -y by omega)
          rw [Int.neg_tdiv, Int.tdiv_neg] at this; omega
        have := Int.mul_nonpos_of_nonpos_of_nonneg hy h2; omega
    omega

theorem fdiv_range {k : IntKind} {x : Int} {n : Nat} (hl : k.min ≤ x) (hh : x ≤ k.max) : k.min ≤ x.fdiv (2 ^ n) ∧ x.fdiv (2 ^ n) ≤ k.max := by
  have hp : (0 : Int) < 2 ^ n := Int.pow_pos (by omega)
  obtain ⟨h0, h1⟩ := min_le_zero k
  rw [Int.fdiv_eq_ediv_of_nonneg _ (Int.le_of_lt hp)]
  have e := Int.mul_ediv_add_emod x (2 ^ n)
  have m0 := Int.emod_nonneg x (Int.ne_of_gt hp)
  have m1 := Int.emod_lt_of_pos x hp
  generalize hq : x / 2 ^ n = q at *
  generalize (2 : Int) ^ n = p at *
  rcases Int.le_total 0 q with h | h
  · have : q ≤ p * q := by
      have := Int.mul_le_mul_of_nonneg_right (show (1 : Int) ≤ p by omega) h; omega
    omega
  · rcases Int.lt_or_eq_of_le h with h | h
    · have : p * q ≤ q := by
        have := Int.mul_le_mul_of_nonpos_right (show (1 : Int) ≤ p by omega) (show q ≤ 0 by omega); omega
      have h2 : x ≤ q ∨ q < x := by omega
      rcases h2 with h2 | h2
      · constructor
        · omega
        · omega
      · have h3 : p * q ≤ p * (-1) := Int.mul_le_mul_of_nonneg_left (by omega) (by omega)
        constructor
        · have : p * q + p > x := by omega
          have h4 : p * (q + 1) ≤ q + 1 := by
            have := Int.mul_le_mul_of_nonpos_right (show (1 : Int) ≤ p by omega) (show q + 1 ≤ 0 by omega); omega
          have h5 : p * (q + 1) = p * q + p := by rw [Int.mul_add, Int.mul_one]
          omega
        · omega
    · omega

/-- Integers: what a binary operation gives. -/
def binI (op : BinOp) (k : IntKind) (x y : Int) : T AV :=
  match op with
  | .add => .ok (.d (.int k) (k.wrap (x + y)))
  | .sub => .ok (.d (.int k) (k.wrap (x - y)))
  | .mul => .ok (.d (.int k) (k.wrap (x * y)))
  | .quo => .need (y ≠ 0) (.ok (.d (.int k) (k.wrap (x.tdiv y))))
  | .rem => .need (y ≠ 0) (.ok (.d (.int k) (x.tmod y)))
  | .eql => .ok (.d .bool (x == y))
  | .neq => .ok (.d .bool (x != y))
  | .lss => .ok (.d .bool (decide (x < y)))
  | .leq => .ok (.d .bool (decide (x ≤ y)))
  | .gtr => .ok (.d .bool (decide (x > y)))
  | .geq => .ok (.d .bool (decide (x ≥ y)))
  | .and => .ok (.d (.int k) (k.wrap (BitVec.ofInt k.bits x &&& BitVec.ofInt k.bits y).toNat))
  | .or => .ok (.d (.int k) (k.wrap (BitVec.ofInt k.bits x ||| BitVec.ofInt k.bits y).toNat))
  | .xor => .ok (.d (.int k) (k.wrap (BitVec.ofInt k.bits x ^^^ BitVec.ofInt k.bits y).toNat))
  | _ => .bad

def shiftI (op : BinOp) (k : IntKind) (x y : Int) : T AV :=
  match op with
  | .shl => .need (0 ≤ y) (.ok (.d (.int k) (k.wrap (x * 2 ^ (min y.toNat k.bits)))))
  | .shr => .need (0 ≤ y) (.ok (.d (.int k) (x.fdiv (2 ^ (min y.toNat k.bits)))))
  | _ => .bad

def isShift : BinOp → Bool
  | .shl | .shr => true
  | _ => false

/-- Strings. -/
def binS (op : BinOp) (x y : List UInt8) : T AV :=
  match op with
  | .add => .need (x.length + y.length ≤ lim) (.ok (.d .str (x ++ y)))
  | .eql => .ok (.d .bool (x == y))
  | .neq => .ok (.d .bool (!(x == y)))
  | .lss => .ok (.d .bool (Op.bytesLess x y))
  | .leq => .ok (.d .bool (Op.bytesLess x y || x == y))
  | .gtr => .ok (.d .bool (!(Op.bytesLess x y || x == y)))
  | .geq => .ok (.d .bool (!(Op.bytesLess x y)))
  | _ => .bad

def binII (op : BinOp) (k j : IntKind) (x y : Int) : T AV :=
  match isShift op with
  | true => shiftI op k x y
  | false => if k = j then binI op k x y else .bad

def binB (op : BinOp) (x y : Bool) : T AV :=
  match op with
  | .eql => .ok (.d .bool (x == y))
  | .neq => .ok (.d .bool (!(x == y)))
  | _ => .bad

def binD (op : BinOp) : (t : Ty) → t.T → (u : Ty) → u.T → T AV
  | .int k, x, .int j, y => binII op k j x y
  | .bool, x, .bool, y => binB op x y
  | .str, x, .str, y => binS op x y
  | _, _, _, _ => .bad

section
variable {C : Ctx} {ρ : Nat → Nat} {H : Heap} {w : World} {P : Program}

theorem int_value {k : IntKind} {x : Int} {v : Value} (h : VR C ρ H w (.d (.int k) x) v) : v = .int k x ∧ k.min ≤ x ∧ x ≤ k.max := by
  have := h.datum.scalar rfl
  obtain ⟨e, h'⟩ := this
  injection e with e _
  exact ⟨e, h'⟩
theorem bool_value {x : Bool} {v : Value} (h : VR C ρ H w (.d .bool x) v) : v = .bool x := by
  have : [v] = [Value.bool x] := h.datum.scalar rfl
  injection this
theorem str_value {x : List UInt8} {v : Value} (h : VR C ρ H w (.d .str x) v) : v = .string ⟨⟨x⟩⟩ ∧ x.length ≤ lim := by
  have := h.datum.scalar rfl
  obtain ⟨e, h'⟩ := this
  injection e with e _
  exact ⟨e, h'⟩
theorem vr_int {k : IntKind} {x : Int} (h : k.min ≤ x) (h' : x ≤ k.max) : VR C ρ H w (.d (.int k) x) (.int k x) := .d ⟨_, ⟨rfl, h, h'⟩, rfl⟩
theorem vr_bool {x : Bool} : VR C ρ H w (.d .bool x) (.bool x) := .d ⟨_, rfl, rfl⟩
theorem vr_str {x : List UInt8} (h : x.length ≤ lim) : VR C ρ H w (.d .str x) (.string ⟨⟨x⟩⟩) := .d ⟨_, ⟨rfl, h⟩, rfl⟩
theorem vr_wrap {k : IntKind} {x : Int} : VR C ρ H w (.d (.int k) (k.wrap x)) (.int k (k.wrap x)) := vr_int (wrap_range k x).1 (wrap_range k x).2

theorem binI_sound {op : BinOp} {k : IntKind} {x y : Int} {r : AV} (hx : k.min ≤ x ∧ x ≤ k.max) (hsh : isShift op = false) (h : (binI op k x y).Leaf r) (xt : TypeId) :
    ∃ v, (binOp op xt (.int k x) (.int k y)).run P w = .ok v w ∧ VR C ρ H w r v := by
  cases op
  case add => cases h; exact ⟨.int k (k.wrap (x + y)), by simp only [binOp, ne_eq, not_true_eq_false, if_false, Op.intArith]; rfl, vr_wrap⟩
  case sub => cases h; exact ⟨.int k (k.wrap (x - y)), by simp only [binOp, ne_eq, not_true_eq_false, if_false, Op.intArith]; rfl, vr_wrap⟩
  case mul => cases h; exact ⟨.int k (k.wrap (x * y)), by simp only [binOp, ne_eq, not_true_eq_false, if_false, Op.intArith]; rfl, vr_wrap⟩
  case eql => cases h; exact ⟨.bool (x == y), by simp only [binOp, ne_eq, not_true_eq_false, if_false, Op.intCmp]; rfl, vr_bool⟩
  case neq => cases h; exact ⟨.bool (x != y), by simp only [binOp, ne_eq, not_true_eq_false, if_false, Op.intCmp]; rfl, vr_bool⟩
  case lss => cases h; exact ⟨.bool (decide (x < y)), by simp only [binOp, ne_eq, not_true_eq_false, if_false, Op.intCmp]; rfl, vr_bool⟩
  case leq => cases h; exact ⟨.bool (decide (x ≤ y)), by simp only [binOp, ne_eq, not_true_eq_false, if_false, Op.intCmp]; rfl, vr_bool⟩
  case gtr => cases h; exact ⟨.bool (decide (x > y)), by simp only [binOp, ne_eq, not_true_eq_false, if_false, Op.intCmp]; rfl, vr_bool⟩
  case geq => cases h; exact ⟨.bool (decide (x ≥ y)), by simp only [binOp, ne_eq, not_true_eq_false, if_false, Op.intCmp]; rfl, vr_bool⟩
  case and => cases h; exact ⟨.int k (k.wrap (BitVec.ofInt k.bits x &&& BitVec.ofInt k.bits y).toNat), by simp only [binOp, ne_eq, not_true_eq_false, if_false, Op.intBits]; rfl, vr_wrap⟩
  case or => cases h; exact ⟨.int k (k.wrap (BitVec.ofInt k.bits x ||| BitVec.ofInt k.bits y).toNat), by simp only [binOp, ne_eq, not_true_eq_false, if_false, Op.intBits]; rfl, vr_wrap⟩
  case xor => cases h; exact ⟨.int k (k.wrap (BitVec.ofInt k.bits x ^^^ BitVec.ofInt k.bits y).toNat), by simp only [binOp, ne_eq, not_true_eq_false, if_false, Op.intBits]; rfl, vr_wrap⟩
  case quo =>
    cases h with
    | need hp h => cases h; exact ⟨.int k (k.wrap (x.tdiv y)), by simp only [binOp, ne_eq, not_true_eq_false, if_false, Op.intDiv, if_neg hp]; rfl, vr_wrap⟩
  case rem =>
    cases h with
    | need hp h => cases h; exact ⟨.int k (x.tmod y), by simp only [binOp, ne_eq, not_true_eq_false, if_false, Op.intDiv, if_neg hp]; rfl, vr_int (tmod_range (min_le_zero k).1 (min_le_zero k).2 hx.1 hx.2).1 (tmod_range (min_le_zero k).1 (min_le_zero k).2 hx.1 hx.2).2⟩
  all_goals cases h

theorem shiftI_sound {op : BinOp} {k j : IntKind} {x y : Int} {r : AV} (hx : k.min ≤ x ∧ x ≤ k.max) (h : (shiftI op k x y).Leaf r) (xt : TypeId) :
    ∃ v, (binOp op xt (.int k x) (.int j y)).run P w = .ok v w ∧ VR C ρ H w r v := by
  cases op
  case shl =>
    cases h with
    | need hp h => cases h; exact ⟨.int k (k.wrap (x * 2 ^ (min y.toNat k.bits))), by simp only [binOp, Op.shift, if_neg (Int.not_lt.2 hp)]; rfl, vr_wrap⟩
  case shr =>
    cases h with
    | need hp h => cases h; exact ⟨.int k (x.fdiv (2 ^ (min y.toNat k.bits))), by simp only [binOp, Op.shift, if_neg (Int.not_lt.2 hp)]; rfl, vr_int (fdiv_range hx.1 hx.2).1 (fdiv_range hx.1 hx.2).2⟩
  all_goals cases h

theorem toList_mk (x : List UInt8) : (⟨⟨x⟩⟩ : ByteArray).toList = x := ByteArray.toList_eq _

theorem append_mk (x y : List UInt8) : (⟨⟨x⟩⟩ : ByteArray) ++ ⟨⟨y⟩⟩ = ⟨⟨x ++ y⟩⟩ := by
  apply ByteArray.ext
  apply Array.ext'
  simp

theorem extract_mk (x : List UInt8) (a b : Nat) : (⟨⟨x⟩⟩ : ByteArray).extract a b = ⟨⟨(x.drop a).take (b - a)⟩⟩ := by
  apply ByteArray.ext
  apply Array.ext'
  rw [ByteArray.data_extract, Array.toList_extract]

theorem size_mk (x : List UInt8) : (⟨⟨x⟩⟩ : ByteArray).size = x.length := rfl

theorem binS_sound {op : BinOp} {x y : List UInt8} {r : AV} (h : (binS op x y).Leaf r) (xt : TypeId) :
    ∃ v, (binOp op xt (.string ⟨⟨x⟩⟩) (.string ⟨⟨y⟩⟩)).run P w = .ok v w ∧ VR C ρ H w r v := by
  cases op
  case add =>
    cases h with
    | need hp h =>
      cases h
      refine ⟨.string ⟨⟨x ++ y⟩⟩, ?_, vr_str (by simpa using hp)⟩
      have : ¬ ((((⟨⟨x⟩⟩ : ByteArray).size + (⟨⟨y⟩⟩ : ByteArray).size : Nat) : Int) > IntKind.i64.max) := by
        simp only [size_mk, IntKind.max, IntKind.signed, IntKind.bits, lim] at hp ⊢
        simp
        omega
      simp only [binOp, Op.stringOp, if_neg this, append_mk]; rfl
  case eql => cases h; exact ⟨.bool (x == y), by simp only [binOp, Op.stringOp, toList_mk]; rfl, vr_bool⟩
  case neq => cases h; exact ⟨.bool (!(x == y)), by simp only [binOp, Op.stringOp, toList_mk]; rfl, vr_bool⟩
  case lss => cases h; exact ⟨.bool (Op.bytesLess x y), by simp only [binOp, Op.stringOp, toList_mk]; rfl, vr_bool⟩
  case leq => cases h; exact ⟨.bool (Op.bytesLess x y || x == y), by simp only [binOp, Op.stringOp, toList_mk]; rfl, vr_bool⟩
  case gtr => cases h; exact ⟨.bool (!(Op.bytesLess x y || x == y)), by simp only [binOp, Op.stringOp, toList_mk]; rfl, vr_bool⟩
  case geq => cases h; exact ⟨.bool (!(Op.bytesLess x y)), by simp only [binOp, Op.stringOp, toList_mk]; rfl, vr_bool⟩
  all_goals cases h

theorem equalIn_bool (P : Program) (w : World) (d : Nat) (xt : TypeId) (hu : P.underlying xt = some .bool) (x y : Bool) : (Op.equalIn (d + 1) xt (.bool x) (.bool y)).run P w = .ok (x == y) w := by
  simp [Op.equalIn, run_underlying hu]

theorem eql_bool (P : Program) (w : World) (xt : TypeId) (hu : P.underlying xt = some .bool) (x y : Bool) : (Op.equal xt (.bool x) (.bool y)).run P w = .ok (x == y) w :=
  equalIn_bool P w 9999 xt hu x y

/-- Is the comparison's type what its operands are? -/
def eqType (P : Program) (t : Ty) (xt : TypeId) : Bool :=
  match t with
  | .bool => match P.underlying xt with | some .bool => true | _ => false
  | _ => true

theorem binB_sound {op : BinOp} {x y : Bool} {r : AV} {xt : TypeId} (h : (binB op x y).Leaf r) (he : eqType P .bool xt = true) :
    ∃ v, (binOp op xt (.bool x) (.bool y)).run P w = .ok v w ∧ VR C ρ H w r v := by
  have hu : P.underlying xt = some .bool := by
    unfold eqType at he
    simp only at he
    split at he
    · assumption
    · cases he
  cases op
  case eql => cases h; exact ⟨.bool (x == y), by simp [binOp, eql_bool P w xt hu], vr_bool⟩
  case neq => cases h; exact ⟨.bool (!(x == y)), by simp [binOp, eql_bool P w xt hu], vr_bool⟩
  all_goals cases h

theorem binD_sound {op : BinOp} {t u : Ty} {x : t.T} {y : u.T} {r : AV} {vx vy : Value} {xt : TypeId} (h : (binD op t x u y).Leaf r)
    (he : eqType P t xt = true) (hx : VR C ρ H w (.d t x) vx) (hy : VR C ρ H w (.d u y) vy) :
    t.agg = false ∧ ∃ v, (binOp op xt vx vy).run P w = .ok v w ∧ VR C ρ H w r v := by
  unfold binD at h
  split at h
  · rename_i k x j y
    obtain ⟨e1, hx'⟩ := int_value hx
    obtain ⟨e2, hy'⟩ := int_value hy
    refine ⟨rfl, ?_⟩
    rw [e1, e2]
    unfold binII at h
    split at h
    · exact shiftI_sound hx' h xt
    · rename_i hs
      split at h
      · rename_i e; subst e; exact binI_sound hx' hs h xt
      · cases h
  · refine ⟨rfl, ?_⟩
    rw [bool_value hx, bool_value hy]
    exact binB_sound h he
  · refine ⟨rfl, ?_⟩
    rw [(str_value hx).1, (str_value hy).1]
    exact binS_sound h xt
  · cases h

/-- A guard that the model lays ahead of '==': nothing, where no interface value is compared. -/
theorem eqGuard_scalar {op : BinOp} {t : Ty} {x : t.T} {vx vy : Value} {xt : TypeId} (a b : Operand) (ht : t.agg = false)
    (hx : VR C ρ H w (.d t x) vx) : (eqGuard op xt a b vx vy).run P w = .ok () w := by
  have h := hx.datum.scalar ht
  unfold eqGuard
  cases t <;> first | cases ht | skip
  · obtain ⟨e, _⟩ := h; injection e with e _; subst e; split <;> simp
  · have e : [vx] = [_] := h; injection e with e _; subst e; split <;> simp
  · obtain ⟨e, _⟩ := h; injection e with e _; subst e; split <;> simp
  · obtain ⟨a, cap, e, _⟩ := h; injection e with e _; subst e; split <;> simp

end
end Go.Vg

namespace Go.Vg
open Go Go.RowKit

def pickAV (x : Bool) (a b : AV) : T AV :=
  match a, b with
  | .d t u, .d t' v => match t'.as t v with
    | some v' => .ok (.d t (cond x u v'))
    | none => .ite x (.ok a) (.ok b)
  | _, _ => .ite x (.ok a) (.ok b)

def negI (k : IntKind) (x : Int) : AV := .d (.int k) (k.wrap (0 - x))

def unAV (op : UnOp) (a : AV) : T AV :=
  match op, a with
  | .not, .d .bool x => .ok (.d .bool (!x))
  | .neg, .d (.int k) x => .ok (negI k x)
  | _, _ => .bad

def convAV (P : Program) (s d : TypeId) (a : AV) : T AV :=
  match P.underlying s, P.underlying d, a with
  | some _, some (.int k), .d (.int _) n => .ok (.d (.int k) (k.wrap n))
  | some _, some .string, .d .str x => .ok (.d .str x)
  | _, _, _ => .bad

/-- The n-th field of a struct, and where it begins. -/
def nthD : (t : Ty) → t.T → Nat → Option (Nat × (Σ u : Ty, u.T))
  | .pair t _, x, 0 => some (0, ⟨t, x.1⟩)
  | .pair t u, x, n + 1 => match nthD u x.2 n with
    | some (o, y) => some (t.size + o, y)
    | none => none
  | _, _, _ => none

/-- A Go type is that of these data. -/
def isTy (P : Program) (t : TypeId) (u : Ty) : Bool :=
  match aggOf P t, sizeAt P t with
  | some b, some n => (b == u.agg) && Nat.beq n u.size
  | _, _ => false

def fieldAt (P : Program) (s : TypeId) (f : Nat) : Option Field :=
  match P.underlying s with
  | some (.struct fs) => fs[f]?
  | _ => none

def fAddrAV (P : Program) (s : TypeId) (a : AV) (f : Nat) : T AV :=
  match fieldAt P s f with
  | some fl => match sizeAt P fl.type with
    | some (_ + 1) => match a with
      | .ptr k off => .ok (.ptr k (off + fl.offset))
      | .dptr t x => match nthD t x f with
        | some (o, ⟨u, y⟩) => match Nat.beq o fl.offset with
          | true => .ok (.dptr u y)
          | false => .bad
        | none => .bad
      | _ => .bad
    | _ => .bad
  | none => .bad

/-- The same, of an element of one of the call's own rows, too. -/
def fAddrH (P : Program) (H : Heap) (s : TypeId) (a : AV) (f : Nat) : T AV :=
  match a with
  | .eptr k i => match fieldAt P s f, H.find k with
    | some fl, some (.row _ u _) => match sizeAt P fl.type, offD u f with
      | some (_ + 1), some (o, _) => match Nat.beq o fl.offset with
        | true => .ok (.efp k i f)
        | false => .bad
      | _, _ => .bad
    | _, _ => .bad
  | a => fAddrAV P s a f

def fieldAV (P : Program) (s : TypeId) (a : AV) (f : Nat) : T AV :=
  match fieldAt P s f with
  | some fl => match a with
    | .d t x => match nthD t x f with
      | some (o, ⟨u, y⟩) => match Nat.beq o fl.offset && isTy P fl.type u && t.agg with
        | true => .ok (.d u y)
        | false => .bad
      | none => .bad
    | .ag cells => T.ofO (readAV P fl.type cells fl.offset)
    | _ => .bad
  | none => .bad

section
variable {C : Ctx} {ρ : Nat → Nat} {H : Heap} {w : World} {P : Program}

theorem pickAV_sound {x : Bool} {a b r : AV} {va vb : Value} (h : (pickAV x a b).Leaf r) (ha : VR C ρ H w a va) (hb : VR C ρ H w b vb) :
    VR C ρ H w r (if x then va else vb) := by
  have base : ∀ r, (T.ite x (.ok a) (.ok b)).Leaf r → VR C ρ H w r (if x then va else vb) := by
    intro r h
    cases h with
    | t h => cases h; exact ha
    | f h => cases h; exact hb
  unfold pickAV at h
  split at h
  · split at h
    · rename_i t u t' v v' e
      cases h
      cases x with
      | true => exact ha
      | false => exact .d (VR.as hb e)
    · exact base r h
  · exact base r h

theorem unAV_sound {op : UnOp} {a r : AV} {v : Value} (h : (unAV op a).Leaf r) (ha : VR C ρ H w a v) :
    ∃ v', (Op.unary op v).run P w = .ok v' w ∧ VR C ρ H w r v' := by
  unfold unAV at h
  split at h
  · cases h
    rw [bool_value ha]
    exact ⟨_, rfl, vr_bool⟩
  · cases h
    rw [(int_value ha).1]
    exact ⟨_, rfl, vr_wrap⟩
  · cases h

theorem convAV_sound {s d : TypeId} {a r : AV} {v : Value} (h : (convAV P s d a).Leaf r) (ha : VR C ρ H w a v) :
    ∃ v', (convert s d v).run P w = .ok v' w ∧ VR C ρ H w r v' := by
  unfold convAV at h
  split at h
  · rename_i ds k j n hs hd
    cases h
    rw [(int_value ha).1]
    refine ⟨.int k (k.wrap n), ?_, vr_wrap⟩
    simp only [convert, Sem.run_bind, run_underlying hs, run_underlying hd, Result.andThen_ok]
    cases ds <;> rfl
  · rename_i ds x hs hd
    cases h
    obtain ⟨e, hl⟩ := str_value ha
    rw [e]
    refine ⟨_, ?_, vr_str hl⟩
    simp only [convert, Sem.run_bind, run_underlying hs, run_underlying hd, Result.andThen_ok]
    cases ds <;> rfl
  · cases h

theorem nthD_sound {ok : Nat → Prop} : ∀ (t : Ty) (x : t.T) (n o : Nat) (u : Ty) (y : u.T) (cs : List Value), nthD t x n = some (o, ⟨u, y⟩) → Rd ok w t x cs →
    Rd ok w u y ((cs.drop o).take u.size) ∧ o + u.size ≤ t.size
  | .pair t u', x, 0, o, u, y, cs, h, hr => by
    simp only [nthD] at h
    injection h with h; injection h with h1 h2; injection h2 with h2 h3
    subst h1; subst h2
    have h3 := eq_of_heq h3
    subst h3
    obtain ⟨c1, c2, e, h4, _⟩ := hr
    subst e
    have := Rd.length _ _ _ h4
    refine ⟨?_, by simp [Ty.size]⟩
    rw [List.drop_zero, List.take_left' this]
    exact h4
  | .pair t u', x, n + 1, o, u, y, cs, h, hr => by
    simp only [nthD] at h
    split at h
    · rename_i o' y' hn
      injection h with h; injection h with h1 h2
      subst h1; subst h2
      obtain ⟨c1, c2, e, h4, h5⟩ := hr
      subst e
      obtain ⟨h6, h7⟩ := nthD_sound u' x.2 n o' u y c2 hn h5
      have hl := Rd.length _ _ _ h4
      refine ⟨?_, by simp only [Ty.size]; omega⟩
      have : (c1 ++ c2).drop (t.size + o') = c2.drop o' := by
        rw [List.drop_append, List.drop_of_length_le (by omega), List.nil_append]
        congr 1; omega
      rw [this]
      exact h6
    · cases h
  | .int _, _, _, _, _, _, _, h, _ => by cases h
  | .bool, _, _, _, _, _, _, h, _ => by cases h
  | .str, _, _, _, _, _, _, h, _ => by cases h
  | .unit, _, _, _, _, _, _, h, _ => by cases h
  | .arr _ _, _, _, _, _, _, _, h, _ => by cases h
  | .sl _, _, _, _, _, _, _, h, _ => by cases h

theorem offD_nth : ∀ {t : Ty} {x : t.T} {n o : Nat} {u : Ty} {y : u.T}, nthD t x n = some (o, ⟨u, y⟩) → offD t n = some (o, u)
  | .pair t u', x, 0, o, u, y, h => by
    simp only [nthD] at h
    injection h with h; injection h with h1 h2; injection h2 with h2 h3
    subst h1; subst h2
    rfl
  | .pair t u', x, n + 1, o, u, y, h => by
    simp only [nthD] at h
    split at h
    · rename_i o' y' hn
      injection h with h; injection h with h1 h2
      subst h1; subst h2
      simp only [offD, offD_nth hn]
    · cases h
  | .int _, _, _, _, _, _, h => by cases h
  | .bool, _, _, _, _, _, h => by cases h
  | .str, _, _, _, _, _, h => by cases h
  | .unit, _, _, _, _, _, h => by cases h
  | .arr _ _, _, _, _, _, _, h => by cases h
  | .sl _, _, _, _, _, _, h => by cases h

theorem fieldAt_sound {s : TypeId} {f : Nat} {fl : Field} (h : fieldAt P s f = some fl) : ∃ fs, P.underlying s = some (.struct fs) ∧ fs[f]? = some fl := by
  unfold fieldAt at h
  split at h
  · rename_i fs hu; exact ⟨fs, hu, h⟩
  · cases h

theorem sizeAt_run {t : TypeId} {n : Nat} (h : sizeAt P t = some n) (w : World) : (sizeOf t).run P w = .ok n w := by
  unfold sizeAt at h
  cases hi : P.info? t with
  | none => rw [hi] at h; cases h
  | some i =>
    rw [hi] at h
    injection h with h
    subst h
    simp [sizeOf, typeInfo, hi]

theorem aggOf_run {t : TypeId} {b : Bool} (h : aggOf P t = some b) (w : World) : (isAgg t).run P w = .ok b w := by
  unfold aggOf at h
  split at h
  · rename_i hu; injection h with h; subst h; simp [isAgg, run_underlying hu]
  · rename_i hu; injection h with h; subst h; simp [isAgg, run_underlying hu]
  · rename_i d h1 h2 hu
    injection h with h; subst h
    simp only [isAgg, Sem.run_bind, run_underlying hu, Result.andThen_ok]
    cases d <;> first | rfl | exact absurd hu (by simpa using h1 _) | exact absurd hu (by simpa using h2 _ _)
  · cases h

theorem fAddrAV_sound {s : TypeId} {f : Nat} {a r : AV} {v : Value} (h : (fAddrAV P s a f).Leaf r) (ha : VR C ρ H w a v) :
    ∃ v', (Instr.fieldAt s v f).run P w = .ok v' w ∧ VR C ρ H w r v' := by
  unfold fAddrAV at h
  split at h
  · rename_i fl hf
    obtain ⟨fs, hu, hfs⟩ := fieldAt_sound hf
    split at h
    · rename_i n hsz
      have hrun : ∀ b o, (Instr.fieldAt s (.pointer (some ⟨b, o, none⟩)) f).run P w = .ok (.pointer (some ⟨b, o + fl.offset, none⟩)) w := by
        intro b o
        have hadd : (⟨b, o, none⟩ : Addr).add fl.offset = ⟨b, o + fl.offset, none⟩ := by unfold Addr.add; split <;> simp_all
        simp [Instr.fieldAt, run_underlying hu, hfs, Instr.sureAddr, fieldPlace, sizeAt_run hsz, hadd]
      split at h
      · cases h
        cases ha with
        | ptr hk => exact ⟨_, hrun _ _, .ptr hk⟩
      · split at h
        · rename_i o u y hn
          split at h
          · rename_i ho
            cases h
            have ho := beq_true ho
            subst ho
            cases ha with
            | dptr hb hc hs hr =>
              obtain ⟨h1, h2⟩ := nthD_sound _ _ _ _ _ _ _ hn hr
              refine ⟨_, hrun _ _, .dptr hb hc (by omega) ?_⟩
              rw [List.drop_take, List.take_take, List.drop_drop, Nat.min_eq_left (by omega)] at h1
              exact h1
          · cases h
        · cases h
      · cases h
    · cases h
  · cases h

theorem fAddrH_sound {H0 : Heap} (hsub : ∀ x ∈ H0, x ∈ H) {next : Nat} (hm : MRel C ρ H next w) {s : TypeId} {f : Nat} {a r : AV} {v : Value} (h : (fAddrH P H0 s a f).Leaf r) (ha : VR C ρ H w a v) :
    ∃ v', (Instr.fieldAt s v f).run P w = .ok v' w ∧ VR C ρ H w r v' := by
  unfold fAddrH at h
  split at h
  · rename_i k i
    split at h
    · rename_i fl e u l hf hk
      obtain ⟨fs, hu, hfs⟩ := fieldAt_sound hf
      split at h
      · rename_i n o v hsz ho
        split at h
        · rename_i hb
          cases h
          have hb := beq_true hb
          subst hb
          have hk := hsub _ (Heap.find_mem hk)
          cases ha with
          | eptr hk' hi =>
            have hu' := Heap.mem_unique hm.nodup hk hk'
            injection hu' with hu1 hu2 hu3
            subst hu1; subst hu2
            have hu3 := eq_of_heq hu3
            subst hu3
            have hadd : ∀ b p, (⟨b, p, none⟩ : Addr).add fl.offset = ⟨b, p + fl.offset, none⟩ := by intro b p; unfold Addr.add; split <;> simp_all
            refine ⟨_, ?_, .efp hk hi ho⟩
            simp [Instr.fieldAt, run_underlying hu, hfs, Instr.sureAddr, fieldPlace, sizeAt_run hsz, hadd]
        · cases h
      · cases h
    · cases h
  · exact fAddrAV_sound h ha

theorem isTy_sound {t : TypeId} {u : Ty} (h : isTy P t u = true) : aggOf P t = some u.agg ∧ sizeAt P t = some u.size := by
  unfold isTy at h
  split at h
  · rename_i b n h1 h2
    simp only [Bool.and_eq_true, beq_iff_eq] at h
    rw [h1, h2, h.1, beq_true h.2]
    exact ⟨rfl, rfl⟩
  · cases h

/-- A part of a struct or an array that holds a datum. -/
theorem part_dataZ {ok : Nat → Prop} {t : TypeId} {u : Ty} {y : u.T} {cs : List Value} {o : Nat} (ht : isTy P t u = true) (ho : o + u.size ≤ cs.length ∨ u.size = 0)
    (hr : Rd ok w u y ((cs.drop o).take u.size)) : ∃ v, (part t ⟨cs⟩ o).run P w = .ok v w ∧ RdV ok w u y v := by
  obtain ⟨h1, h2⟩ := isTy_sound ht
  cases hag : u.agg with
  | true =>
    rw [hag] at h1
    refine ⟨.agg ⟨(cs.drop o).take u.size⟩, ?_, ⟨_, hr, by simp [vOf, hag]⟩⟩
    simp only [part, Sem.run_bind, aggOf_run h1, sizeAt_run h2, Result.andThen_ok, if_true, Sem.run_pure]
    congr 2
    apply Array.ext'
    rw [Array.toList_extract, List.extract_eq_take_drop, Nat.add_sub_cancel_left]
  | false =>
    rw [hag] at h1
    have hl := Rd.length _ _ _ hr
    have h1s : u.size = 1 := by cases u <;> first | rfl | cases hag
    rw [h1s] at hr ho
    have hlt : o < cs.length := by omega
    have hd : (cs.drop o).take 1 = [cs[o]] := by
      rw [List.drop_eq_getElem_cons hlt]; rfl
    rw [hd] at hr
    refine ⟨cs[o], ?_, RdV.of_scalar hag hr⟩
    simp [part, aggOf_run h1, hlt]

theorem part_data {ok : Nat → Prop} {t : TypeId} {u : Ty} {y : u.T} {cs : List Value} {o : Nat} (ht : isTy P t u = true) (ho : o + u.size ≤ cs.length)
    (hr : Rd ok w u y ((cs.drop o).take u.size)) : ∃ v, (part t ⟨cs⟩ o).run P w = .ok v w ∧ RdV ok w u y v := part_dataZ ht (Or.inl ho) hr


theorem readAV_sound {t : TypeId} {cells : List AV} {o : Nat} {r : AV} {cs : List Value} (h : readAV P t cells o = some r) (hv : VRs C ρ H w cells cs) (h1 : ∀ v ∈ cs, v.oneCell' = true) :
    ∃ v, (part t ⟨cs⟩ o).run P w = .ok v w ∧ VR C ρ H w r v := by
  unfold readAV at h
  split at h
  · rename_i n ha hs
    split at h
    · rename_i hle
      injection h with h; subst h
      refine ⟨.agg ⟨(cs.drop o).take n⟩, ?_, aggAV_sound ((hv.drop o).take n) (fun v hv' => h1 v (List.mem_of_mem_drop (List.mem_of_mem_take hv')))⟩
      simp only [part, Sem.run_bind, aggOf_run ha, sizeAt_run hs, Result.andThen_ok, if_true, Sem.run_pure]
      congr 2
      apply Array.ext'
      rw [Array.toList_extract, List.extract_eq_take_drop, Nat.add_sub_cancel_left]
    · cases h
  · rename_i n ha hs
    obtain ⟨v, hv1, hv2⟩ := hv.get h
    refine ⟨v, ?_, hv2⟩
    simp [part, aggOf_run ha, hv1]
  · cases h

theorem fieldAV_sound {s : TypeId} {f : Nat} {a r : AV} {v : Value} (h : (fieldAV P s a f).Leaf r) (ha : VR C ρ H w a v) :
    ∃ v', (Instr.field s v f).run P w = .ok v' w ∧ VR C ρ H w r v' := by
  unfold fieldAV at h
  split at h
  · rename_i fl hf
    obtain ⟨fs, hu, hfs⟩ := fieldAt_sound hf
    have hrun : ∀ cs : List Value, (Instr.field s (.agg ⟨cs⟩) f).run P w = (part fl.type ⟨cs⟩ fl.offset).run P w := by
      intro cs
      simp [Instr.field, run_underlying hu, hfs, asAgg]
    split at h
    · rename_i t x
      split at h
      · rename_i o u y hn
        split at h
        · rename_i hc
          cases h
          simp only [Bool.and_eq_true] at hc
          obtain ⟨⟨ho, hty⟩, hag⟩ := hc
          have ho := beq_true ho
          subst ho
          obtain ⟨cs, hr, hv⟩ := ha.datum
          simp only [vOf, hag, if_true] at hv
          subst hv
          obtain ⟨h3, h4⟩ := nthD_sound _ _ _ _ _ _ _ hn hr
          have hl := Rd.length _ _ _ hr
          obtain ⟨v', h5, h6⟩ := part_data (P := P) hty (by omega) h3
          exact ⟨v', by rw [hrun]; exact h5, .d h6⟩
        · cases h
      · cases h
    · rename_i cells
      have h := T.Leaf.ofO h
      cases ha with
      | ag h1 h2 =>
        obtain ⟨v', h5, h6⟩ := readAV_sound h h1 h2
        exact ⟨v', by rw [hrun]; exact h5, h6⟩
    · cases h
  · cases h

theorem RdL.getD {α : Type} {R : α → List Value → Prop} {n : Nat} (hn : ∀ x cs, R x cs → cs.length = n) (d : α) :
    ∀ (l : List α) (cs : List Value) (i : Nat), RdL R l cs → i < l.length → R (l.getD i d) ((cs.drop (i * n)).take n)
  | [], _, i, _, hi => by simp at hi
  | x :: xs, cs, 0, ⟨c1, c2, e, h1, h2⟩, _ => by
    subst e
    have := hn _ _ h1
    simpa [List.take_left' this] using h1
  | x :: xs, cs, i + 1, ⟨c1, c2, e, h1, h2⟩, hi => by
    subst e
    have hl := hn _ _ h1
    have ih := RdL.getD hn d xs c2 i h2 (by simpa using hi)
    have : (c1 ++ c2).drop ((i + 1) * n) = c2.drop (i * n) := by
      rw [List.drop_append, List.drop_of_length_le (by rw [hl, Nat.succ_mul]; omega), List.nil_append, hl, Nat.succ_mul]
      congr 1; omega
    rw [this]
    simpa using ih
end

/-- A number, case by case. -/
def caseN {α : Type} (n : Int) (f : Nat → T α) : Nat → T α
  | 0 => .bad
  | j + 1 => .ite (n == (j : Int)) (f j) (caseN n f j)

theorem caseN_leaf {α : Type} {n : Int} {f : Nat → T α} {r : α} : ∀ {m : Nat}, (caseN n f m).Leaf r → ∃ j : Nat, n = (j : Int) ∧ (f j).Leaf r
  | 0, h => by cases h
  | j + 1, h => by
    simp only [caseN] at h
    generalize hb : (n == (j : Int)) = b at h
    cases h with
    | t h => exact ⟨j, by simpa using hb, h⟩
    | f h => exact caseN_leaf h

/-- The address of an element. -/
def iAddrI (P : Program) (H : Heap) (t : TypeId) (a : AV) (n : Int) : T AV :=
  match P.underlying t with
    | some (.slice e) => match a with
      | .d (.sl u) l => match sizeAt P e with
        | some m => match Nat.beq m u.size with
          | true => .need (0 ≤ n ∧ n < (l.length : Int)) (.ok (.dptr u (l.getD n.toNat u.dflt)))
          | false => .bad
        | none => .bad
      | .own k off len => match H.find k, sizeAt P e with
        | some (.row _ u _), some m => match Nat.beq m u.size with
          | true => .need (0 ≤ n ∧ n < (len : Int)) (.ok (.eptr k (off + n.toNat)))
          | false => .bad
        | _, _ => .bad
      | .sv k o len _ => match sizeAt P e with
        | some m => .need (0 ≤ n ∧ n < (len : Int)) (caseN n (fun j => .ok (.ptr k (o + j * m))) len)
        | none => .bad
      | _ => .bad
    | some (.array len e) => match a with
      | .ptr k off => match sizeAt P e with
        | some m => .need (0 ≤ n ∧ n < (len : Int)) (caseN n (fun j => .ok (.ptr k (off + j * m))) len)
        | none => .bad
      | .dptr (.arr m' u) l => match sizeAt P e with
        | some m => match Nat.beq m u.size && Nat.beq m' len with
          | true => .need (0 ≤ n ∧ n < (len : Int)) (.ok (.dptr u (l.getD n.toNat u.dflt)))
          | false => .bad
        | none => .bad
      | _ => .bad
    | _ => .bad

def iAddrAV (P : Program) (H : Heap) (t : TypeId) (a i : AV) : T AV :=
  match i with
  | .d (.int _) n => iAddrI P H t a n
  | _ => .bad

/-- An element of an array's value, or a string's byte. -/
def indexI (P : Program) (t : TypeId) (a : AV) (n : Int) : T AV :=
  match P.underlying t with
    | some .string => match a with
      | .d .str l => .need (0 ≤ n ∧ n < (l.length : Int)) (.ok (.d (.int .u8) ((l.getD n.toNat 0).toNat : Int)))
      | _ => .bad
    | some (.array len e) => match a with
      | .d (.arr m' u) l => match isTy P e u && Nat.beq m' len with
        | true => .need (0 ≤ n ∧ n < (len : Int)) (.ok (.d u (l.getD n.toNat u.dflt)))
        | false => .bad
      | .ag cells => match sizeAt P e with
        | some m => .need (0 ≤ n ∧ n < (len : Int)) (caseN n (fun j => T.ofO (readAV P e cells (j * m))) len)
        | none => .bad
      | _ => .bad
    | _ => .bad

def indexAV (P : Program) (t : TypeId) (a i : AV) : T AV :=
  match i with
  | .d (.int _) n => indexI P t a n
  | _ => .bad

section
variable {C : Ctx} {ρ : Nat → Nat} {H : Heap} {w : World} {P : Program}

theorem add_mk (b o n : Nat) : (⟨b, o, none⟩ : Addr).add n = ⟨b, o + n, none⟩ := by unfold Addr.add; split <;> simp_all

theorem iAddrI_sound {H0 : Heap} (hsub : ∀ x ∈ H0, x ∈ H) {next : Nat} (hm : MRel C ρ H next w) {t : TypeId} {a r : AV} {v : Value} {k : IntKind} {n : Int} (h : (iAddrI P H0 t a n).Leaf r) (ha : VR C ρ H w a v) :
    ∃ v', (Instr.indexAt t v (.int k n)).run P w = .ok v' w ∧ VR C ρ H w r v' := by
  unfold iAddrI at h
  · split at h
    · rename_i e hu
      have hrun : ∀ (b o len cap m : Nat), sizeAt P e = some m → 0 ≤ n → n < (len : Int) →
          (Instr.indexAt t (.slice (some ⟨b, o, none⟩) len cap) (.int k n)).run P w = .ok (.pointer (some ⟨b, o + n.toNat * m, none⟩)) w := by
        intro b o len cap m hs h0 h1
        simp [Instr.indexAt, asIntOf, run_underlying hu, h0, h1, sizeAt_run hs, add_mk]
      split at h
      · rename_i u l
        split at h
        · rename_i m hs
          split at h
          · rename_i hb
            have hb := beq_true hb
            subst hb
            cases h with
            | need hp h =>
              cases h
              obtain ⟨a', cap, e1, h2, h3, h4⟩ := ha.datum.scalar rfl
              injection e1 with e1 _
              subst e1
              have hne : l ≠ [] := fun e => by subst e; simp at hp; omega
              obtain ⟨b, o, c, e', fr, ha', hok, hb, hs', hr⟩ := h4.resolve_left hne
              subst ha'
              have hlt : n.toNat < l.length := by omega
              have hle : (n.toNat + 1) * u.size ≤ l.length * u.size := Nat.mul_le_mul_right _ hlt
              rw [Nat.succ_mul] at hle
              refine ⟨_, hrun _ _ _ _ _ hs hp.1 hp.2, .dptr hok hb (by omega) ?_⟩
              have := RdL.getD (fun x cs => Rd.length u x cs) u.dflt l _ n.toNat hr hlt
              rw [list_window _ _ _ _ hle, List.drop_drop] at this
              exact this
          · cases h
        · cases h
      · rename_i kk off len
        split at h
        · rename_i e2 u l m hf hs
          split at h
          · rename_i hb
            have hb := beq_true hb
            subst hb
            cases h with
            | need hp h =>
              cases h
              have hk := hsub _ (Heap.find_mem hf)
              cases ha with
              | own hk' hl hc hmx hb hsz ha =>
                have hu' := Heap.mem_unique hm.nodup hk hk'
                injection hu' with hu1 hu2 hu3
                subst hu1; subst hu2
                have ha' := ha.resolve_right (fun h => by omega)
                subst ha'
                refine ⟨_, hrun _ _ _ _ _ hs hp.1 hp.2, ?_⟩
                rw [← Nat.add_mul]
                have hu3 := eq_of_heq hu3
                subst hu3
                exact .eptr hk (by have := hp.2; omega)
          · cases h
        · cases h
      · rename_i kk o len cc
        split at h
        · rename_i m hs
          cases h with
          | need hp h =>
            obtain ⟨j, hj, h⟩ := caseN_leaf h
            cases h
            obtain rfl : n.toNat = j := by omega
            cases ha with
            | sv hk hn _ => exact ⟨_, hrun _ _ _ _ _ hs hp.1 hp.2, .ptr hk⟩
        · cases h
      · cases h
    · rename_i len e hu
      have hrun : ∀ (b o m : Nat), sizeAt P e = some m → 0 ≤ n → n < (len : Int) →
          (Instr.indexAt t (.pointer (some ⟨b, o, none⟩)) (.int k n)).run P w = .ok (.pointer (some ⟨b, o + n.toNat * m, none⟩)) w := by
        intro b o m hs h0 h1
        simp [Instr.indexAt, asIntOf, run_underlying hu, h0, h1, sizeAt_run hs, add_mk, Instr.sureAddr]
      split at h
      · rename_i kk off
        split at h
        · rename_i m hs
          cases h with
          | need hp h =>
            obtain ⟨j, hj, h⟩ := caseN_leaf h
            cases h
            obtain rfl : n.toNat = j := by omega
            cases ha with
            | ptr hk => exact ⟨_, hrun _ _ _ hs hp.1 hp.2, .ptr hk⟩
        · cases h
      · rename_i m' u l
        split at h
        · rename_i m hs
          split at h
          · rename_i hb
            simp only [Bool.and_eq_true] at hb
            have hb1 := beq_true hb.1
            have hb2 := beq_true hb.2
            subst hb1; subst hb2
            cases h with
            | need hp h =>
              cases h
              cases ha with
              | dptr hok hc ho hr =>
                obtain ⟨hl, hr⟩ := hr
                have hlt : n.toNat < l.length := by rw [hl]; omega
                have hle : (n.toNat + 1) * u.size ≤ m' * u.size := Nat.mul_le_mul_right _ (by rw [hl] at hlt; exact hlt)
                rw [Nat.succ_mul] at hle
                simp only [Ty.size] at ho hr
                refine ⟨_, hrun _ _ _ hs hp.1 hp.2, .dptr hok hc (by omega) ?_⟩
                have := RdL.getD (fun x cs => Rd.length u x cs) u.dflt l _ n.toNat hr hlt
                rw [list_window _ _ _ _ hle, List.drop_drop] at this
                exact this
          · cases h
        · cases h
      · cases h
    · cases h

theorem iAddrAV_sound {H0 : Heap} (hsub : ∀ x ∈ H0, x ∈ H) {next : Nat} (hm : MRel C ρ H next w) {t : TypeId} {a i r : AV} {v vi : Value} (h : (iAddrAV P H0 t a i).Leaf r) (ha : VR C ρ H w a v) (hi : VR C ρ H w i vi) :
    ∃ v', (Instr.indexAt t v vi).run P w = .ok v' w ∧ VR C ρ H w r v' := by
  unfold iAddrAV at h
  split at h
  · rw [(int_value hi).1]; exact iAddrI_sound hsub hm h ha
  · cases h

theorem bytes_get (l : List UInt8) (i : Nat) (h : i < l.length) : (⟨⟨l⟩⟩ : ByteArray)[i]? = some (l.getD i 0) := by
  rw [getElem?_pos _ _ (by show i < l.length; exact h)]
  congr 1
  show l[i] = _
  simp [h]

theorem indexI_sound {t : TypeId} {a r : AV} {v : Value} {k : IntKind} {n : Int} (h : (indexI P t a n).Leaf r) (ha : VR C ρ H w a v) :
    ∃ v', (Instr.index t v (.int k n)).run P w = .ok v' w ∧ VR C ρ H w r v' := by
  unfold indexI at h
  · split at h
    · rename_i hu
      split at h
      · rename_i l
        cases h with
        | need hp h =>
          cases h
          obtain ⟨e, _⟩ := str_value ha
          subst e
          have hlt : n.toNat < l.length := by omega
          have hg := bytes_get l n.toNat hlt
          refine ⟨.int .u8 ((l.getD n.toNat 0).toNat : Int), ?_, ?_⟩
          · simp [Instr.index, asIntOf, run_underlying hu, hp.1, hg]
          · have := (l.getD n.toNat 0).toNat_lt
            exact vr_int (by simp [IntKind.min, IntKind.signed]) (by simp [IntKind.max, IntKind.signed, IntKind.bits]; omega)
      · cases h
    · rename_i len e hu
      split at h
      · rename_i m' u l
        split at h
        · rename_i hb
          simp only [Bool.and_eq_true] at hb
          have hb2 := beq_true hb.2
          subst hb2
          cases h with
          | need hp h =>
            cases h
            obtain ⟨cs, hr, hv⟩ := ha.datum
            simp only [vOf, Ty.agg, if_true] at hv
            subst hv
            obtain ⟨hl, hr⟩ := hr
            have hlt : n.toNat < l.length := by rw [hl]; omega
            have hle : (n.toNat + 1) * u.size ≤ m' * u.size := Nat.mul_le_mul_right _ (by rw [hl] at hlt; exact hlt)
            rw [Nat.succ_mul] at hle
            have hcl := RdL.length (fun x cs => Rd.length u x cs) _ _ hr
            rw [hl] at hcl
            obtain ⟨v', h5, h6⟩ := part_data (P := P) hb.1 (by omega) (RdL.getD (fun x cs => Rd.length u x cs) u.dflt l _ n.toNat hr hlt)
            refine ⟨v', ?_, .d h6⟩
            simp only [Instr.index, asIntOf, Sem.run_bind, Sem.run_pure, run_underlying hu, Result.andThen_ok, Sem.run_ite, if_pos hp, sizeAt_run (isTy_sound hb.1).2]
            exact h5
        · cases h
      · rename_i cells
        split at h
        · rename_i m hs
          cases h with
          | need hp h =>
            obtain ⟨j, hj, h⟩ := caseN_leaf h
            have h := T.Leaf.ofO h
            obtain rfl : n.toNat = j := by omega
            cases ha with
            | ag h1 h2 =>
              obtain ⟨v', h5, h6⟩ := readAV_sound h h1 h2
              refine ⟨v', ?_, h6⟩
              simp only [Instr.index, asIntOf, Sem.run_bind, Sem.run_pure, run_underlying hu, Result.andThen_ok, Sem.run_ite, if_pos hp, sizeAt_run hs]
              exact h5
        · cases h
      · cases h
    · cases h

theorem indexAV_sound {t : TypeId} {a i r : AV} {v vi : Value} (h : (indexAV P t a i).Leaf r) (ha : VR C ρ H w a v) (hi : VR C ρ H w i vi) :
    ∃ v', (Instr.index t v vi).run P w = .ok v' w ∧ VR C ρ H w r v' := by
  unfold indexAV at h
  split at h
  · rw [(int_value hi).1]; exact indexI_sound h ha
  · cases h
end
end Go.Vg

namespace Go.Vg
open Go Go.RowKit

def boundI (n : Int) (m : Nat) : T Nat := .need (0 ≤ n ∧ n ≤ (m : Int)) (.ok n.toNat)
def bound (a : Option AV) (m d : Nat) : T Nat :=
  match a with
  | none => .ok d
  | some (.d (.int _) n) => boundI n m
  | some _ => .bad

def sliceAV (P : Program) (t : TypeId) (a : AV) (lo hi mx : Option AV) : T AV :=
  match mx with
  | some _ => .bad
  | none => match P.underlying t with
    | some .string => match a with
      | .d .str l => (bound hi l.length l.length).bind fun h => (bound lo h 0).bind fun k => .ok (.d .str ((l.drop k).take (h - k)))
      | _ => .bad
    | some (.slice e) => match a with
      | .d (.sl u) l => match sizeAt P e with
        | some m => match Nat.beq m u.size with
          | true => (bound hi l.length l.length).bind fun h => (bound lo h 0).bind fun k => .ok (.d (.sl u) ((l.drop k).take (h - k)))
          | false => .bad
        | none => .bad
      | .nsl => match sizeAt P e with
        | some _ => (bound hi 0 0).bind fun h => (bound lo h 0).bind fun _ => .ok .nsl
        | none => .bad
      | _ => .bad
    | _ => .bad

/-- A slice with a greatest capacity. -/
def sliceMx (P : Program) (t : TypeId) (a : AV) (lo hi : Option AV) (mx : AV) : T AV :=
  match P.underlying t with
  | some (.slice e) => match a with
    | .d (.sl u) l => match sizeAt P e, hi with
      | some m, some hi => match Nat.beq m u.size with
        | true => (bound (some mx) l.length 0).bind fun c => (bound (some hi) c 0).bind fun h => (bound lo h 0).bind fun k => .ok (.d (.sl u) ((l.drop k).take (h - k)))
        | false => .bad
      | _, _ => .bad
    | _ => .bad
  | _ => .bad

/-- All of an array among the call's own variables, as a slice. -/
def sliceArr (P : Program) (t : TypeId) (k off : Nat) (lo hi mx : Option AV) : T AV :=
  match lo, mx with
  | none, none => match P.underlying t with
    | some (.array n e) => match Nat.ble n lim, sizeAt P e with
      | true, some _ => (bound hi n n).bind fun h => .ok (.sv k off h n)
      | _, _ => .bad
    | _ => .bad
  | _, _ => .bad

/-- A slice of one of the call's own rows. -/
def sliceOwn (P : Program) (H : Heap) (t : TypeId) (k off len : Nat) (lo hi mx : Option AV) : T AV :=
  match mx with
  | some _ => .bad
  | none => match P.underlying t with
    | some (.slice e) => match H.find k, sizeAt P e with
      | some (.row _ u _), some m => match Nat.beq m u.size with
        | true => (bound hi len len).bind fun h => (bound lo h 0).bind fun j => .ok (.own k (off + j) (h - j))
        | false => .bad
      | _, _ => .bad
    | _ => .bad

/-- The rest of a slice that is as long as it can be. -/
def oxOf : AV → Option AV → Option AV → Option (Nat × Nat × Nat)
  | .ox k off len, none, none => some (k, off, len)
  | _, _, _ => none
def sliceOx (P : Program) (H : Heap) (t : TypeId) (k off len : Nat) (lo : Option AV) : T AV :=
  match P.underlying t with
  | some (.slice e) => match H.find k, sizeAt P e with
    | some (.row _ u _), some m => match Nat.beq m u.size with
      | true => (bound lo len 0).bind fun j => .ok (.ox k (off + j) (len - j))
      | false => .bad
    | _, _ => .bad
  | _ => .bad

def OVR (C : Ctx) (ρ : Nat → Nat) (H : Heap) (w : World) : Option AV → Option Value → Prop
  | none, none => True
  | some a, some v => VR C ρ H w a v
  | _, _ => False

section
variable {C : Ctx} {ρ : Nat → Nat} {H : Heap} {w : World} {P : Program}

theorem sliceBounds_run {lo hi : Option AV} {vlo vhi : Option Value} {b : Bool} {len cap h l : Nat} (hlen : len ≤ cap)
    (hh : (bound hi len len).Leaf h) (hl : (bound lo h 0).Leaf l) (h1 : OVR C ρ H w hi vhi) (h2 : OVR C ρ H w lo vlo) :
    (Instr.sliceBounds b len cap vlo vhi none).run P w = .ok (l, h, cap) w ∧ l ≤ h ∧ h ≤ len := by
  have keyI : ∀ (k : IntKind) (n : Int) (m m' d r : Nat) (code : BoundsCode), m ≤ m' → (boundI n m).Leaf r →
      r ≤ m ∧ ((some (Value.int k n) = none ∧ r = d) ∨ ∃ u, some (Value.int k n) = some u ∧ (Instr.sliceBound u m' code).run P w = .ok r w) := by
    intro k n m m' d r code hm hb
    unfold boundI at hb
    cases hb with
    | need hp hb =>
      cases hb
      refine ⟨by have := hp.2; omega, Or.inr ⟨_, rfl, ?_⟩⟩
      have h3 : 0 ≤ n ∧ n ≤ (m' : Int) := ⟨hp.1, by have := hp.2; omega⟩
      simp only [Instr.sliceBound, asIntOf, Sem.run_bind, Sem.run_pure, Result.andThen_ok, Sem.run_ite, if_pos h3]
  have key : ∀ (a : Option AV) (v : Option Value) (m m' d r : Nat) (code : BoundsCode), m ≤ m' → d ≤ m → (bound a m d).Leaf r → OVR C ρ H w a v →
      r ≤ m ∧ ((v = none ∧ r = d) ∨ ∃ u, v = some u ∧ (Instr.sliceBound u m' code).run P w = .ok r w) := by
    intro a v m m' d r code hm hd hb hv
    unfold bound at hb
    split at hb
    · cases hb
      cases v with
      | none => exact ⟨hd, Or.inl ⟨rfl, rfl⟩⟩
      | some u => exact hv.elim
    · rename_i k n
      cases v with
      | none => exact hv.elim
      | some u =>
        have he := (int_value hv).1
        subst he
        exact keyI k n m m' d r code hm hb
    · cases hb
  obtain ⟨k1, k2⟩ := key hi vhi len cap len h (if b then .sliceAcap else .sliceAlen) hlen (Nat.le_refl _) hh h1
  obtain ⟨k3, k4⟩ := key lo vlo h h 0 l .sliceB (Nat.le_refl _) (Nat.zero_le _) hl h2
  refine ⟨?_, k3, k1⟩
  rcases k2 with ⟨rfl, rfl⟩ | ⟨u, rfl, hu⟩ <;> rcases k4 with ⟨rfl, rfl⟩ | ⟨u', rfl, hu'⟩ <;> simp_all [Instr.sliceBounds]

theorem boundI_run {k : IntKind} {n : Int} {m m' r : Nat} {code : BoundsCode} (hm : m ≤ m') (hb : (boundI n m).Leaf r) :
    r ≤ m ∧ (Instr.sliceBound (.int k n) m' code).run P w = .ok r w := by
  unfold boundI at hb
  cases hb with
  | need hp hb =>
    cases hb
    refine ⟨by have := hp.2; omega, ?_⟩
    have h3 : 0 ≤ n ∧ n ≤ (m' : Int) := ⟨hp.1, by have := hp.2; omega⟩
    simp only [Instr.sliceBound, asIntOf, Sem.run_bind, Sem.run_pure, Result.andThen_ok, Sem.run_ite, if_pos h3]

theorem bound_run {a : Option AV} {v : Option Value} {m m' d r : Nat} {code : BoundsCode} (hm : m ≤ m') (hd : d ≤ m) (hb : (bound a m d).Leaf r) (hv : OVR C ρ H w a v) :
    r ≤ m ∧ ((v = none ∧ r = d) ∨ ∃ u, v = some u ∧ (Instr.sliceBound u m' code).run P w = .ok r w) := by
  unfold bound at hb
  split at hb
  · cases hb
    cases v with
    | none => exact ⟨hd, Or.inl ⟨rfl, rfl⟩⟩
    | some u => exact hv.elim
  · rename_i k n
    cases v with
    | none => exact hv.elim
    | some u =>
      have he := (int_value hv).1
      subst he
      exact ⟨(boundI_run (P := P) (w := w) (k := k) (code := code) hm hb).1, Or.inr ⟨_, rfl, (boundI_run hm hb).2⟩⟩
  · cases hb

theorem sliceBounds3_run {lo : Option AV} {hi mx : AV} {vlo : Option Value} {vhi vmx : Value} {b : Bool} {len len0 cap c h l : Nat} (hlen : len ≤ cap)
    (hc : (bound (some mx) len 0).Leaf c) (hh : (bound (some hi) c 0).Leaf h) (hl : (bound lo h 0).Leaf l) (h0 : VR C ρ H w mx vmx) (h1 : VR C ρ H w hi vhi) (h2 : OVR C ρ H w lo vlo) :
    (Instr.sliceBounds b len0 cap vlo (some vhi) (some vmx)).run P w = .ok (l, h, c) w ∧ l ≤ h ∧ h ≤ c ∧ c ≤ len := by
  obtain ⟨k1, k2⟩ := bound_run (P := P) (w := w) (code := if b then .slice3Acap else .slice3Alen) hlen (Nat.zero_le _) hc (show OVR C ρ H w (some mx) (some vmx) from h0)
  obtain ⟨k3, k4⟩ := bound_run (P := P) (w := w) (code := .slice3B) (Nat.le_refl c) (Nat.zero_le _) hh (show OVR C ρ H w (some hi) (some vhi) from h1)
  obtain ⟨k5, k6⟩ := bound_run (P := P) (w := w) (code := .slice3C) (Nat.le_refl h) (Nat.zero_le _) hl h2
  refine ⟨?_, k5, k3, k1⟩
  rcases k2 with ⟨h, _⟩ | ⟨u, e, hu⟩
  · cases h
  injection e with e; subst e
  rcases k4 with ⟨h, _⟩ | ⟨u, e, hu2⟩
  · cases h
  injection e with e; subst e
  rcases k6 with ⟨rfl, rfl⟩ | ⟨u', rfl, hu'⟩ <;> simp_all [Instr.sliceBounds]

theorem len_window {α : Type} (l : List α) (a b : Nat) (h : a + b ≤ l.length) : ((l.drop a).take b).length = b := by simp; omega

theorem sliceStr_sound {t : TypeId} {l : List UInt8} {lo hi : Option AV} {vlo vhi : Option Value} {hh kk : Nat} (hu : P.underlying t = some .string) (hl : l.length ≤ lim)
    (hb1 : (bound hi l.length l.length).Leaf hh) (hb2 : (bound lo hh 0).Leaf kk) (h1 : OVR C ρ H w hi vhi) (h2 : OVR C ρ H w lo vlo) :
    ∃ v', (Instr.sliceAt t (.string ⟨⟨l⟩⟩) vlo vhi none).run P w = .ok v' w ∧ VR C ρ H w (.d .str ((l.drop kk).take (hh - kk))) v' := by
  obtain ⟨hr, hle1, hle2⟩ := sliceBounds_run (P := P) (b := false) (cap := l.length) (Nat.le_refl _) hb1 hb2 h1 h2
  refine ⟨.string ⟨⟨(l.drop kk).take (hh - kk)⟩⟩, ?_, vr_str (by simp; omega)⟩
  simp only [Instr.sliceAt, Sem.run_bind, run_underlying hu, Result.andThen_ok, Instr.slice, Option.isSome_none, Bool.false_eq_true, if_false, size_mk, hr, extract_mk, Sem.run_pure]

theorem sliceAV_sound {t : TypeId} {a r : AV} {v : Value} {lo hi mx : Option AV} {vlo vhi vmx : Option Value} (h : (sliceAV P t a lo hi mx).Leaf r)
    (ha : VR C ρ H w a v) (h1 : OVR C ρ H w hi vhi) (h2 : OVR C ρ H w lo vlo) (h3 : OVR C ρ H w mx vmx) :
    ∃ v', (Instr.sliceAt t v vlo vhi vmx).run P w = .ok v' w ∧ VR C ρ H w r v' := by
  unfold sliceAV at h
  split at h
  · cases h
  · cases vmx with
    | some _ => exact h3.elim
    | none =>
      split at h
      · rename_i hu
        split at h
        · rename_i l
          obtain ⟨hh, hb1, h⟩ := T.Leaf.bind h
          obtain ⟨kk, hb2, h⟩ := T.Leaf.bind h
          cases h
          obtain ⟨e, hl⟩ := str_value ha
          subst e
          exact sliceStr_sound hu hl hb1 hb2 h1 h2
        · cases h
      · rename_i e hu
        split at h
        · rename_i u l
          split at h
          · rename_i m hs
            split at h
            · rename_i hb
              have hb := beq_true hb
              subst hb
              obtain ⟨hh, hb1, h⟩ := T.Leaf.bind h
              obtain ⟨kk, hb2, h⟩ := T.Leaf.bind h
              cases h
              obtain ⟨a', cap, e1, h4, h5, h6⟩ := ha.datum.scalar rfl
              injection e1 with e1 _
              subst e1
              obtain ⟨hr, hle1, hle2⟩ := sliceBounds_run (P := P) (b := true) (cap := cap) h4 hb1 hb2 h1 h2
              have hlen : ((l.drop kk).take (hh - kk)).length = hh - kk := len_window (α := u.T) l kk (hh - kk) (by omega)
              refine ⟨.slice (if cap = kk then a' else a'.map (fun (x : Addr) => x.add (kk * u.size))) (hh - kk) (cap - kk), ?_, ?_⟩
              · simp only [Instr.sliceAt, Sem.run_bind, run_underlying hu, Result.andThen_ok, Instr.slice, hr, sizeAt_run hs, Sem.run_pure]
              · refine .d ⟨_, ⟨_, _, by rw [hlen], by rw [hlen]; omega, by rw [hlen]; omega, ?_⟩, rfl⟩
                by_cases hnil : (l.drop kk).take (hh - kk) = []
                · exact Or.inl hnil
                · have hpos : 0 < hh - kk := by rw [← hlen]; exact List.length_pos_iff.2 hnil
                  have hne : l ≠ [] := fun e => by subst e; simp at hnil
                  obtain ⟨b, o, c, e', fr, ha', hok, hbk, hs', hr'⟩ := h6.resolve_left hne
                  subst ha'
                  have hck : ¬ cap = kk := by omega
                  have hle : (kk + (hh - kk)) * u.size ≤ l.length * u.size := Nat.mul_le_mul_right _ (by omega)
                  rw [Nat.add_mul] at hle
                  refine Or.inr ⟨b, o + kk * u.size, c, e', fr, by simp [hck, add_mk], hok, hbk, by rw [hlen]; omega, ?_⟩
                  have := RdL.take_drop (fun x cs => Rd.length u x cs) l _ kk (hh - kk) hr'
                  rw [list_window _ _ _ _ hle, List.drop_drop] at this
                  rw [hlen]
                  exact this
            · cases h
          · cases h
        · split at h
          · rename_i m hs
            obtain ⟨hh, hb1, h⟩ := T.Leaf.bind h
            obtain ⟨kk, hb2, h⟩ := T.Leaf.bind h
            cases h
            cases ha
            obtain ⟨hr, hle1, hle2⟩ := sliceBounds_run (P := P) (b := true) (cap := 0) (Nat.le_refl _) hb1 hb2 h1 h2
            have e1 : hh = 0 := by omega
            have e2 : kk = 0 := by omega
            subst e1; subst e2
            refine ⟨.slice none 0 0, ?_, .nsl⟩
            simp only [Instr.sliceAt, Sem.run_bind, run_underlying hu, Result.andThen_ok, Instr.slice, hr, sizeAt_run hs, Sem.run_pure]
            rfl
          · cases h
        · cases h
      · cases h

theorem sliceMx_sound {t : TypeId} {a r : AV} {v : Value} {lo hi : Option AV} {mx : AV} {vlo vhi : Option Value} {vmx : Value} (h : (sliceMx P t a lo hi mx).Leaf r)
    (ha : VR C ρ H w a v) (h1 : OVR C ρ H w hi vhi) (h2 : OVR C ρ H w lo vlo) (h3 : VR C ρ H w mx vmx) :
    ∃ v', (Instr.sliceAt t v vlo vhi (some vmx)).run P w = .ok v' w ∧ VR C ρ H w r v' := by
  unfold sliceMx at h
  split at h
  · rename_i e hu
    split at h
    · rename_i u l
      split at h
      · rename_i m hi' hs
        cases vhi with
        | none => exact h1.elim
        | some vhi =>
        split at h
        · rename_i hb
          have hb := beq_true hb
          subst hb
          obtain ⟨cc, hb0, h⟩ := T.Leaf.bind h
          obtain ⟨hh, hb1, h⟩ := T.Leaf.bind h
          obtain ⟨kk, hb2, h⟩ := T.Leaf.bind h
          cases h
          obtain ⟨a', cap, e1, h4, h5, h6⟩ := ha.datum.scalar rfl
          injection e1 with e1 _
          subst e1
          obtain ⟨hr, hle1, hle2, hle3⟩ := sliceBounds3_run (P := P) (b := true) (len0 := l.length) (cap := cap) h4 hb0 hb1 hb2 h3 h1 h2
          have hlen : ((l.drop kk).take (hh - kk)).length = hh - kk := len_window (α := u.T) l kk (hh - kk) (by omega)
          refine ⟨.slice (if cc = kk then a' else a'.map (fun (x : Addr) => x.add (kk * u.size))) (hh - kk) (cc - kk), ?_, ?_⟩
          · simp only [Instr.sliceAt, Sem.run_bind, run_underlying hu, Result.andThen_ok, Instr.slice, hr, sizeAt_run hs, Sem.run_pure]
          · refine .d ⟨_, ⟨_, _, by rw [hlen], by rw [hlen]; omega, by rw [hlen]; omega, ?_⟩, rfl⟩
            by_cases hnil : (l.drop kk).take (hh - kk) = []
            · exact Or.inl hnil
            · have hpos : 0 < hh - kk := by rw [← hlen]; exact List.length_pos_iff.2 hnil
              have hne : l ≠ [] := fun e => by subst e; simp at hnil
              obtain ⟨b, o, c, e', fr, ha', hok, hbk, hs', hr'⟩ := h6.resolve_left hne
              subst ha'
              have hck : ¬ cc = kk := by omega
              have hle : (kk + (hh - kk)) * u.size ≤ l.length * u.size := Nat.mul_le_mul_right _ (by omega)
              rw [Nat.add_mul] at hle
              refine Or.inr ⟨b, o + kk * u.size, c, e', fr, by simp [hck, add_mk], hok, hbk, by rw [hlen]; omega, ?_⟩
              have := RdL.take_drop (fun x cs => Rd.length u x cs) l _ kk (hh - kk) hr'
              rw [list_window _ _ _ _ hle, List.drop_drop] at this
              rw [hlen]
              exact this
        · cases h
      · cases h
    · cases h
  · cases h

theorem sliceArr_sound {t : TypeId} {k off : Nat} {r : AV} {v : Value} {lo hi mx : Option AV} {vlo vhi vmx : Option Value} (h : (sliceArr P t k off lo hi mx).Leaf r)
    (ha : VR C ρ H w (.ptr k off) v) (h1 : OVR C ρ H w hi vhi) (h2 : OVR C ρ H w lo vlo) (h3 : OVR C ρ H w mx vmx) :
    ∃ v', (Instr.sliceAt t v vlo vhi vmx).run P w = .ok v' w ∧ VR C ρ H w r v' := by
  unfold sliceArr at h
  split at h
  · cases vlo with
    | some _ => exact h2.elim
    | none =>
    cases vmx with
    | some _ => exact h3.elim
    | none =>
    split at h
    · rename_i n e hu
      split at h
      · rename_i m hn hs
        obtain ⟨hh, hb1, h⟩ := T.Leaf.bind h
        cases h
        cases ha with
        | ptr hk =>
          obtain ⟨hr, hle1, hle2⟩ := sliceBounds_run (P := P) (lo := none) (vlo := none) (b := false) (l := 0) (Nat.le_refl n) hb1 .ok h1 trivial
          refine ⟨.slice (some ⟨ρ k, off, none⟩) hh n, ?_, .sv hk (Nat.le_trans hle2 (Nat.le_of_ble_eq_true hn)) hle2⟩
          simp [Instr.sliceAt, run_underlying hu, Instr.sureAddr, hr, sizeAt_run hs, add_mk]
      · cases h
    · cases h
  · cases h

theorem sliceOwn_sound {H0 : Heap} (hsub : ∀ x ∈ H0, x ∈ H) {next : Nat} (hm : MRel C ρ H next w) {t : TypeId} {r : AV} {v : Value} {k off len : Nat} {lo hi mx : Option AV} {vlo vhi vmx : Option Value} (h : (sliceOwn P H0 t k off len lo hi mx).Leaf r)
    (ha : VR C ρ H w (.own k off len) v) (h1 : OVR C ρ H w hi vhi) (h2 : OVR C ρ H w lo vlo) (h3 : OVR C ρ H w mx vmx) :
    ∃ v', (Instr.sliceAt t v vlo vhi vmx).run P w = .ok v' w ∧ VR C ρ H w r v' := by
  unfold sliceOwn at h
  split at h
  · cases h
  · cases vmx with
    | some _ => exact h3.elim
    | none =>
      split at h
      · rename_i e hu
        split at h
        · rename_i e2 u l m hf hs
          split at h
          · rename_i hb
            have hb := beq_true hb
            subst hb
            obtain ⟨hh, hb1, h⟩ := T.Leaf.bind h
            obtain ⟨j, hb2, h⟩ := T.Leaf.bind h
            cases h
            have hk := hsub _ (Heap.find_mem hf)
            cases ha with
            | own hk' hl hc hmx hbk hsz ha =>
              rename_i a' cap c fr
              have hu' := Heap.mem_unique hm.nodup hk hk'
              injection hu' with hu1 hu2 hu3
              subst hu1; subst hu2
              have hu3 := eq_of_heq hu3
              subst hu3
              obtain ⟨hr, hle1, hle2⟩ := sliceBounds_run (P := P) (b := true) (cap := cap) hc hb1 hb2 h1 h2
              refine ⟨.slice (if cap = j then a' else Option.map (fun (x : Addr) => x.add (j * u.size)) a') (hh - j) (cap - j), ?_, ?_⟩
              · simp only [Instr.sliceAt, Sem.run_bind, run_underlying hu, Result.andThen_ok, Instr.slice, hr, sizeAt_run hs, Sem.run_pure]
              · refine .own hk (by omega) (by omega) (by omega) hbk (by rw [← hsz]; congr 1; omega) ?_
                by_cases hcj : cap = j
                · simp only [hcj, if_true]
                  by_cases hj : j = 0
                  · subst hj
                    rcases ha with ha | ⟨_, ha⟩
                    · left; rw [ha]; simp
                    · right; exact ⟨by omega, by omega⟩
                  · right; exact ⟨by omega, by omega⟩
                · have ha' := ha.resolve_right (fun h => by omega)
                  left
                  rw [ha', if_neg hcj]
                  simp [add_mk, Nat.add_mul]
          · cases h
        · cases h
      · cases h

theorem sliceOx_sound {H0 : Heap} (hsub : ∀ x ∈ H0, x ∈ H) {next : Nat} (hm : MRel C ρ H next w) {t : TypeId} {r : AV} {v : Value} {k off len : Nat} {lo : Option AV} {vlo : Option Value} (h : (sliceOx P H0 t k off len lo).Leaf r)
    (ha : VR C ρ H w (.ox k off len) v) (h2 : OVR C ρ H w lo vlo) : ∃ v', (Instr.sliceAt t v vlo none none).run P w = .ok v' w ∧ VR C ρ H w r v' := by
  unfold sliceOx at h
  split at h
  · rename_i e hu
    split at h
    · rename_i e2 u l m hf hs
      split at h
      · rename_i hb
        have hb := beq_true hb
        subst hb
        obtain ⟨j, hb2, h⟩ := T.Leaf.bind h
        cases h
        have hk := hsub _ (Heap.find_mem hf)
        cases ha with
        | ox hk' hl hmx hbk hsz ha =>
          rename_i a' c fr
          have hu' := Heap.mem_unique hm.nodup hk hk'
          injection hu' with hu1 hu2 hu3
          subst hu1; subst hu2
          have hu3 := eq_of_heq hu3
          subst hu3
          obtain ⟨hr, hle1, _⟩ := sliceBounds_run (P := P) (b := true) (cap := len) (hi := none) (vhi := none) (Nat.le_refl _) (.ok) hb2 trivial h2
          refine ⟨.slice (if len = j then a' else Option.map (fun (x : Addr) => x.add (j * u.size)) a') (len - j) (len - j), ?_, ?_⟩
          · simp only [Instr.sliceAt, Sem.run_bind, run_underlying hu, Result.andThen_ok, Instr.slice, hr, sizeAt_run hs, Sem.run_pure]
          · refine .ox hk (by omega) (by omega) hbk (by rw [← hsz]; congr 1; omega) ?_
            by_cases hcj : len = j
            · simp only [hcj, if_true]
              by_cases hj : j = 0
              · subst hj
                rcases ha with ha | ⟨_, ha⟩
                · left; rw [ha]; simp
                · right; exact ⟨by omega, by omega⟩
              · right; exact ⟨by omega, by omega⟩
            · have ha' := ha.resolve_right (fun h => by omega)
              left
              rw [ha', if_neg hcj]
              simp [add_mk, Nat.add_mul]
      · cases h
    · cases h
  · cases h

end

/-- Parts laid into the cells of a literal. -/
def fillAV (place : Nat → Option (Nat × Nat)) : List AV → List (Nat × AV) → Option (List AV)
  | cells, [] => some cells
  | cells, (i, v) :: r => match place i with
    | some (off, size) => match cellsOf v with
      | some cs => match Nat.beq cs.length size && Nat.ble (off + size) cells.length with
        | true => fillAV place (cells.take off ++ cs ++ cells.drop (off + size)) r
        | false => none
      | none => none
    | none => none

theorem foldl_set (off : Nat) : ∀ (vs : List Value) (k : Nat) (cells : Array Value), off + k + vs.length ≤ cells.size →
    (vs.zipIdx k).foldl (fun cs x => cs.setIfInBounds (off + x.2) x.1) cells = ⟨cells.toList.take (off + k) ++ vs ++ cells.toList.drop (off + k + vs.length)⟩
  | [], k, cells, _ => by simp
  | v :: rest, k, cells, h => by
    simp only [List.length_cons] at h
    rw [List.zipIdx_cons, List.foldl_cons, foldl_set off rest (k + 1) _ (by simp; omega)]
    congr 1
    have e := list_seg_step cells.toList (off + k) v rest (by simp; omega)
    simpa [Array.toList_setIfInBounds, Nat.add_assoc] using e

section
variable {C : Ctx} {ρ : Nat → Nat} {H : Heap} {w : World} {P : Program}

inductive Parts (C : Ctx) (ρ : Nat → Nat) (H : Heap) (w : World) : List (Nat × AV) → List (Nat × Value) → Prop where
  | nil : Parts C ρ H w [] []
  | cons {i : Nat} {a : AV} {v : Value} {as : List (Nat × AV)} {vs : List (Nat × Value)} (h : VR C ρ H w a v) (hs : Parts C ρ H w as vs) : Parts C ρ H w ((i, a) :: as) ((i, v) :: vs)

theorem fillAV_sound {place : Nat → Option (Nat × Nat)} : ∀ (ps : List (Nat × AV)) (cells : List AV) (cs : List Value) (vps : List (Nat × Value)) (r : List AV),
    fillAV place cells ps = some r → VRs C ρ H w cells cs → (∀ v ∈ cs, v.oneCell' = true) → Parts C ρ H w ps vps →
    ∃ rs, Instr.fill place ⟨cs⟩ vps = some ⟨rs⟩ ∧ VRs C ρ H w r rs ∧ ∀ v ∈ rs, v.oneCell' = true
  | [], cells, cs, vps, r, h, hv, h1, hp => by
    cases hp
    simp only [fillAV] at h
    injection h with h; subst h
    exact ⟨cs, rfl, hv, h1⟩
  | (i, a) :: ps, cells, cs, vps, r, h, hv, h1, hp => by
    cases hp with
    | cons ha hps =>
      rename_i v vs
      simp only [fillAV] at h
      split at h
      · rename_i off size hpl
        split at h
        · rename_i as hcs
          split at h
          · rename_i hc
            simp only [Bool.and_eq_true] at hc
            have hlen := beq_true hc.1
            have hle := Nat.le_of_ble_eq_true hc.2
            obtain ⟨hva, hva1⟩ := cellsOf_sound hcs ha
            have hl1 := hva.length
            have hl2 := hv.length
            have hsz : v.cells.size = size := by rw [← hlen, hl1]; simp
            subst hsz
            have hnew : VRs C ρ H w (cells.take off ++ as ++ cells.drop (off + v.cells.size)) (cs.take off ++ v.cells.toList ++ cs.drop (off + v.cells.size)) :=
              ((hv.take off).append hva).append (hv.drop _)
            obtain ⟨rs, hr1, hr2, hr3⟩ := fillAV_sound ps _ _ _ r h hnew (by
              intro u hu
              rcases List.mem_append.1 hu with hu | hu
              · rcases List.mem_append.1 hu with hu | hu
                · exact h1 u (List.mem_of_mem_take hu)
                · exact hva1 u hu
              · exact h1 u (List.mem_of_mem_drop hu)) hps
            refine ⟨rs, ?_, hr2, hr3⟩
            simp only [Instr.fill, hpl]
            rw [if_neg (by simp; omega)]
            rw [← hr1]
            congr 1
            rw [← Array.foldl_toList, Array.toList_zipIdx]
            have := foldl_set off v.cells.toList 0 ⟨cs⟩ (by simp; omega)
            simpa using this
          · cases h
        · cases h
      · cases h
end
end Go.Vg
