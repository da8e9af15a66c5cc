/-
  The engine, part A: a universe of plain Go data, how such data lie in memory, and what a frame's slots and the call's own blocks hold. Own work; no condition.
-/
import Derived.Calls
import Derived.Orders
import Derived.Below
import Derived.Laws.CopyRow
import Derived.KernelRfl
namespace Go.Vg
open Go Go.RowKit

/-- The types of plain data. -/
inductive Ty where
  | int (k : IntKind)
  | bool
  | str
  | unit
  | pair (t u : Ty)
  | arr (n : Nat) (t : Ty)
  | sl (t : Ty)

/-- What a datum of a type is. A struct is a pair of its first field and the rest, ending in 'unit'. -/
def Ty.T : Ty → Type
  | .int _ => Int
  | .bool => Bool
  | .str => List UInt8
  | .unit => Unit
  | .pair t u => t.T × u.T
  | .arr _ t => List t.T
  | .sl t => List t.T

def Ty.dec : (t u : Ty) → Decidable (t = u)
  | .int k, .int j => if h : k = j then isTrue (h ▸ rfl) else isFalse (fun e => h (by injection e))
  | .bool, .bool => isTrue rfl
  | .str, .str => isTrue rfl
  | .unit, .unit => isTrue rfl
  | .pair t u, .pair t' u' => match t.dec t', u.dec u' with
    | isTrue h, isTrue h' => isTrue (h ▸ h' ▸ rfl)
    | isFalse h, _ => isFalse (fun e => h (by injection e))
    | _, isFalse h => isFalse (fun e => h (by injection e))
  | .arr n t, .arr m u => match t.dec u with
    | isTrue h => if e : n = m then isTrue (h ▸ e ▸ rfl) else isFalse (fun x => e (by injection x))
    | isFalse h => isFalse (fun e => h (by injection e))
  | .sl t, .sl u => match t.dec u with
    | isTrue h => isTrue (h ▸ rfl)
    | isFalse h => isFalse (fun e => h (by injection e))
  | .int _, .bool | .int _, .str | .int _, .unit | .int _, .pair _ _ | .int _, .arr _ _ | .int _, .sl _ => isFalse (fun e => by cases e)
  | .bool, .int _ | .bool, .str | .bool, .unit | .bool, .pair _ _ | .bool, .arr _ _ | .bool, .sl _ => isFalse (fun e => by cases e)
  | .str, .int _ | .str, .bool | .str, .unit | .str, .pair _ _ | .str, .arr _ _ | .str, .sl _ => isFalse (fun e => by cases e)
  | .unit, .int _ | .unit, .bool | .unit, .str | .unit, .pair _ _ | .unit, .arr _ _ | .unit, .sl _ => isFalse (fun e => by cases e)
  | .pair _ _, .int _ | .pair _ _, .bool | .pair _ _, .str | .pair _ _, .unit | .pair _ _, .arr _ _ | .pair _ _, .sl _ => isFalse (fun e => by cases e)
  | .arr _ _, .int _ | .arr _ _, .bool | .arr _ _, .str | .arr _ _, .unit | .arr _ _, .pair _ _ | .arr _ _, .sl _ => isFalse (fun e => by cases e)
  | .sl _, .int _ | .sl _, .bool | .sl _, .str | .sl _, .unit | .sl _, .pair _ _ | .sl _, .arr _ _ => isFalse (fun e => by cases e)

instance : DecidableEq Ty := Ty.dec

/-- A datum of one type seen as one of another, if the two are one. -/
def Ty.as (t u : Ty) (x : t.T) : Option u.T := if h : t = u then some (h ▸ x) else none

theorem Ty.as_some {t u : Ty} {x : t.T} {y : u.T} (h : t.as u x = some y) : ∃ e : t = u, e ▸ x = y := by
  unfold Ty.as at h
  split at h
  · rename_i e; subst e; exact ⟨rfl, by simpa using h⟩
  · cases h

/-- How many cells a datum takes. -/
def Ty.size : Ty → Nat
  | .int _ | .bool | .str | .sl _ => 1
  | .unit => 0
  | .pair t u => t.size + u.size
  | .arr n t => n * t.size

/-- Structs and arrays are made of cells. -/
def Ty.agg : Ty → Bool
  | .unit | .pair _ _ | .arr _ _ => true
  | _ => false

def Ty.dflt : (t : Ty) → t.T
  | .int _ => (0 : Int)
  | .bool => false
  | .str => ([] : List UInt8)
  | .unit => ()
  | .pair t u => (t.dflt, u.dflt)
  | .arr n t => List.replicate n t.dflt
  | .sl _ => []

/-- A list of data, one behind the other. -/
def RdL {α : Type} (R : α → List Value → Prop) : List α → List Value → Prop
  | [], cs => cs = []
  | x :: xs, cs => ∃ c1 c2, cs = c1 ++ c2 ∧ R x c1 ∧ RdL R xs c2

/-- The greatest length of a slice or a string of which these proofs speak. -/
def lim : Nat := 140737488355328

/-- The cells cs hold the datum x; 'ok': in which blocks the elements of slices may lie. -/
def Rd (ok : Nat → Prop) (w : World) : (t : Ty) → t.T → List Value → Prop
  | .int k, (x : Int), cs => cs = [.int k x] ∧ k.min ≤ x ∧ x ≤ k.max
  | .bool, (x : Bool), cs => cs = [.bool x]
  | .str, (x : List UInt8), cs => cs = [.string ⟨⟨x⟩⟩] ∧ x.length ≤ lim
  | .unit, _, cs => cs = []
  | .pair t u, x, cs => ∃ c1 c2, cs = c1 ++ c2 ∧ Rd ok w t x.1 c1 ∧ Rd ok w u x.2 c2
  | .arr n t, (x : List t.T), cs => x.length = n ∧ RdL (Rd ok w t) x cs
  | .sl t, (x : List t.T), cs => ∃ a cap, cs = [.slice a x.length cap] ∧ x.length ≤ cap ∧ x.length ≤ lim ∧
      (x = [] ∨ ∃ b o c e fr, a = some ⟨b, o, none⟩ ∧ ok b ∧ w.heap[b]? = some (.cells c e fr) ∧ o + x.length * t.size ≤ c.size ∧
        RdL (Rd ok w t) x ((c.toList.drop o).take (x.length * t.size)))

theorem RdL.mono {α : Type} {R R' : α → List Value → Prop} (h : ∀ x cs, R x cs → R' x cs) : ∀ xs cs, RdL R xs cs → RdL R' xs cs
  | [], _, hc => hc
  | _ :: xs, _, ⟨c1, c2, e, h1, h2⟩ => ⟨c1, c2, e, h _ _ h1, RdL.mono h xs _ h2⟩

theorem Rd.monoC {ok ok' : Nat → Prop} {w w' : World} (h : ∀ b c e fr, ok b → w.heap[b]? = some (.cells c e fr) → ok' b ∧ w'.heap[b]? = w.heap[b]?) :
    ∀ (t : Ty) (x : t.T) (cs : List Value), Rd ok w t x cs → Rd ok' w' t x cs
  | .int _, _, _, hr => hr
  | .bool, _, _, hr => hr
  | .str, _, _, hr => hr
  | .unit, _, _, hr => hr
  | .pair t u, _, _, ⟨c1, c2, e, h1, h2⟩ => ⟨c1, c2, e, Rd.monoC h t _ _ h1, Rd.monoC h u _ _ h2⟩
  | .arr _ t, _, _, ⟨hl, hr⟩ => ⟨hl, RdL.mono (fun x cs => Rd.monoC h t x cs) _ _ hr⟩
  | .sl t, _, _, ⟨a, cap, e, h1, h2, h3⟩ => by
    refine ⟨a, cap, e, h1, h2, ?_⟩
    rcases h3 with h3 | ⟨b, o, c, e, fr, ha, hok, hb, hs, hr⟩
    · exact Or.inl h3
    · exact Or.inr ⟨b, o, c, e, fr, ha, (h b c e fr hok hb).1, (h b c e fr hok hb).2.trans hb, hs, RdL.mono (fun x cs => Rd.monoC h t x cs) _ _ hr⟩

theorem Rd.mono {ok ok' : Nat → Prop} {w w' : World} (h : ∀ b, ok b → ok' b ∧ w'.heap[b]? = w.heap[b]?) (t : Ty) (x : t.T) (cs : List Value) (hr : Rd ok w t x cs) : Rd ok' w' t x cs :=
  Rd.monoC (fun b _ _ _ hb _ => h b hb) t x cs hr

theorem RdL.length {α : Type} {R : α → List Value → Prop} {n : Nat} (h : ∀ x cs, R x cs → cs.length = n) :
    ∀ xs cs, RdL R xs cs → cs.length = xs.length * n
  | [], _, hc => by simp [RdL] at hc; simp [hc]
  | _ :: xs, _, ⟨c1, c2, e, h1, h2⟩ => by
    rw [e, List.length_append, h _ _ h1, RdL.length h xs _ h2, List.length_cons, Nat.succ_mul, Nat.add_comm]

theorem Rd.length {ok : Nat → Prop} {w : World} : ∀ (t : Ty) (x : t.T) (cs : List Value), Rd ok w t x cs → cs.length = t.size
  | .int _, _, _, ⟨e, _⟩ => by rw [e]; rfl
  | .bool, _, _, e => by rw [show _ = _ from e]; rfl
  | .str, _, _, ⟨e, _⟩ => by rw [e]; rfl
  | .unit, _, _, e => by rw [show _ = _ from e]; rfl
  | .pair t u, _, _, ⟨c1, c2, e, h1, h2⟩ => by rw [e, List.length_append, Rd.length t _ _ h1, Rd.length u _ _ h2]; rfl
  | .arr n t, _, _, ⟨hl, hr⟩ => by rw [RdL.length (fun x cs => Rd.length t x cs) _ _ hr, hl]; rfl
  | .sl _, _, _, ⟨_, _, e, _⟩ => by rw [e]; rfl

/-- Each cell of a datum is the value of one cell. -/
theorem RdL.one {α : Type} {R : α → List Value → Prop} (h : ∀ x cs, R x cs → ∀ v ∈ cs, v.oneCell' = true) :
    ∀ xs cs, RdL R xs cs → ∀ v ∈ cs, v.oneCell' = true
  | [], _, hc, v, hv => by simp [RdL] at hc; subst hc; simp at hv
  | _ :: xs, _, ⟨c1, c2, e, h1, h2⟩, v, hv => by
    subst e
    rcases List.mem_append.1 hv with hv | hv
    · exact h _ _ h1 v hv
    · exact RdL.one h xs _ h2 v hv

theorem Rd.one {ok : Nat → Prop} {w : World} : ∀ (t : Ty) (x : t.T) (cs : List Value), Rd ok w t x cs → ∀ v ∈ cs, v.oneCell' = true
  | .int _, _, _, ⟨e, _⟩, v, hv => by subst e; simp at hv; subst hv; rfl
  | .bool, _, _, e, v, hv => by rw [show _ = _ from e] at hv; simp at hv; subst hv; rfl
  | .str, _, _, ⟨e, _⟩, v, hv => by subst e; simp at hv; subst hv; rfl
  | .unit, _, _, e, v, hv => by rw [show _ = _ from e] at hv; simp at hv
  | .pair t u, _, _, ⟨c1, c2, e, h1, h2⟩, v, hv => by
    subst e
    rcases List.mem_append.1 hv with hv | hv
    · exact Rd.one t _ _ h1 v hv
    · exact Rd.one u _ _ h2 v hv
  | .arr _ t, _, _, ⟨_, hr⟩, v, hv => RdL.one (fun x cs => Rd.one t x cs) _ _ hr v hv
  | .sl _, _, _, ⟨_, _, e, _⟩, v, hv => by subst e; simp at hv; subst hv; rfl

/-- A value holds a datum: the value of a struct or an array is its cells, any other is its one cell. -/
def vOf (t : Ty) (cs : List Value) (v : Value) : Prop := if t.agg then v = .agg ⟨cs⟩ else cs = [v]
def RdV (ok : Nat → Prop) (w : World) (t : Ty) (x : t.T) (v : Value) : Prop := ∃ cs, Rd ok w t x cs ∧ vOf t cs v

theorem RdV.monoC {ok ok' : Nat → Prop} {w w' : World} (h : ∀ b c e fr, ok b → w.heap[b]? = some (.cells c e fr) → ok' b ∧ w'.heap[b]? = w.heap[b]?) {t : Ty} {x : t.T} {v : Value}
    (hr : RdV ok w t x v) : RdV ok' w' t x v := let ⟨cs, h1, h2⟩ := hr; ⟨cs, Rd.monoC h t x cs h1, h2⟩

theorem RdV.mono {ok ok' : Nat → Prop} {w w' : World} (h : ∀ b, ok b → ok' b ∧ w'.heap[b]? = w.heap[b]?) {t : Ty} {x : t.T} {v : Value}
    (hr : RdV ok w t x v) : RdV ok' w' t x v := let ⟨cs, h1, h2⟩ := hr; ⟨cs, Rd.mono h t x cs h1, h2⟩

theorem RdV.cells {ok : Nat → Prop} {w : World} {t : Ty} {x : t.T} {v : Value} (hr : RdV ok w t x v) : Rd ok w t x v.cells.toList := by
  obtain ⟨cs, h1, h2⟩ := hr
  unfold vOf at h2
  split at h2
  · subst h2; exact h1
  · subst h2
    have := Rd.one t x _ h1 v (by simp)
    cases v <;> first | exact h1 | cases this

/-- Where the n-th field of a struct begins, and its type. -/
def offD : Ty → Nat → Option (Nat × Ty)
  | .pair t _, 0 => some (0, t)
  | .pair t u, n + 1 => match offD u n with
    | some (o, v) => some (t.size + o, v)
    | none => none
  | _, _ => none

/-- What an abstract slot holds. -/
inductive AV where
  /-- a datum -/
  | d (t : Ty) (x : t.T)
  /-- the address of a cell of one of the call's own blocks -/
  | ptr (k off : Nat)
  /-- the address of an element of one of the call's own rows -/
  | eptr (k i : Nat)
  /-- the address of a field of an element of one of the call's own rows -/
  | efp (k i f : Nat)
  /-- the address of a datum that nobody changes -/
  | dptr (t : Ty) (x : t.T)
  /-- a slice of one of the call's own rows -/
  | own (k off len : Nat)
  /-- the same, a slice that is as long as it can be -/
  | ox (k off len : Nat)
  /-- a slice of all n cells of one of the call's own blocks of variables -/
  | sv (k n : Nat)
  /-- the nil slice -/
  | nsl
  /-- the nil pointer -/
  | nilp
  /-- the nil interface value -/
  | nili
  /-- an interface value that is not nil -/
  | nni
  /-- an interface value that holds a datum -/
  | ifc (k : TypeId) (t : Ty) (x : t.T)
  /-- a function value -/
  | fn (f : FuncId) (first caps : List AV)
  /-- the function that a range over a function hands to its iterator; l: the loop's record -/
  | yld (l : Nat)
  /-- one of the call's own maps -/
  | mp (k : Nat)
  /-- a struct or an array whose cells are not all data -/
  | ag (cells : List AV)
  | tup (l : List AV)
  /-- no value yet -/
  | und
  /-- nothing is known -/
  | no

/-- The record of a range over a function. -/
structure LoopA where
  st : LoopState
  pend : Option Code
  slots : List (Nat × AV)
  n : Nat
  ps : Array Tmp
  assign : Code
  body : Code

/-- One of the call's own blocks: a variable's cells, a row of elements, or the record of a range over a function. -/
inductive Bk where
  | vars (e : TypeId) (cells : List AV)
  | row (e : TypeId) (t : Ty) (l : List t.T)
  | loop (r : LoopA)
  /-- a map from integers -/
  | dic (k : IntKind) (l : List (Int × AV))
  /-- a block of which nothing is known -/
  | any

def look : List (Nat × AV) → Nat → AV
  | [], _ => .no
  | (k, v) :: r, t => match Nat.beq k t with | true => v | false => look r t

abbrev Heap := List (Nat × Bk)
def Heap.keys (H : Heap) : List Nat := H.map (·.1)

/-- What a call's relation to memory is measured by: the world at its beginning, and the blocks in which its arguments may lie. -/
structure Ctx where
  w0 : World
  okA : Nat → Prop
  lt : ∀ b, okA b → b < w0.heap.size
  /-- the size of memory when the activation began -/
  lo : Nat
  hlo : w0.heap.size ≤ lo
  /-- what is deferred below the marks of ranges over functions -/
  us : List Deferred := []
  /-- which marks there are, if this is known -/
  mks : Option (List Nat) := none

def Ok (C : Ctx) (ρ : Nat → Nat) (H : Heap) (w : World) (b : Nat) : Prop :=
  (C.okA b ∨ C.w0.heap.size ≤ b) ∧ b < w.heap.size ∧ ∀ k ∈ H.keys, ρ k ≠ b

mutual
inductive VR (C : Ctx) (ρ : Nat → Nat) (H : Heap) (w : World) : AV → Value → Prop where
  | d {t : Ty} {x : t.T} {v : Value} (h : RdV (Ok C ρ H w) w t x v) : VR C ρ H w (.d t x) v
  | ptr {k off : Nat} (h : k ∈ H.keys) : VR C ρ H w (.ptr k off) (.pointer (some ⟨ρ k, off, none⟩))
  | eptr {k i : Nat} {e : TypeId} {t : Ty} {l : List t.T} (h : (k, .row e t l) ∈ H) (hi : i < l.length) : VR C ρ H w (.eptr k i) (.pointer (some ⟨ρ k, i * t.size, none⟩))
  | efp {k i f o : Nat} {u : Ty} {e : TypeId} {t : Ty} {l : List t.T} (h : (k, .row e t l) ∈ H) (hi : i < l.length) (ho : offD t f = some (o, u)) : VR C ρ H w (.efp k i f) (.pointer (some ⟨ρ k, i * t.size + o, none⟩))
  | dptr {t : Ty} {x : t.T} {b o : Nat} {c : Array Value} {e : TypeId} {fr : Nat × Nat} (hb : Ok C ρ H w b) (hc : w.heap[b]? = some (.cells c e fr))
      (ho : o + t.size ≤ c.size) (h : Rd (Ok C ρ H w) w t x ((c.toList.drop o).take t.size)) : VR C ρ H w (.dptr t x) (.pointer (some ⟨b, o, none⟩))
  | own {k off len : Nat} {e : TypeId} {t : Ty} {l : List t.T} {a : Option Addr} {cap : Nat} {c : Array Value} {fr : Nat × Nat} (h : (k, .row e t l) ∈ H) (hl : off + len ≤ l.length) (hc : len ≤ cap) (hm : cap ≤ maxLen)
      (hb : w.heap[ρ k]? = some (.cells c e fr)) (hs : (off + cap) * t.size = c.size) (ha : a = some ⟨ρ k, off * t.size, none⟩ ∨ cap = 0 ∧ off ≠ 0) : VR C ρ H w (.own k off len) (.slice a len cap)
  | ox {k off len : Nat} {e : TypeId} {t : Ty} {l : List t.T} {a : Option Addr} {c : Array Value} {fr : Nat × Nat} (h : (k, .row e t l) ∈ H) (hl : off + len ≤ l.length) (hm : len ≤ maxLen)
      (hb : w.heap[ρ k]? = some (.cells c e fr)) (hs : (off + len) * t.size = c.size) (ha : a = some ⟨ρ k, off * t.size, none⟩ ∨ len = 0 ∧ off ≠ 0) : VR C ρ H w (.ox k off len) (.slice a len len)
  | sv {k n : Nat} (h : k ∈ H.keys) (hn : n ≤ lim) : VR C ρ H w (.sv k n) (.slice (some ⟨ρ k, 0, none⟩) n n)
  | nsl : VR C ρ H w .nsl (.slice none 0 0)
  | nilp : VR C ρ H w .nilp (.pointer none)
  | nili : VR C ρ H w .nili .nilIface
  | nni {t : TypeId} {p : Value} : VR C ρ H w .nni (.iface t p)
  | ifc {k : TypeId} {t : Ty} {x : t.T} {v : Value} (h : RdV (Ok C ρ H w) w t x v) : VR C ρ H w (.ifc k t x) (.iface k v)
  | fn {f : FuncId} {first caps : List AV} {vf vc : List Value} (h1 : VRs C ρ H w first vf) (h2 : VRs C ρ H w caps vc) : VR C ρ H w (.fn f first caps) (.func (.func f) ⟨vf⟩ ⟨vc⟩)
  | yld {l : Nat} (h : l ∈ H.keys) : VR C ρ H w (.yld l) (.func (.yield (ρ l)) #[] #[])
  | mp {k : Nat} (h : k ∈ H.keys) : VR C ρ H w (.mp k) (.map (some (ρ k)))
  | ag {cells : List AV} {vs : List Value} (h : VRs C ρ H w cells vs) (h1 : ∀ v ∈ vs, v.oneCell' = true) : VR C ρ H w (.ag cells) (.agg ⟨vs⟩)
  | tup {l : List AV} {vs : List Value} (h : VRs C ρ H w l vs) : VR C ρ H w (.tup l) (.tuple ⟨vs⟩)
  | und : VR C ρ H w .und undef
  | no {v : Value} : VR C ρ H w .no v
inductive VRs (C : Ctx) (ρ : Nat → Nat) (H : Heap) (w : World) : List AV → List Value → Prop where
  | nil : VRs C ρ H w [] []
  | cons {a : AV} {v : Value} {as : List AV} {vs : List Value} (h : VR C ρ H w a v) (hs : VRs C ρ H w as vs) : VRs C ρ H w (a :: as) (v :: vs)
end

/-- The length of a slice alone. -/
def AV.soft : AV → AV
  | .ox k off len => .own k off len
  | a => a

theorem VR.soft {C : Ctx} {ρ : Nat → Nat} {H : Heap} {w : World} {a : AV} {v : Value} (h : VR C ρ H w a v) : VR C ρ H w a.soft v := by
  cases h with
  | ox h hl hm hb hs ha => exact .own h hl (Nat.le_refl _) hm hb hs ha
  | _ => constructor <;> assumption

/-- A map's entries are as the abstract ones say. -/
def MapR (R : AV → Value → Prop) (k : IntKind) : List (Int × AV) → List MapEntry → Prop
  | [], [] => True
  | x :: l, e :: es => e.key = .int k x.1 ∧ R x.2 e.val ∧ MapR R k l es
  | _, _ => False

/-- A block is as the abstract block says. -/
def BkR (C : Ctx) (ρ : Nat → Nat) (H : Heap) (w : World) (b : Nat) : Bk → Prop
  | .vars e cells => ∃ c, w.heap[b]? = some (.cells c e (0, 0)) ∧ VRs C ρ H w cells c.toList ∧ ∀ v ∈ c.toList, v.oneCell' = true
  | .row e t l => ∃ c, w.heap[b]? = some (.cells c e (0, 0)) ∧ l.length * t.size ≤ c.size ∧ l.length ≤ lim ∧ RdL (Rd (Ok C ρ H w) w t) l (c.toList.take (l.length * t.size)) ∧ ∀ v ∈ c.toList, v.oneCell' = true
  | .loop r => ∃ fn tmps d, w.heap[b]? = some (.loop { state := r.st, pending := r.pend, fn := fn, tmps := tmps, params := r.ps, assign := r.assign, body := r.body, defers := d }) ∧ tmps.size = r.n ∧
      ∀ t, VR C ρ H w (look r.slots t) (tmps.getD t undef)
  | .dic k l => ∃ es n, w.heap[b]? = some (.map es n) ∧ MapR (VR C ρ H w) k l es.toList
  | .any => ∃ o, w.heap[b]? = some o

end Go.Vg
