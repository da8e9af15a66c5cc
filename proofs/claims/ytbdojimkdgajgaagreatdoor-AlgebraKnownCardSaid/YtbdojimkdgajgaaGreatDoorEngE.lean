/-
  The engine, part E: the evaluator: what one operation does to abstract values. Own work; no condition.
-/
import Derived.Test.YtbdojimkdgajgaaGreatDoorEngD
namespace Go.Vg
open Go Go.RowKit

/-- A computation that may part, and may ask for something to be shown. -/
inductive T (α : Type) where
  | ok (a : α)
  | ite (b : Bool) (x y : T α)
  | need (p : Prop) [d : Decidable p] (x : T α)
  | bad

def bcase (b : Bool) (x y : Prop) : Prop := match b with | true => x | false => y
theorem bcase_intro {b : Bool} {x y : Prop} (h : b = true → x) (h' : b = false → y) : bcase b x y := by cases b; exact h' rfl; exact h rfl
theorem bcase_true {x y : Prop} : bcase true x y = x := rfl
theorem bcase_false {x y : Prop} : bcase false x y = y := rfl

def T.holds {α : Type} : T α → (α → Prop) → Prop
  | .ok a, K => K a
  | .ite b x y, K => bcase b (x.holds K) (y.holds K)
  | @T.need _ p _ x, K => p ∧ x.holds K
  | .bad, _ => False

def T.bind {α β : Type} : T α → (α → T β) → T β
  | .ok a, f => f a
  | .ite b x y, f => .ite b (x.bind f) (y.bind f)
  | @T.need _ p d x, f => @T.need _ p d (x.bind f)
  | .bad, _ => .bad

def T.ofO {α : Type} : Option α → T α
  | some a => .ok a
  | none => .bad

theorem T.holds_bind {α β : Type} {x : T α} {f : α → T β} {K : β → Prop} (h : (x.bind f).holds K) : x.holds (fun a => (f a).holds K) := by
  induction x with
  | ok a => exact h
  | ite b x y hx hy =>
    simp only [T.bind, T.holds] at h ⊢
    cases b
    · exact hy h
    · exact hx h
  | need p x hx => exact ⟨h.1, hx h.2⟩
  | bad => exact h

theorem T.holds_mono {α : Type} {x : T α} {K K' : α → Prop} (hk : ∀ a, K a → K' a) (h : x.holds K) : x.holds K' := by
  induction x with
  | ok a => exact hk _ h
  | ite b x y hx hy =>
    simp only [T.holds] at h ⊢
    cases b
    · exact hy h
    · exact hx h
  | need p x hx => exact ⟨h.1, hx h.2⟩
  | bad => exact h

/-- The one way through, where nothing is open. -/
def T.toO {α : Type} : T α → Option α
  | .ok a => some a
  | .ite b x y => match b with
    | true => x.toO
    | false => y.toO
  | @T.need _ _ d x => match d with
    | isTrue _ => x.toO
    | isFalse _ => none
  | .bad => none

theorem T.holds_toO {α : Type} {x : T α} {a : α} {K : α → Prop} (h : x.toO = some a) (hk : K a) : x.holds K := by
  induction x with
  | ok b => simp only [T.toO, Option.some.injEq] at h; subst h; exact hk
  | ite b x y hx hy =>
    simp only [T.toO] at h
    cases b
    · exact hy h
    · exact hx h
  | @need p d x hx =>
    simp only [T.toO] at h
    cases d with
    | isTrue hp => exact ⟨hp, hx h⟩
    | isFalse hp => cases h
  | bad => cases h

/-- One of the ways through holds. -/
inductive T.Leaf {α : Type} : T α → α → Prop where
  | ok {a : α} : T.Leaf (.ok a) a
  | t {x y : T α} {a : α} (h : T.Leaf x a) : T.Leaf (.ite true x y) a
  | f {x y : T α} {a : α} (h : T.Leaf y a) : T.Leaf (.ite false x y) a
  | need {p : Prop} {d : Decidable p} {x : T α} {a : α} (hp : p) (h : T.Leaf x a) : T.Leaf (@T.need _ p d x) a

theorem T.leaf {α : Type} {x : T α} {K : α → Prop} (h : x.holds K) : ∃ a, x.Leaf a ∧ K a := by
  induction x with
  | ok a => exact ⟨a, .ok, h⟩
  | ite b x y hx hy =>
    simp only [T.holds] at h
    cases b
    · obtain ⟨a, h1, h2⟩ := hy h; exact ⟨a, .f h1, h2⟩
    · obtain ⟨a, h1, h2⟩ := hx h; exact ⟨a, .t h1, h2⟩
  | need p x hx => obtain ⟨a, h1, h2⟩ := hx h.2; exact ⟨a, .need h.1 h1, h2⟩
  | bad => exact h.elim

theorem T.Leaf.bind {α β : Type} {x : T α} {f : α → T β} {b : β} (h : (x.bind f).Leaf b) : ∃ a, x.Leaf a ∧ (f a).Leaf b := by
  induction x with
  | ok a => exact ⟨a, .ok, h⟩
  | ite c x y hx hy =>
    simp only [T.bind] at h
    cases h with
    | t h => obtain ⟨a, h1, h2⟩ := hx h; exact ⟨a, .t h1, h2⟩
    | f h => obtain ⟨a, h1, h2⟩ := hy h; exact ⟨a, .f h1, h2⟩
  | need p x hx =>
    simp only [T.bind] at h
    cases h with
    | need hp h => obtain ⟨a, h1, h2⟩ := hx h; exact ⟨a, .need hp h1, h2⟩
  | bad => cases h

theorem T.Leaf.ofO {α : Type} {o : Option α} {a : α} (h : (T.ofO o).Leaf a) : o = some a := by
  cases o with
  | none => cases h
  | some b => cases h; rfl

/-- A Go constant. -/
def constAV : Value → AV
  | .bool b => .d .bool b
  | .int k n => match decide (k.min ≤ n) && decide (n ≤ k.max) with | true => .d (.int k) n | false => .no
  | .string s => match Nat.ble s.data.toList.length lim with | true => .d .str s.data.toList | false => .no
  | .slice none 0 0 => .nsl
  | .pointer none => .nilp
  | .nilIface => .nili
  | _ => .no

def constAVs : List Value → List AV
  | [] => []
  | v :: vs => constAV v :: constAVs vs

def allOne : List Value → Bool
  | [] => true
  | v :: vs => match v.oneCell' with | true => allOne vs | false => false

/-- A constant that may be a struct or an array. -/
def constAg : Value → AV
  | .agg cs => match allOne cs.toList with | true => .ag (constAVs cs.toList) | false => .no
  | v => constAV v

def St.eval (σ : St) : Operand → AV
  | .tmp t => look σ.slots t
  | .const v => constAg v
  | .func f => .fn f [] []
  | .global _ => .no

def Heap.find : Heap → Nat → Option Bk
  | [], _ => none
  | (j, b) :: r, k => match Nat.beq j k with | true => some b | false => Heap.find r k

theorem Heap.find_mem {H : Heap} {k : Nat} {b : Bk} (h : H.find k = some b) : (k, b) ∈ H := by
  induction H with
  | nil => cases h
  | cons x r ih =>
    obtain ⟨j, y⟩ := x
    simp only [Heap.find] at h
    cases hb : Nat.beq j k with
    | true => rw [hb] at h; have := beq_true hb; subst this; injection h with h; subst h; exact List.mem_cons_self
    | false => rw [hb] at h; exact List.mem_cons_of_mem _ (ih h)

def nilOf : (t : Ty) → Option t.T
  | .sl _ => some []
  | _ => none

def packS (t : Ty) : List AV → Option (t.T × List AV)
  | .d u x :: r => match u.as t x with
    | some y => some (y, r)
    | none => none
  | .nsl :: r => match nilOf t with
    | some y => some (y, r)
    | none => none
  | _ => none

/-- Cells that hold a datum of type t: the datum, and the cells behind it. -/
def pack : (t : Ty) → List AV → Option (t.T × List AV)
  | .int k => packS (.int k)
  | .bool => packS .bool
  | .str => packS .str
  | .sl t => packS (.sl t)
  | .unit => fun r => some ((), r)
  | .pair t u => fun r => match pack t r with
    | some (x, r') => match pack u r' with
      | some (y, r'') => some ((x, y), r'')
      | none => none
    | none => none
  | .arr n t => packN (pack t) n
where packN {α : Type} (f : List AV → Option (α × List AV)) : Nat → List AV → Option (List α × List AV)
  | 0, r => some ([], r)
  | n + 1, r => match f r with
    | some (x, r') => match packN f n r' with
      | some (xs, r'') => some (x :: xs, r'')
      | none => none
    | none => none

/-- The cells of a datum. -/
def unpack : (t : Ty) → t.T → List AV
  | .int k, x => [.d (.int k) x]
  | .bool, x => [.d .bool x]
  | .str, x => [.d .str x]
  | .sl t, x => [.d (.sl t) x]
  | .unit, _ => []
  | .pair t u, x => unpack t x.1 ++ unpack u x.2
  | .arr n t, x => unpackN (unpack t) t.dflt n x
where unpackN {α : Type} (f : α → List AV) (d : α) : Nat → List α → List AV
  | 0, _ => []
  | n + 1, l => f (l.headD d) ++ unpackN f d n l.tail

/-- An abstract value as a datum of type t. -/
def toD (t : Ty) : AV → Option t.T
  | .d u x => u.as t x
  | .nsl => nilOf t
  | .ag cells => match t.agg with
    | true => match pack t cells with
      | some (x, []) => some x
      | _ => none
    | false => none
  | _ => none

/-- The same, a slice of one of the call's own rows being lent. -/
def toDL (H : Heap) (t : Ty) : AV → Option t.T
  | .own k off len => match t with
    | .sl u => match H.find k with
      | some (.row _ v l) => (v.sl).as (.sl u) ((l.drop off).take len)
      | _ => none
    | _ => none
  | .sv k n => match t with
    | .sl u => match H.find k with
      | some (.vars _ cells) => match pack (.arr n u) cells with
        | some (l, []) => some l
        | _ => none
      | _ => none
    | _ => none
  | x => toD t x

/-- The cells of an abstract value. -/
def cellsOf : AV → Option (List AV)
  | .d t x => some (unpack t x)
  | .ag cells => some cells
  | .ptr k off => some [.ptr k off]
  | .efp k i f => some [.efp k i f]
  | .own k off len => some [.own k off len]
  | .ox k off len => some [.ox k off len]
  | .sv k n => some [.sv k n]
  | .nsl => some [.nsl]
  | .fn f a b => some [.fn f a b]
  | .yld l => some [.yld l]
  | .mp k => some [.mp k]
  | .nilp => some [.nilp]
  | .nili => some [.nili]
  | .nni => some [.nni]
  | .ifc k t x => some [.ifc k t x]
  | _ => none

/-- The type of plain data of a Go type. -/
def tyOf (P : Program) : Nat → TypeId → Option Ty
  | 0, _ => none
  | n + 1, t => match P.underlying t with
    | some (.int k) => some (.int k)
    | some .bool => some .bool
    | some .string => some .str
    | some (.slice e) => (tyOf P n e).map .sl
    | some (.array m e) => (tyOf P n e).map (.arr m)
    | some (.struct fs) => tyFs (tyOf P n) fs.toList 0
    | _ => none
where tyFs (f : TypeId → Option Ty) : List Field → Nat → Option Ty
  | [], _ => some .unit
  | x :: r, off => match Nat.beq x.offset off with
    | true => match f x.type with
      | some t => (tyFs f r (off + t.size)).map (.pair t)
      | none => none
    | false => none

def aggOf (P : Program) (t : TypeId) : Option Bool :=
  match P.underlying t with
  | some (.struct _) | some (.array _ _) => some true
  | some _ => some false
  | none => none

def sizeAt (P : Program) (t : TypeId) : Option Nat := (P.info? t).map (·.size)

/-- Is one of the cells a nil slice? -/
def anyNsl : List AV → Bool
  | [] => false
  | .nsl :: _ => true
  | _ :: r => anyNsl r

/-- A struct or an array out of its cells. -/
def aggAV (P : Program) (t : TypeId) (cells : List AV) : AV :=
  match tyOf P 20 t with
  | some u => match u.agg with
    | true => match anyNsl cells with
      | true => .ag cells
      | false => match pack u cells with
        | some (x, []) => .d u x
        | _ => .ag cells
    | false => .ag cells
  | none => .ag cells

/-- Cells read out of a list of cells, as a value of type t. -/
def readAV (P : Program) (t : TypeId) (cells : List AV) (off : Nat) : Option AV :=
  match aggOf P t, sizeAt P t with
  | some true, some n => match Nat.ble (off + n) cells.length with
    | true => some (aggAV P t ((cells.drop off).take n))
    | false => none
  | some false, some _ => cells[off]?
  | _, _ => none

end Go.Vg
