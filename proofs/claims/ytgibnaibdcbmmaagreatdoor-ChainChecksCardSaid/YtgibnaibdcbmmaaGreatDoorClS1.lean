/-
  Functions of plain data that the Go functions compute, and their laws. Own work; no condition.
-/
import Derived.Test.YtgibnaibdcbmmaaGreatDoorClR7
import Derived.Lib.ItoaMem
import Derived.Lib.AtoiAllCases
import Derived.Lib.ParseIntBTie
import Derived.Lib.Repeat
import Derived.OpenShut
import Derived.Carry
set_option linter.unusedVariables false
set_option linter.unusedSimpArgs false
namespace Go.Vs
open Go Go.Vg
theorem aaD {x : Int} (h0 : -9223372036854775808 ≤ x ∧ x ≤ 9223372036854775807) : w64 x = x := by
 obtain ⟨h0, h1⟩ := h0
 unfold w64 IntKind.wrap
 simp only [IntKind.bits, IntKind.signed, Bool.true_and]
 have e1 : (2 : Int) ^ 64 = 18446744073709551616 := zd
 have e2 : (2 : Int) ^ (64 - 1) = 9223372036854775808 := zd
 simp only [e1, e2, ge_iff_le, zC]
 split <;> omega
theorem aAV {x : Int} (h0 : 0 ≤ x ∧ x ≤ 18446744073709551615) : aOA x = x := by
 obtain ⟨h0, h1⟩ := h0
 unfold aOA IntKind.wrap
 simp only [IntKind.bits, IntKind.signed, Bool.false_and]
 have e1 : (2 : Int) ^ 64 = 18446744073709551616 := zd
 simp only [e1]
 simp only [zZ, if_false]
 omega
theorem aAW {x : Int} (h0 : 0 ≤ x ∧ x ≤ 4294967295) : aOB x = x := by
 obtain ⟨h0, h1⟩ := h0
 unfold aOB IntKind.wrap
 simp only [IntKind.bits, IntKind.signed, Bool.false_and]
 have e1 : (2 : Int) ^ 32 = 4294967296 := zd
 simp only [e1]
 simp only [zZ, if_false]
 omega
theorem aFn {x : Int} (h0 : 0 ≤ x ∧ x ≤ 255) : wu8 x = x := by
 obtain ⟨h0, h1⟩ := h0
 unfold wu8 IntKind.wrap
 simp only [IntKind.bits, IntKind.signed, Bool.false_and]
 have e1 : (2 : Int) ^ 8 = 256 := zd
 simp only [e1]
 simp only [zZ, if_false]
 omega
def V (B : Int) : List Int → Int
 | [] => 0
 | d :: l => d + B * V B l
def aIx (B n : Nat) : List Int := if _h : n = 0 ∨ B < 2 then [] else ((n % B : Nat) : Int) :: aIx B (n / B)
termination_by n
decreasing_by exact Nat.div_lt_self zc zc
theorem aHQ (B : Nat) : aIx B 0 = [] := by rw [aIx]; simp
theorem aJZ {B n : Nat} (hB : 2 ≤ B) (hn : n ≠ 0) : aIx B n = ((n % B : Nat) : Int) :: aIx B (n / B) := by
 rw [aIx, dif_neg zc]
theorem aLf {B : Nat} (hB : 2 ≤ B) (n : Nat) : V B (aIx B n) = n := by
 induction n using Nat.strongRecOn with
 | _ n ih =>
  by_cases hn : n = 0
  ·subst hn; rw [aHQ]; rfl
  ·rw [aJZ hB hn]
   simp only [V]
   rw [ih (n / B) (Nat.div_lt_self zc zc)]
   have := Nat.mod_add_div n B
   have h2 : ((n % B : Nat) : Int) + (B : Int) * ((n / B : Nat) : Int) = ((n % B + B * (n / B) : Nat) : Int) := zf
   rw [h2, this]
theorem aJ0 {B : Nat} (hB : 2 ≤ B) {m n : Nat} (h : aIx B m = aIx B n) : m = n := by
 have h1 := aLf hB m
 have h2 := aLf hB n
 rw [h] at h1
 omega
theorem aaB {α : Type} (l : List α) : len l = (l.length : Int) := rfl
theorem uT {α : Type} {b : Bool} {x y : TT α} {r : Option α} (h : b = true) (hx : x.toO = r) : (TT.ite b x y).toO = r := by subst h; exact hx
theorem uF {α : Type} {b : Bool} {x y : TT α} {r : Option α} (h : b = false) (hy : y.toO = r) : (TT.ite b x y).toO = r := by subst h; exact hy
theorem uN {α : Type} {p : Prop} {x : TT α} {r : Option α} (h : p) (hx : x.toO = r) : (TT.need p x).toO = r := by rw [aII _ _ h]; exact hx
theorem uV {α : Type} {p : Prop} {h : p} {x : TT α} {r : Option α} (hx : x.toO = r) : (TT.triv p h x).toO = r := hx
theorem uB {α β : Type} {b : β} {x : β → TT α} {r : Option α} (hx : (x b).toO = r) : (TT.lt b x).toO = r := hx
theorem uC {α β : Type} {o : Option β} {d : β} {x : β → TT α} {r : Option α} (y : β) (h : o = some y) (hx : (x y).toO = r) : (TT.call o d x).toO = r := by subst h; exact hx
theorem uO {α ι : Type} {t : Nat} {H : TT ι} {R : ι → TT (ι ⊕ α)} {r : Option α} (i : ι) (h : H.toO = some i) (hx : adW (fun i => (R i).toO) i = r) : (TT.loop t H R).toO = r := by rw [aIJ h]; exact hx
theorem uL {α ι : Type} {t : Nat} {H : TT (ι ⊕ α)} {R : ι → TT α} {r : Option α} (i : ι) (h : H.toO = some (.inl i)) (hx : (R i).toO = r) : (TT.join t H R).toO = r := by rw [aFt h]; exact hx
theorem uR {α ι : Type} {t : Nat} {H : TT (ι ⊕ α)} {R : ι → TT α} (a : α) (h : H.toO = some (.inr a)) : (TT.join t H R).toO = some a := by rw [aFs h]
def aOq (n : Nat) : List UInt8 := Lib.decDigits n
def dec (z : Int) : List UInt8 := if z < 0 then 45 :: aOq z.natAbs else aOq z.natAbs
def dv (c : UInt8) : Nat := c.toNat - 48
def aO1 (a : Nat) (s : List UInt8) : Nat := s.foldl (fun a c => a * 10 + dv c) a
def num (s : List UInt8) : Nat := aO1 0 s
theorem aaI {α : Type} (l : List α) (k : Nat) (d : α) : gi l (k : Int) d = l.getD k d := by unfold gi; rw [zz]
theorem sd {p : Prop} (h : p := by first | omega | ((try simp only [zC, xp, zr, yf, beq_eq_false_iff_ne, bne_eq_false_iff_eq, zT, Bool.not_eq_false']) <;> (try simp only [aaB, inb, inc, ge_iff_le, gt_iff_lt, zz, asT, ne_eq]) <;> omega) | ((try simp only [zC, xp, zr, yf, beq_eq_false_iff_ne, bne_eq_false_iff_eq, zT, Bool.not_eq_false']) <;> (try simp only [aaB, inb, inc, ge_iff_le, gt_iff_lt, zz, asT, ne_eq]) <;> (simp (disch := omega) only [aaD, aAV, aAW, aFn, aaI, zw, zz, aaB]; omega)) | fail) : p := h
theorem za {α : Type} {x y : TT α} {r : Option α} (k : y.toO = r) (h : x.toO = y.toO := by first | exact uV rfl | exact uB rfl | exact uN sd rfl | exact uT sd rfl | exact uF sd rfl | exact uN (by simp) rfl) : x.toO = r := h.trans k
def Fit (z : Int) : Prop := (aOq z.natAbs).length ≤ 600
instance (z : Int) : Decidable (Fit z) := inferInstanceAs (Decidable (_ ≤ _))
def aOS (q : Rat) : Prop := Fit q.num ∧ Fit q.den
instance (q : Rat) : Decidable (aOS q) := inferInstanceAs (Decidable (_ ∧ _))
abbrev FxT := List UInt8 × List UInt8 × Unit
def fl (q : Rat) : Int := q.num / q.den
def aOl (z : Int) : Prop := -9223372036854775808 ≤ z ∧ z ≤ 9223372036854775807
instance (z : Int) : Decidable (aOl z) := inferInstanceAs (Decidable (_ ∧ _))
abbrev BdT := Int × Int × Unit
def okB (lo hi : Int) : Prop := -1000000000000000000 ≤ lo ∧ lo ≤ hi ∧ hi ≤ 1000000000000000000
instance (lo hi : Int) : Decidable (okB lo hi) := inferInstanceAs (Decidable (_ ∧ _))
def mkB (e lo hi : Int) : BdT × Int × Unit := if okB lo hi then ((lo, hi, ()), 0, ()) else ((0, 0, ()), e, ())
def aNP (a b : BdT) : BdT × Int × Unit := if okB a.1 a.2.1 ∧ okB b.1 b.2.1 then mkB 6 (a.1 + b.1) (a.2.1 + b.2.1) else ((0, 0, ()), 30, ())
def okE (p q : Int) : Prop := 1 ≤ p ∧ p ≤ 36 ∧ 1 ≤ q ∧ q ≤ 12
instance (p q : Int) : Decidable (okE p q) := inferInstanceAs (Decidable (_ ∧ _))
abbrev ajC := Int × Int × Int × Int × Int × Int × Unit
abbrev CvT := Int × List Int × List ajC × Unit
abbrev PcT := ajC × Int × Bool × Unit
def inR (n a b : Int) : Prop := a ≤ n ∧ n ≤ b
instance (n a b : Int) : Decidable (inR n a b) := inferInstanceAs (Decidable (_ ∧ _))
def ag0 (s : ajC) : Prop := inR s.2.1 (-100000000) 100000000 ∧ inR s.2.2.1 (-100000000) 100000000 ∧ inR s.2.2.2.2.2.1 (-100000000) 100000000 ∧ inR s.2.2.2.1 1 36 ∧ inR s.2.2.2.2.1 1 12 ∧ Nat.gcd s.2.2.2.1.natAbs s.2.2.2.2.1.natAbs = 1
instance (s : ajC) : Decidable (ag0 s) := inferInstanceAs (Decidable (_ ∧ _))
def ahM (last : Int) (s : ajC) : Prop := ag0 s ∧ inR s.1 (last + 1) 1000000
instance (last : Int) (s : ajC) : Decidable (ahM last s) := inferInstanceAs (Decidable (_ ∧ _))
def agT : Int → List ajC → Prop
 | last, [] => last = 1000000
 | last, s :: r => ahM last s ∧ agT s.1 r
def aFE : (last : Int) → (l : List ajC) → Decidable (agT last l)
 | last, [] => inferInstanceAs (Decidable (last = 1000000))
 | last, s :: r => @instDecidableAnd _ _ (inferInstanceAs (Decidable (ahM last s))) (aFE s.1 r)
instance (last : Int) (l : List ajC) : Decidable (agT last l) := aFE last l
def ae4 (l : List Int) : Prop := 2 ≤ l.length ∧ l.length ≤ 17 ∧ ∀ v ∈ l, inR v 0 65535
instance (l : List Int) : Decidable (ae4 l) := inferInstanceAs (Decidable (_ ∧ _ ∧ _))
def adK (l : List ajC) : Prop := 1 ≤ l.length ∧ l.length ≤ 4 ∧ agT 0 l
instance (l : List ajC) : Decidable (adK l) := inferInstanceAs (Decidable (_ ∧ _ ∧ _))
def acK (c : CvT) : Prop := (c.1 = 1 ∧ c.2.1 = [] ∧ c.2.2.1 = []) ∨ (c.1 = 2 ∧ ae4 c.2.1 ∧ c.2.2.1 = []) ∨ (c.1 = 3 ∧ c.2.1 = [] ∧ adK c.2.2.1)
instance (c : CvT) : Decidable (acK c) := inferInstanceAs (Decidable (_ ∨ _ ∨ _))
noncomputable def eqb {α : Type} (a b : α) : Bool := open Classical in if a = b then true else false
theorem ab2 {α : Type} {a b : α} (h : a = b) : eqb a b = true := if_pos h
theorem aaJ {α : Type} {a b : α} (h : ¬ a = b) : eqb a b = false := if_neg h
def ac5 (x : Int × Int × Int × Unit) : Option (Bool × Unit) := some (decide (inR x.1 x.2.1 x.2.2.1), ())
def aNm (q : Rat) : Rat := if q < 0 then 0 else if q > 1 then 1 else q
def ahK (x : List Int × Unit) : Option (Bool × Unit) := some (decide (ae4 x.1), ())
def aeZ (x : PcT × Unit) : Option (Bool × Unit) := if inR x.1.2.1 0 1000000 then some (decide (ahM x.1.2.1 x.1.1), ()) else none
def ae1 (x : CvT × Unit) : Option (Bool × Unit) := some (decide (adK x.1.2.2.1), ())
def akG (x : CvT × Unit) : Option (Int × Unit) := some (if acK x.1 then 0 else 90, ())
noncomputable def ahJ (x : List Int × List Int × Unit) : Option (Bool × Unit) := if x.1.length ≤ 1000000000000 then some (eqb x.1 x.2.1, ()) else none
noncomputable def atG (x : List ajC × List ajC × Unit) : Option (Bool × Unit) := if x.1.length ≤ 1000000000000 then some (eqb x.1 x.2.1, ()) else none
noncomputable def anK (x : CvT × CvT × Unit) : Option (Bool × Unit) := if x.1.2.1.length ≤ 1000000000000 ∧ x.1.2.2.1.length ≤ 1000000000000 then some (eqb x.1 x.2.1, ()) else none
def agC (c : CvT) : Prop := acK c ∧ ∀ s ∈ c.2.2.1, s.2.2.2.2.1 = 1
instance (c : CvT) : Decidable (agC c) := inferInstanceAs (Decidable (_ ∧ _))
def akF (x : CvT × Unit) : Option (Bool × Unit) := some (decide (agC x.1), ())
def dig (n : Nat) : List Int := aIx 10000 n
theorem aL4 {m n : Nat} (h : dig m = dig n) : m = n := aJ0 (B := 10000) zc h
@[reducible] def pl (z : Int) : Bool × List Int × Unit := (decide (z < 0), dig z.natAbs, ())
theorem aOH {a b : Int} (h : pl a = pl b) : a = b := by
 obtain ⟨h1, h2⟩ := Prod.mk.inj h
 obtain ⟨h2, -⟩ := Prod.mk.inj h2
 have := aL4 h2
 simp only [decide_eq_decide] at h1
 omega
def shF (x : FxT) : Prop := x.1.length ≤ 1000000000000 ∧ x.2.1.length ≤ 1000000000000
instance (x : FxT) : Decidable (shF x) := inferInstanceAs (Decidable (_ ∧ _))
def shC (c : CvT) : Prop := c.2.1.length ≤ 1000000000000 ∧ c.2.2.1.length ≤ 1000000000000
instance (c : CvT) : Decidable (shC c) := inferInstanceAs (Decidable (_ ∧ _))
def ab0 (x : Int × Int × Int × Unit) : Option (Bool × Unit) := ac5 x
def abB (x : Int × Int × Unit) : Option (Bool × Unit) := if inR x.1 1 36 ∧ inR x.2.1 1 12 then some (!decide (Nat.gcd x.1.natAbs x.2.1.natAbs = 1), ()) else none
def ag9 (x : ajC × Unit) : Option (Bool × Unit) := some (decide (ag0 x.1), ())
def aeR (x : CvT × Unit) : Option (Bool × Unit) := if shC x.1 then some (decide (acK x.1), ()) else none
noncomputable def akD (x : CvT × CvT × Unit) : Option (Bool × Unit) := if shC x.1 then some (eqb x.1 x.2.1, ()) else none
def ah0 (x : CvT × Unit) : Option (Bool × Unit) := if shC x.1 then akF x else none
abbrev GrT := List Int × Int × List Int × Unit
abbrev OpT := Int × Int × Unit
abbrev ElT := Int × List CvT × List (List Int) × List Int × GrT × List OpT × Int × Int × Unit
abbrev ChT := Int × List ElT × Unit
def shL {α : Type} (l : List α) : Prop := l.length ≤ 1000000000000
instance {α : Type} (l : List α) : Decidable (shL l) := inferInstanceAs (Decidable (_ ≤ _))
def shG (g : GrT) : Prop := shL g.1 ∧ shL g.2.2.1
def shE (x : ElT) : Prop := (shL x.2.1 ∧ ∀ c ∈ x.2.1, shC c) ∧ (shL x.2.2.1 ∧ ∀ r ∈ x.2.2.1, shL r) ∧ shL x.2.2.2.1 ∧ shG x.2.2.2.2.1 ∧ shL x.2.2.2.2.2.1
def af1 (l : List Int) : Int := l.foldl (fun p n => w64 (p * n)) 1
def afY (g : GrT) : Prop := (1 ≤ g.1.length ∧ g.1.length ≤ 4) ∧ inR g.2.1 1 4 ∧ (∀ n ∈ g.1, inR n 2 9) ∧ g.2.2.1.length ≤ 4096 ∧ (g.2.2.1.length : Int) = w64 (af1 g.1 * g.2.1) ∧ ∀ v ∈ g.2.2.1, inR v 0 65535
instance (g : GrT) : Decidable (afY g) := inferInstanceAs (Decidable (_ ∧ _))
def aaM (c : Int) : Int := if c = 1 ∨ c = 2 ∨ c = 11 then 0 else if c = 8 ∨ c = 9 ∨ c = 12 then 1 else if inR c 3 7 then 2 else if c = 10 then 3 else -1
def acQ (o : OpT) (i n : Int) : Prop := if o.1 = 1 then 0 ≤ o.2.1 ∧ o.2.1 < i else if o.1 = 2 then inR o.2.1 (-1000000000) 1000000000 else if o.1 = 11 then 0 ≤ o.2.1 ∧ o.2.1 < n else o.2.1 = 0
instance (o : OpT) (i n : Int) : Decidable (acQ o i n) := by unfold acQ; infer_instance
def abI (ins : Int) : List OpT → Int → Int → Option (Int × Int)
 | [], n, m => some (n, m)
 | o :: r, n, m => if 0 ≤ aaM o.1 ∧ aaM o.1 ≤ n ∧ acQ o ins n then abI ins r (n - aaM o.1 + 1) (if n - aaM o.1 + 1 > m then n - aaM o.1 + 1 else m) else none
def aeC (p : List OpT) (i o : Int) : Option Int := if inR i 1 4 ∧ inR o 1 4 ∧ p.length ≤ 40 then (match abI i p 0 0 with
 | some (n, m) => if m ≤ 16 ∧ n = o then some m else none
 | none => none) else none
def aaS (n : Int) : Prop := inR n (-1000000000) 1000000000
instance (n : Int) : Decidable (aaS n) := inferInstanceAs (Decidable (_ ∧ _))
def ad1 (rows : List (List Int)) (off : List Int) : Prop := (1 ≤ rows.length ∧ rows.length ≤ 4) ∧ off.length = rows.length ∧ (1 ≤ (rows.getD 0 []).length ∧ (rows.getD 0 []).length ≤ 4) ∧ (∀ r ∈ rows, r.length = (rows.getD 0 []).length ∧ ∀ n ∈ r, aaS n) ∧ ∀ n ∈ off, aaS n
instance (rows : List (List Int)) (off : List Int) : Decidable (ad1 rows off) := inferInstanceAs (Decidable (_ ∧ _))
def ai8 (l : List CvT) : Prop := (1 ≤ l.length ∧ l.length ≤ 4) ∧ ∀ c ∈ l, acK c
instance (l : List CvT) : Decidable (ai8 l) := inferInstanceAs (Decidable (_ ∧ _))
def auE (g : GrT) : Prop := g.1 = [] ∧ g.2.1 = 0 ∧ g.2.2.1 = []
instance (g : GrT) : Decidable (auE g) := inferInstanceAs (Decidable (_ ∧ _))
def aJt (x : ElT) : Prop := x.2.2.2.2.2.1 = [] ∧ x.2.2.2.2.2.2.1 = 0 ∧ x.2.2.2.2.2.2.2.1 = 0
instance (x : ElT) : Decidable (aJt x) := inferInstanceAs (Decidable (_ ∧ _))
def aJu (x : ElT) : Prop := x.2.2.1 = [] ∧ x.2.2.2.1 = []
instance (x : ElT) : Decidable (aJu x) := inferInstanceAs (Decidable (_ ∧ _))
def abK (x : ElT) : Prop :=
 (x.1 = 1 ∧ aJu x ∧ auE x.2.2.2.2.1 ∧ aJt x ∧ ai8 x.2.1) ∨ (x.1 = 2 ∧ x.2.1 = [] ∧ auE x.2.2.2.2.1 ∧ aJt x ∧ ad1 x.2.2.1 x.2.2.2.1) ∨
 (x.1 = 3 ∧ x.2.1 = [] ∧ aJu x ∧ aJt x ∧ afY x.2.2.2.2.1) ∨ (x.1 = 4 ∧ x.2.1 = [] ∧ aJu x ∧ auE x.2.2.2.2.1 ∧ (aeC x.2.2.2.2.2.1 x.2.2.2.2.2.2.1 x.2.2.2.2.2.2.2.1).isSome = true)
instance (x : ElT) : Decidable (abK x) := inferInstanceAs (Decidable (_ ∨ _))
def afE (x : ElT) : Prop := abK x ∧ ∀ c ∈ x.2.1, agC c
instance (x : ElT) : Decidable (afE x) := inferInstanceAs (Decidable (_ ∧ _))
def aEF (x : ElT) : Int := if x.1 = 1 then x.2.1.length else if x.1 = 2 then (x.2.2.1.getD 0 []).length else if x.1 = 3 then x.2.2.2.2.1.1.length else x.2.2.2.2.2.2.1
def aiJ (x : ElT) : Int := if x.1 = 1 then x.2.1.length else if x.1 = 2 then x.2.2.1.length else if x.1 = 3 then x.2.2.2.2.1.2.1 else x.2.2.2.2.2.2.2.1
noncomputable def amR (x : List OpT × List OpT × Unit) : Option (Bool × Unit) := if shL x.1 then some (eqb x.1 x.2.1, ()) else none
def aeW (x : Int × Int × Int × Unit) : Option (Bool × Unit) := some (decide (inR x.1 x.2.1 x.2.2.1), ())
def adI (x : List Int × Unit) : Option (Int × Unit) := if shL x.1 then some (af1 x.1, ()) else none
open Classical in
noncomputable def ah8 (x : GrT × Unit) : Option (Int × Unit) := if shG x.1 then some (if afY x.1 then 0 else 100, ()) else none
open Classical in
noncomputable def ai2 (x : GrT × GrT × Unit) : Option (Bool × Unit) := if shG x.1 then some (eqb x.1 x.2.1, ()) else none
def ah7 (x : Int × Unit) : Option (Int × Bool × Unit) := some (if aaM x.1 < 0 then 0 else aaM x.1, decide (0 ≤ aaM x.1), ())
def ad9 (x : OpT × Int × Int × Unit) : Option (Bool × Unit) := if inR x.2.1 0 100 ∧ inR x.2.2.1 0 100 then some (decide (acQ x.1 x.2.1 x.2.2.1), ()) else none
def agM (x : List OpT × Int × Int × Unit) : Option (Int × Int × Unit) := if shL x.1 then some (match aeC x.1 x.2.1 x.2.2.1 with | some m => (m, 0, ()) | none => (0, 120, ())) else none
def afU (x : List OpT × Int × Int × Unit) : Option (Int × Unit) := if shL x.1 then some (if (aeC x.1 x.2.1 x.2.2.1).isSome then 0 else 120, ()) else none
def anJ (x : Int × Unit) : Option (Bool × Unit) := some (!decide (aaS x.1), ())
open Classical in
noncomputable def ac0 (x : List CvT × Unit) : Option (Bool × Unit) := if shL x.1 then some (decide (ai8 x.1), ()) else none
open Classical in
noncomputable def acJ (x : List (List Int) × List Int × Unit) : Option (Bool × Unit) := if (shL x.1 ∧ ∀ r ∈ x.1, shL r) ∧ shL x.2.1 then some (decide (ad1 x.1 x.2.1), ()) else none
open Classical in
noncomputable def aeY (x : ElT × Unit) : Option (Int × Unit) := if shE x.1 then some (if abK x.1 then 0 else 130, ()) else none
open Classical in
noncomputable def agN (x : ElT × ElT × Unit) : Option (Bool × Unit) := if shE x.1 then some (eqb x.1 x.2.1, ()) else none
open Classical in
noncomputable def aeX (x : ElT × Unit) : Option (Bool × Unit) := if shE x.1 then some (decide (afE x.1), ()) else none
open Classical in
noncomputable def ai3 (x : ElT × Unit) : Option (Int × Int × Unit) := if shE x.1 then some (if abK x.1 then (aEF x.1, 0, ()) else (0, 130, ())) else none
open Classical in
noncomputable def ae9 (x : ElT × Unit) : Option (Int × Int × Unit) := if shE x.1 then some (if abK x.1 then (aiJ x.1, 0, ()) else (0, 130, ())) else none
def adT (x : Int × Int × Int × Unit) : Option (Bool × Unit) := aeW x
def ab7 (x : List Int × Unit) : Option (Int × Unit) := adI x
open Classical in
noncomputable def acZ (x : GrT × Unit) : Option (Bool × Unit) := if shG x.1 then some (decide (afY x.1), ()) else none
noncomputable def adV (x : List Int × List Int × Unit) : Option (Bool × Unit) := if shL x.1 then some (eqb x.1 x.2.1, ()) else none
noncomputable def ah6 (x : GrT × GrT × Unit) : Option (Bool × Unit) := ai2 x
def ab1 (x : Int × Unit) : Option (Int × Unit) := some (aaM x.1, ())
def ahA (x : OpT × Int × Int × Unit) : Option (Bool × Unit) := some (decide (acQ x.1 x.2.1 x.2.2.1), ())
def agL (x : List OpT × Int × Int × Unit) : Option (Int × Bool × Unit) := if shL x.1 then some (match (if inR x.2.1 1 4 ∧ inR x.2.2.1 1 4 ∧ x.1.length ≤ 40 then abI x.2.1 x.1 0 0 else none) with
 | some (n, m) => (m, decide (m ≤ 16 ∧ n = x.2.2.1), ())
 | none => (0, false, ())) else none
def acY (x : List OpT × Int × Int × Unit) : Option (Bool × Unit) := if shL x.1 then some ((aeC x.1 x.2.1 x.2.2.1).isSome, ()) else none
noncomputable def ah5 (x : List OpT × List OpT × Unit) : Option (Bool × Unit) := amR x
def ah3 (x : GrT × Unit) : Option (Bool × Unit) := some (decide (auE x.1), ())
def aeT (x : List Int × Unit) : Option (Bool × Unit) := if shL x.1 then some (decide (∀ n ∈ x.1, aaS n), ()) else none
open Classical in
noncomputable def aeU (x : ElT × Unit) : Option (Bool × Unit) := if shE x.1 then some (decide (ad1 x.1.2.2.1 x.1.2.2.2.1), ()) else none
open Classical in
noncomputable def acM (x : List CvT × Unit) : Option (Bool × Unit) := if shL x.1 ∧ ∀ c ∈ x.1, shC c then some (decide (ai8 x.1), ()) else none
open Classical in
noncomputable def adH (x : ElT × Unit) : Option (Bool × Unit) := if shE x.1 then some (decide (abK x.1), ()) else none
noncomputable def ah4 (x : ElT × ElT × Unit) : Option (Bool × Unit) := agN x
noncomputable def agK (x : ElT × Unit) : Option (Bool × Unit) := aeX x
noncomputable def akE (x : ElT × Unit) : Option (Int × Int × Unit) := ai3 x
noncomputable def acV (x : ElT × Unit) : Option (Int × Int × Unit) := ae9 x
def ayF (c : ChT) : Prop := shL c.2.1 ∧ ∀ x ∈ c.2.1, shE x
def agQ : Int → List ElT → Option Int
 | n, [] => some n
 | n, x :: r => if abK x ∧ aEF x = n then agQ (aiJ x) r else none
def ae6 (c : ChT) : Option Int := if inR c.1 1 4 ∧ c.2.1.length ≤ 8 then agQ c.1 c.2.1 else none
theorem azF : ∀ {n : Int} {l m : List ElT}, agQ n (l ++ m) = (agQ n l).bind fun k => agQ k m
 | _, [], _ => rfl
 | n, x :: r, m => by
  show agQ n (x :: (r ++ m)) = _
  simp only [agQ]
  split
  ·exact azF
  ·rfl
open Classical in
noncomputable def agO (x : (ChT × Unit) × Unit) : Option (Int × Bool × Unit) := if ayF x.1.1 then some (match ae6 x.1.1 with | some n => (n, true, ()) | none => (0, false, ())) else none
open Classical in
noncomputable def aeA (x : ChT × Unit) : Option (Int × Int × Unit) := if ayF x.1 then some (match ae6 x.1 with | some n => (n, 0, ()) | none => (0, 140, ())) else none
open Classical in
noncomputable def ac4 (x : ChT × Unit) : Option (Int × Unit) := if ayF x.1 then some (match ae6 x.1 with | some _ => (0, ()) | none => (140, ())) else none
open Classical in
noncomputable def agP (x : ChT × ChT × Unit) : Option (Bool × Unit) := if ayF x.1 then some (eqb x.1 x.2.1, ()) else none
def atF (_ : Unit) : Option (Bool × Unit) := some (true, ())
abbrev PgT := Int × Int × List OpT × Unit
def ae8 (x : PgT × Unit) : Option (Int × Unit) := some (w64 (1 + w64 (Int.tmod x.1.1 3)), ())
def aaV (x : PgT × Unit) : Option (Int × Unit) := some (w64 (1 + w64 (Int.tmod x.1.2.1 3)), ())
end Go.Vs
namespace Go.Vg
abbrev TT.tt {α : Type} (x : TT α) : TT α := .triv (true = true) rfl x
abbrev TT.tr {α : Type} (x : TT α) : TT α := .triv True trivial x
abbrev TT.xC {α : Type} (p : Prop) (x : TT α) (h : p := by repeat' constructor) : TT α := .triv p h x
end Go.Vg
namespace Go.Vs
open Go Go.Vg
abbrev Qq {α : Sort _} (x : α) : Prop := x = x
theorem tv {p : Prop} (h : p := by repeat' constructor) : p := h
abbrev xQ {α₁ : Sort _} (a : α₁) : Prop := Qq a ∧ True
abbrev xL {α₁ α₂ : Sort _} (a : α₁) (b : α₂) : Prop := Qq a ∧ Qq b ∧ True
abbrev xF {α₁ α₂ α₃ : Sort _} (a : α₁) (b : α₂) (c : α₃) : Prop := Qq a ∧ Qq b ∧ Qq c ∧ True
abbrev xD {α₁ α₂ α₃ α₄ : Sort _} (a : α₁) (b : α₂) (c : α₃) (d : α₄) : Prop := Qq a ∧ Qq b ∧ Qq c ∧ Qq d ∧ True
abbrev xE {α₁ α₂ α₃ α₄ α₅ : Sort _} (a : α₁) (b : α₂) (c : α₃) (d : α₄) (e : α₅) : Prop := Qq a ∧ Qq b ∧ Qq c ∧ Qq d ∧ Qq e ∧ True
abbrev xN {α₁ α₂ α₃ α₄ α₅ α₆ : Sort _} (a : α₁) (b : α₂) (c : α₃) (d : α₄) (e : α₅) (f : α₆) : Prop := Qq a ∧ Qq b ∧ Qq c ∧ Qq d ∧ Qq e ∧ Qq f ∧ True
abbrev xR {α₁ α₂ : Sort _} (a : α₁) (b : α₂) : Prop := Qq a ∧ Qq b
abbrev xI {α₁ α₂ α₃ : Sort _} (a : α₁) (b : α₂) (c : α₃) : Prop := Qq a ∧ Qq b ∧ Qq c
abbrev xT {α₁ α₂ α₃ α₄ : Sort _} (a : α₁) (b : α₂) (c : α₃) (d : α₄) : Prop := Qq a ∧ Qq b ∧ Qq c ∧ Qq d
abbrev xK {α₁ : Sort _} (a : α₁) (R : Prop) : Prop := Qq a ∧ R
abbrev xO {α₁ α₂ : Sort _} (a : α₁) (b : α₂) (R : Prop) : Prop := Qq a ∧ Qq b ∧ R
abbrev xH {α₁ α₂ α₃ : Sort _} (a : α₁) (b : α₂) (c : α₃) (R : Prop) : Prop := Qq a ∧ Qq b ∧ Qq c ∧ R
abbrev xJ {α₁ α₂ α₃ α₄ : Sort _} (a : α₁) (b : α₂) (c : α₃) (d : α₄) (R : Prop) : Prop := Qq a ∧ Qq b ∧ Qq c ∧ Qq d ∧ R
abbrev xU {α₁ α₂ α₃ α₄ α₅ : Sort _} (a : α₁) (b : α₂) (c : α₃) (d : α₄) (e : α₅) (R : Prop) : Prop := Qq a ∧ Qq b ∧ Qq c ∧ Qq d ∧ Qq e ∧ R
abbrev xS {α₁ α₂ α₃ α₄ α₅ α₆ : Sort _} (a : α₁) (b : α₂) (c : α₃) (d : α₄) (e : α₅) (f : α₆) (R : Prop) : Prop := Qq a ∧ Qq b ∧ Qq c ∧ Qq d ∧ Qq e ∧ Qq f ∧ R
abbrev xM {α₁ α₂ α₃ α₄ α₅ α₆ α₇ α₈ : Sort _} (a : α₁) (b : α₂) (c : α₃) (d : α₄) (e : α₅) (f : α₆) (g : α₇) (h : α₈) (R : Prop) : Prop := Qq a ∧ Qq b ∧ Qq c ∧ Qq d ∧ Qq e ∧ Qq f ∧ Qq g ∧ Qq h ∧ R
abbrev xB (a R : Prop) : Prop := a ∧ Qq true ∧ R
abbrev xZ : Prop := True ∧ (True ∧ (True ∧ (xK (0 : Int) <| True ∧ True ∧ xL (0 : Int) (0 : Int))))
abbrev wa : Prop := xI 1 0 true
abbrev wb : Prop := xI 0 0 true
abbrev wc : Prop := xO 49 (0 : Int) <| True ∧ True
abbrev wj : Prop := xK 79 <| True ∧ (xK (0 : Int) <| True ∧ True)
abbrev wl : Prop := xI 2 0 true
abbrev wm : Prop := xO 111 (3 : Int) <| True ∧ (xT 11 0 1 true) ∧ True
abbrev wn : Prop := xK (1 : Int) <| True ∧ xZ
abbrev wo : Prop := True ∧ True
abbrev wq : Prop := xI 3 0 true
abbrev wv : Prop := xI 5 0 true
abbrev ww : Prop := wq ∧ wa ∧ wb ∧ True
abbrev wz : Prop := xI 25 0 true
abbrev wA : Prop := xI 1 1 true
abbrev wB : Prop := xK (0 : Int) <| wa ∧ wb ∧ True
abbrev wF : Prop := xO 111 (2 : Int) <| True ∧ True ∧ True
abbrev wH : Prop := xO 82 (1 : Int) <| True ∧ xZ
abbrev wK : Prop := xK (0 : Int) <| wb ∧ True
abbrev wM : Prop := True ∧ wo
abbrev wP : Prop := xI 4 0 true
abbrev wR : Prop := xI 48 0 true
abbrev wS : Prop := xI 49 0 true
abbrev wV : Prop := xO 111 (2 : Int) <| (xT 5 0 1 true) ∧ True ∧ True
abbrev Dd1 := Ty.dflt wJ
abbrev Dd6 := Ty.dflt (Ty.pair xW Ty.unit)
abbrev aO8 := Ty.dflt wk
abbrev aOU := Ty.dflt (Ty.pair xW wJ)
abbrev aOT := Ty.dflt (Ty.pair wr Ty.unit)
noncomputable def aNZ (q : Rat) : Option Rat := if aOS q then some q else none
def okL (l : List BdT) : Prop := l ≠ [] ∧ l.length ≤ 1000000 ∧ ∀ b ∈ l, okB b.1 b.2.1
instance (l : List BdT) : Decidable (okL l) := inferInstanceAs (Decidable (_ ∧ _ ∧ _))
def inU (n : Int) : Prop := inR n 0 1000000000000
instance (n : Int) : Decidable (inU n) := inferInstanceAs (Decidable (_ ∧ _))
abbrev CdT := Int × List Int × List (Int × Int × Int × Int × Int × Int × Unit) × Bool × Bool × Unit
abbrev GdT := List Int × Int × List Int × Bool × Unit
abbrev PdT := PgT
abbrev DeT := Int × Int × List CdT × List (List Int) × List Int × GdT × PdT × Unit
abbrev DcT := Int × List DeT × Bool × Unit
abbrev tyE : Ty := (Ty.pair xW (Ty.pair (Ty.sl wr) (Ty.pair (Ty.sl (Ty.sl xW)) (Ty.pair (Ty.sl xW) (Ty.pair wQ (Ty.pair (Ty.sl wk) wk))))))
abbrev tyV : Ty := wr
abbrev e0 : ElT := (0, [], [], [], ([], 0, [], ()), [], 0, 0, ())
abbrev gE (l : List ElT) (i : Int) : ElT := gi l i e0
abbrev rE (x : ElT) : ElT := (x.1, x.2.1, x.2.2.1, x.2.2.2.1, (x.2.2.2.2.1.1, x.2.2.2.2.1.2.1, x.2.2.2.2.1.2.2.1, ()), x.2.2.2.2.2.1, x.2.2.2.2.2.2.1, x.2.2.2.2.2.2.2.1, ())
abbrev rC (c : ChT) : ChT := (c.1, c.2.1, ())
abbrev c0D : CdT := (0, [], [], false, false, ())
abbrev kD (d : DeT) : Int := w64 (1 + w64 (Int.tmod d.1 4))
abbrev cD (c : CdT) : CdT := (c.1, c.2.1, c.2.2.1, c.2.2.2.1, c.2.2.2.2.1, ())
abbrev mD (r : List Int) : Int := w64 (30 * w64 (List.headD r 0))
abbrev abT (l : List (List Int)) : List Int := List.headD l (List.replicate 4 0)
abbrev oD (r : List Int) : Int := w64 (10 * w64 (List.headD r 0))
abbrev grD (d : DeT) : GdT := (d.2.2.2.2.2.1.1, d.2.2.2.2.2.1.2.1, d.2.2.2.2.2.1.2.2.1, d.2.2.2.2.2.1.2.2.2.1, ())
abbrev pgD (k : Int) (d : DeT) : PdT := (wu8 (w64 ((if asT Int 3 < k then 3 else k) - 1)), d.2.2.2.2.2.2.1.2.1, d.2.2.2.2.2.2.1.2.2.1, ())
abbrev rV (y : CvT) : CvT := (y.1, y.2.1, y.2.2.1, ())
abbrev xG (d : DeT) (g : GrT) : ElT := (kD d, [], [], [], (g.1, g.2.1, g.2.2.1, ()), [], 0, 0, ())
abbrev xP (d : DeT) (p : List OpT) (i o : Int) : ElT := (kD d, [], [], [], ([], 0, [], ()), p, i, o, ())
abbrev Dz0 := Ty.dflt wk
abbrev Dz1 := Ty.dflt (Ty.pair xW wJ)
abbrev Dz2 := Ty.dflt wJ
abbrev Dz3 := Ty.dflt (Ty.pair xW Ty.unit)
abbrev Dz5 := Ty.dflt (Ty.pair (Ty.sl xW) Ty.unit)
abbrev Dz6 := Ty.dflt (Ty.pair wQ Ty.unit)
abbrev Dz7 := Ty.dflt (Ty.pair wr Ty.unit)
abbrev Dz8 := Ty.dflt (Ty.pair (Ty.sl wk) Ty.unit)
abbrev Dz9 := Ty.dflt (Ty.pair tyE Ty.unit)
abbrev aNQ := Ty.dflt (Ty.pair (Ty.pair xW (Ty.pair (Ty.sl tyE) Ty.unit)) Ty.unit)
abbrev aO7 := Ty.dflt (Ty.pair (Ty.arr 3 (Ty.pair xW (Ty.pair (Ty.sl tyE) Ty.unit))) Ty.unit)
end Go.Vs
namespace Go.Vg
open Go.Vs
abbrev TT.t4 {α : Type} (x : TT α) : TT α := .triv (asT Int 0 ≤ 0 ∧ 0 < (↑4 : Int)) zd x
end Go.Vg
namespace Go.Vs
open Go Go.Vg
noncomputable def afT (x : ChT × Unit) : Option (Int × Bool × Unit) := agO ((x.1, ()), ())
noncomputable def ah2 (x : ChT × Unit) : Option (Int × Int × Unit) := aeA x
noncomputable def agJ (x : ChT × Unit) : Option (Int × Unit) := ac4 x
noncomputable def ah1 (x : ChT × ChT × Unit) : Option (Bool × Unit) := agP x
open Classical in
noncomputable def aeS (x : ChT × Unit) : Option (Bool × Unit) := if ayF x.1 then some ((ae6 x.1).isSome, ()) else none
def aoJ (c : ChT) : Prop := (ae6 c).isSome = true ∧ ∀ x ∈ c.2.1, afE x
open Classical in
noncomputable def ae0 (x : ChT × Unit) : Option (Bool × Unit) := if ayF x.1 then some (decide (aoJ x.1), ()) else none
noncomputable def agI (x : ChT × Unit) : Option (Bool × Unit) := ae0 x
end Go.Vs
namespace Go.Vg
open Go
def opn (P : Program) : Nat → TypeId → Ty → Bool
 | 0, _, _ => false
 | n + 1, t, u => Nat.beq (P.cellsOf t) u.size && (match P.underlying t, u with
  | some (.int k), .int k' => decide (k = k')
  | some .bool, .bool => true
  | some .string, .str => true
  | some (.slice e), .sl v => opn P n e v && Nat.ble 1 v.size && Nat.ble 1 (P.bytesOf e)
  | some (.array m e), .arr m' v => Nat.beq m m' && opn P n e v
  | some (.struct fs), u => opFs (opn P n) fs.toList 0 u
  | _, _ => false)
where opFs (f : TypeId → Ty → Bool) : List Field → Nat → Ty → Bool
 | [], _, u => match u with | .unit => true | _ => false
 | x :: r, off, u => match u with
  | .pair t v => Nat.beq x.offset off && f x.type t && opFs f r (off + t.size) v
  | _ => false
theorem aFS {α : Type} {R : α → List Value → Prop} {n : Nat} : ∀ (len : Nat) (cs : List Value), cs.length = len * n → (∀ i, i < len → ∃ x, R x ((cs.drop (i * n)).take n)) → ∃ xs, xs.length = len ∧ RdL R xs cs
 | 0, cs, hl, _ => ⟨[], rfl, by rw [xl] at hl; exact zY hl⟩
 | len + 1, cs, hl, h => by
  obtain ⟨x, hx⟩ := h 0 (Nat.succ_pos _)
  rw [xl, yQ] at hx
  have hl' : (cs.drop n).length = len * n := by rw [zW, hl, zO]; omega
  obtain ⟨xs, h1, h2⟩ := aFS len (cs.drop n) hl' (fun i hi => by
   have := h (i + 1) (Nat.succ_lt_succ hi)
   rw [zV]
   rwa [zO, Nat.add_comm] at this)
  exact ⟨x :: xs, by rw [yb, h1], cs.take n, cs.drop n, (xv n cs).symm, hx, h2⟩
section
variable {H : Type} {enc : TypeId × Value → H} {P : Program} {w : World} {spare : Nat → Bool} {held : Bool}
abbrev ak5 (l : List Nat) : Prop := l.all (· ≤ reachBytes) = true
theorem aj3 {a b : List Nat} (h : ak5 (a ++ b)) : ak5 a ∧ ak5 b := by
 simp only [ak5, List.all_append, zn] at h
 exact h
theorem arX {e : TypeId} : ∀ {ds : List (DataW H)}, ak5 (DataW.weightsAll P e ds) → ∀ d ∈ ds, ak5 (d.weights P e)
 | [], _, _, h => by cases h
 | d :: r, h, x, hx => by
  rw [DataW.weightsAll] at h
  obtain ⟨h1, h2⟩ := aj3 h
  rcases zp.1 hx with rfl | hx
  ·exact h1
  ·exact arX h2 x hx
theorem avI : ∀ {ts : List TypeId} {ds : List (DataW H)}, ak5 (DataW.weightsEach P ts ds) → ∀ (i : Nat) t d, ts[i]? = some t → ds[i]? = some d → ak5 (d.weights P t)
 | [], _, _, i, t, d, h, _ => by simp at h
 | _ :: _, [], _, i, t, d, _, h => by simp at h
 | t :: ts, d :: ds, h, i, t', d', h1, h2 => by
  rw [DataW.weightsEach] at h
  obtain ⟨h3, h4⟩ := aj3 h
  cases i with
  | zero => simp at h1 h2; subst h1; subst h2; exact h3
  | succ i => exact avI h4 i t' d' (by simpa using h1) (by simpa using h2)
theorem akZ {a : Addr} {n : Nat} {l : List Value} (h : w.cells? 0 a n = some l) : l.length = n ∧ ∀ i (hi : i < n), w.cell? (a.add i) = l[i]? := by
 unfold World.cells? at h
 rw [if_pos (zA _)] at h
 refine ⟨by simpa using mapM_some_length h, fun i hi => ?_⟩
 have := mapM_some_get h i i (by simp [hi])
 exact this
theorem aEW {a : Addr} {v : Value} (h : w.cell? a = some v) : ∃ c e fr, w.heap[a.block]? = some (.cells c e fr) ∧ a.spot = none ∧ c[a.off]? = some v := by
 unfold World.cell? at h
 split at h
 ·rename_i c e fr hc
  split at h
  ·cases h
  ·rename_i hs
   exact ⟨c, e, fr, hc, by simpa using hs, h⟩
 ·cases h
theorem ayL : reachBytes ≤ lim := zd
theorem aF4 {n : Nat} {f : TypeId → Ty → Bool} {cs : List Value} (hf : ∀ t u cs d ps, f t u = true → DataW.trod enc P w 0 spare held n t cs = some (d, ps) → ak5 (d.weights P t) → ∃ x, Rd (· < w.heap.size) w u x cs)
  (hsz : ∀ t u, f t u = true → P.cellsOf t = u.size) :
  ∀ (fs : List Field) (off : Nat) (u : Ty) (xs : List (DataW H × List MemPlace)), opn.opFs f fs off u = true → cs.length = off + u.size → xs.length = fs.length →
   (∀ (i : Nat) (g : Field), fs[i]? = some g → DataW.trod enc P w 0 spare held n g.type ((cs.drop g.offset).take (P.cellsOf g.type)) = xs[i]?) →
   (∀ (i : Nat) (g : Field) y, fs[i]? = some g → xs[i]? = some y → ak5 (y.1.weights P g.type)) → ∃ x, Rd (· < w.heap.size) w u x (cs.drop off)
 | [], off, u, xs, h, hl, _, _, _ => by
  cases u <;> first | (cases h; done) | skip
  exact ⟨(), by
   have : cs.length = off := by simpa [Ty.size] using hl
   show cs.drop off = []
   exact yH zc⟩
 | g :: r, off, u, xs, h, hl, hx, ht, hw => by
  cases u <;> first | (cases h; done) | skip
  rename_i t v
  simp only [opn.opFs, zn] at h
  obtain ⟨⟨h1, h2⟩, h3⟩ := h
  have h1 := Nat.eq_of_beq_eq_true h1
  subst h1
  have hs := hsz _ _ h2
  cases xs with
  | nil => simp at hx
  | cons y ys =>
   have h4 := ht 0 g rfl
   rw [hs] at h4
   obtain ⟨a, ha⟩ := hf _ _ _ y.1 y.2 h2 h4 (hw 0 g y rfl rfl)
   obtain ⟨b, hb⟩ := aF4 hf hsz r (g.offset + t.size) v ys h3 (by rw [hl]; simp only [Ty.size]; omega) (by simpa using hx) (fun i k hk => by have := ht (i + 1) k (by simpa using hk); simpa using this) (fun i k z hk hz => hw (i + 1) k z (by simpa using hk) (by simpa using hz))
   refine ⟨(a, b), _, _, (xv t.size (cs.drop g.offset)).symm, ha, ?_⟩
   rw [zV]
   exact hb
theorem aqA {n : Nat} {t : TypeId} {u : Ty} (h : opn P n t u = true) : P.cellsOf t = u.size := by
 cases n with
 | zero => cases h
 | succ n =>
  simp only [opn, zn] at h
  exact Nat.eq_of_beq_eq_true h.1
theorem am0 : ∀ (n : Nat) (t : TypeId) (u : Ty) (fuel : Nat) (cs : List Value) (d : DataW H) (ps : List MemPlace), opn P n t u = true → DataW.trod enc P w 0 spare held fuel t cs = some (d, ps) → ak5 (d.weights P t) →
  ∃ x, Rd (· < w.heap.size) w u x cs
 | 0, _, _, _, _, _, _, h, _, _ => by cases h
 | n + 1, t, u, fuel, cs, d, ps, h, hd, hw => by
  have hsz := aqA h
  simp only [opn, zn] at h
  obtain ⟨-, h⟩ := h
  split at h
  ·rename_i k k' hu
   have := of_decide_eq_true h
   subst this
   obtain ⟨m, rfl, _, hwf⟩ := DataW.trod_int hu hd
   refine ⟨m, rfl, ?_⟩
   simpa [Lit.wf] using hwf
  ·rename_i hu
   obtain ⟨b, rfl, _⟩ := DataW.trod_bool hu hd
   exact ⟨b, rfl⟩
  ·rename_i hu
   obtain ⟨s, rfl, hx, _⟩ := DataW.trod_string hu hd
   injection hx with hx _
   subst hx
   have : s.data.toList.length ≤ reachBytes := by simpa [ak5, DataW.weights] using hw
   exact ⟨s.data.toList, rfl, zF this ayL⟩
  ·rename_i e v hu
   simp only [zn] at h
   obtain ⟨⟨h1, h2⟩, h3⟩ := h
   have h2 := Nat.le_of_ble_eq_true h2
   have h3 := Nat.le_of_ble_eq_true h3
   have hse := aqA h1
   rcases DataW.trod_slice hu hd with ⟨rfl, hx⟩ | ⟨a, len, cap, elems, rest, m, rfl, rfl, hx, _, hlc, _, hle, hel, _, _⟩
   ·exact ⟨[], none, 0, rfl, zm _, zA _, Or.inl rfl⟩
   ·injection hx with hx _
    subst hx
    simp only [DataW.weights, hu, ak5, List.all_cons, zn, zC, List.all_append] at hw
    obtain ⟨hw1, hw2, _⟩ := hw
    have hlim : len ≤ lim := by
     have : len * 1 ≤ (List.map (·.1) elems).length * P.bytesOf e := Nat.mul_le_mul (by simp [hle]) h3
     have h4 : (List.map (·.1) elems).length * P.bytesOf e ≤ ((List.map (·.1) elems).length + (List.map (·.1) rest).length) * P.bytesOf e := zE _ (yc _ _)
     exact zF zc (zF hw1 ayL)
    rcases Nat.eq_zero_or_pos len with h0 | h0
    ·subst h0
     exact ⟨[], some a, cap, rfl, hlc, zA _, Or.inl rfl⟩
    ·-- the cells of an element
     have key : ∀ i, i < len → ∃ l y, w.cells? 0 (a.add (i * v.size)) v.size = some l ∧ DataW.trod enc P w 0 spare held m e l = some y ∧ elems[i]? = some y := by
      intro i hi
      have := hel i hi
      rw [zI zc, hse] at this
      obtain ⟨l, hl1, hl2⟩ := Option.bind_eq_some_iff.1 this
      exact ⟨l, _, hl1, hl2, by rw [zI zc]⟩
     obtain ⟨l0, y0, hl0, -, -⟩ := key 0 h0
     obtain ⟨hn0, hc0⟩ := akZ hl0
     have hc00 := hc0 0 h2
     rw [zI zc] at hc00
     obtain ⟨c, et, fr, hb, hsp, _⟩ := aEW hc00
     have e0 : a.add (0 * v.size) = a := by simp [Addr.add]
     rw [e0] at hb hsp
     have e00 : a.add 0 = a := by simp [Addr.add]
     rw [e00] at hb hsp
     obtain ⟨b, o, sp⟩ := a
     dsimp only at hb hsp
     subst hsp
     -- each cell
     have cell : ∀ i, i < len → ∀ j, j < v.size → ∀ l, w.cells? 0 (Addr.add ⟨b, o, none⟩ (i * v.size)) v.size = some l → c[o + i * v.size + j]? = l[j]? := by
      intro i hi j hj l hl
      obtain ⟨q1, q2⟩ := akZ hl
      have := q2 j hj
      rw [← this]
      have ea : ((Addr.add ⟨b, o, none⟩ (i * v.size)).add j) = ⟨b, o + i * v.size + j, none⟩ := by
       unfold Addr.add
       by_cases c1 : i * v.size = 0 <;> by_cases c2 : j = 0 <;> simp [c1, c2]
      rw [ea]
      unfold World.cell?
      dsimp only
      rw [hb]
      rfl
     have part : ∀ i, i < len → ∀ l, w.cells? 0 (Addr.add ⟨b, o, none⟩ (i * v.size)) v.size = some l → (c.toList.drop (o + i * v.size)).take v.size = l := by
      intro i hi l hl
      obtain ⟨q1, q2⟩ := akZ hl
      apply List.ext_getElem?
      intro j
      rcases zH j v.size with hj | hj
      ·rw [List.getElem?_take_of_lt hj, yY, ← cell i hi j hj l hl]
       simp
      ·rw [yC (by rw [zQ]; omega), yC zc]
     have hlen : o + len * v.size ≤ c.size := by
      obtain ⟨l, y, hl, -, -⟩ := key (len - 1) zc
      obtain ⟨q1, q2⟩ := akZ hl
      have := cell (len - 1) zc (v.size - 1) zc l hl
      rw [zI zc] at this
      have hlt := (yA.1 this).1
      have e1 : len * v.size = (len - 1) * v.size + v.size := by
       conv => lhs; rw [show len = (len - 1) + 1 by omega]
       rw [zO]
      omega
     obtain ⟨xs, hx1, hx2⟩ := aFS (R := Rd (· < w.heap.size) w v) (n := v.size) len ((c.toList.drop o).take (len * v.size)) (by rw [zQ, zW]; simp; omega) (fun i hi => by
      obtain ⟨l, y, hl, hl2, hy⟩ := key i hi
      have hm : y.1 ∈ elems.map (·.1) := zD.2 ⟨y, List.mem_of_getElem? hy, rfl⟩
      obtain ⟨x, hx⟩ := am0 n e v m l y.1 y.2 h1 hl2 (arX hw2 _ hm)
      refine ⟨x, ?_⟩
      have e2 : ((((c.toList.drop o).take (len * v.size)).drop (i * v.size)).take v.size) = l := by
       rw [← part i hi l hl, xd, yq, zV]
       congr 1
       have : i * v.size + v.size ≤ len * v.size := by rw [← zO]; exact zE _ hi
       omega
      rw [e2]
      exact hx)
     subst hx1
     exact ⟨xs, some ⟨b, o, none⟩, cap, rfl, hlc, hlim, Or.inr ⟨b, o, c, et, fr, rfl, (yA.1 hb).1, hb, hlen, hx2⟩⟩
  ·rename_i m e m' v hu
   simp only [zn] at h
   obtain ⟨h1, h2⟩ := h
   have h1 := Nat.eq_of_beq_eq_true h1
   subst h1
   have hse := aqA h2
   obtain ⟨xs, k, rfl, hx, hlen, hxl, hel⟩ := DataW.trod_array hu hd
   injection hx with hx _
   subst hx
   rw [hsz] at hlen
   have hlen' : cs.length = m * v.size := hlen
   simp only [DataW.weights, hu] at hw
   obtain ⟨ys, hy1, hy2⟩ := aFS (R := Rd (· < w.heap.size) w v) (n := v.size) m cs hlen' (fun i hi => by
    have := hel i hi
    rw [zI zc, hse] at this
    exact am0 n e v k _ _ _ h2 this (arX hw _ (zD.2 ⟨_, yi zc, rfl⟩)))
   exact ⟨ys, hy1, hy2⟩
  ·rename_i _ fs hu
   obtain ⟨xs, k, rfl, hx, hlen, hxl, hel⟩ := DataW.trod_struct hu hd
   injection hx with hx _
   subst hx
   simp only [DataW.weights, hu] at hw
   obtain ⟨x, hx⟩ := aF4 (n := k) (f := opn P n) (cs := cs) (fun t u cs d ps h1 h2 h3 => am0 n t u k cs d ps h1 h2 h3) (fun t u h => aqA h) fs.toList 0 _ xs h (by rw [hlen, hsz]; omega) (by simpa using hxl) (fun i g hg => hel i g (by simpa using hg))
    (fun i g y hg hy => avI hw i g.type y.1 (by simp [hg]) (by simp [hy]))
   exact ⟨x, by simpa using hx⟩
  ·cases h
theorem aI8 {f : TypeId → Ty → Bool} : ∀ {fs : List Field} {off : Nat} {u : Ty}, opn.opFs f fs off u = true → u.agg = true
 | [], _, u, h => by cases u <;> first | rfl | (cases h; done)
 | _ :: _, _, u, h => by cases u <;> first | rfl | (cases h; done)
theorem aEa {n : Nat} {t : TypeId} {u : Ty} {r : _root_.Go.Reach} {b0 : Nat} {v : Value} {d : DataW H} {ps : List MemPlace} (ho : opn P n t u = true) (hne : u ≠ .unit) (hval : Value.okWide P w r b0 t v) (hd : DataW.Trod enc P w 0 spare held t v d ps) (hw : ak5 (d.weights P t)) :
  ∃ x, RdV (· < w.heap.size) w u x v := by
 obtain ⟨fuel, hf⟩ := hd
 obtain ⟨x, hx⟩ := am0 n t u fuel _ _ _ ho hf hw
 refine ⟨x, _, hx, ?_⟩
 cases n with
 | zero => cases ho
 | succ n =>
  simp only [opn, zn] at ho
  obtain ⟨-, h⟩ := ho
  split at h
  ·rename_i k k' hu
   obtain ⟨m, rfl⟩ := WideShapes.okWide_int hu hval
   rfl
  ·rename_i hu
   obtain ⟨m, rfl⟩ := WideShapes.okWide_bool hu hval
   rfl
  ·rename_i hu
   obtain ⟨m, rfl⟩ := WideShapes.okWide_string hu hval
   rfl
  ·rename_i e v' hu
   obtain ⟨a, len, cap, rfl⟩ := WideShapes.okWide_slice hu hval
   rfl
  ·rename_i ha
   unfold Value.okWide at hval
   rw [ha] at hval
   obtain ⟨cs, rfl, _⟩ := hval
   rfl
  ·rename_i fs hu'
   obtain ⟨cs, rfl, _⟩ := WideShapes.okWide_struct hu' hval
   unfold vOf
   rw [if_pos (aI8 h)]
   rfl
  ·cases h
def aCZ (P : Program) : List TypeId → Ty → Bool
 | [], u => match u with | .unit => true | _ => false
 | t :: ts, u => match u with
  | .pair a b => opn P 8 t a && (match a with | .unit => false | _ => true) && aCZ P ts b
  | _ => false
theorem aC0 : ∀ (ts : List TypeId) (u : Ty) (vs : List Value) (ds : List (DataW H)) (ps : List MemPlace) {r : _root_.Go.Reach} {b0 : Nat}, aCZ P ts u = true → (∀ (j : Nat) t v, ts[j]? = some t → vs[j]? = some v → Value.okWide P w r b0 t v) →
  DataW.TrodAll enc P w 0 spare held ts vs ds ps → ak5 (DataW.weightsEach P ts ds) → ∃ x, RdVs (· < w.heap.size) w u x vs
 | [], u, vs, ds, ps, _, _, ho, _, hd, _ => by
  cases u <;> first | (cases ho; done) | skip
  cases vs with
  | nil => exact ⟨(), rfl⟩
  | cons v vs => cases ds <;> exact hd.elim
 | t :: ts, u, vs, ds, ps, r, b0, ho, hv, hd, hw => by
  cases u <;> first | (cases ho; done) | skip
  rename_i a b
  simp only [aCZ, zn] at ho
  obtain ⟨⟨h1, h2⟩, h3⟩ := ho
  cases vs with
  | nil => exact hd.elim
  | cons v vs =>
   cases ds with
   | nil => exact hd.elim
   | cons d ds =>
    obtain ⟨p, q, hd1, hd2, _⟩ := hd
    rw [DataW.weightsEach] at hw
    obtain ⟨hw1, hw2⟩ := aj3 hw
    obtain ⟨x, hx⟩ := aEa h1 (fun e => by subst e; cases h2) (hv 0 t v rfl rfl) hd1 hw1
    obtain ⟨y, hy⟩ := aC0 ts b vs ds q h3 (fun j t' v' e1 e2 => hv (j + 1) t' v' (by simpa using e1) (by simpa using e2)) hd2 hw2
    exact ⟨(x, y), v, vs, rfl, hx, hy⟩
theorem aCM (hl : laidOutB P = true) {W W' : World} (hb : RowKit.Below W.heap.size W W') : ∀ (ts : List TypeId) (vs : List Value) (ds : List (DataW H)) (ps : List MemPlace), (ts.all fun t => P.readableRec t && decide (t < P.types.size)) = true →
  DataW.TrodAll enc P W 0 (fun _ => true) true ts vs ds ps → (∀ x ∈ ps, x.block < W.heap.size) → DataW.TrodAll enc P W' 0 (fun b => decide (b < W.heap.size)) true ts vs ds ps
 | [], [], [], _, _, hd, _ => hd
 | [], _ :: _, [], _, _, hd, _ | [], _, _ :: _, _, _, hd, _ => by cases ‹List Value› <;> exact hd.elim
 | t :: ts, [], ds, _, _, hd, _ => by cases ds <;> exact hd.elim
 | t :: ts, v :: vs, [], _, _, hd, _ => hd.elim
 | t :: ts, v :: vs, d :: ds, ps, hr, ⟨p, q, h1, h2, e⟩, hlt => by
  simp only [List.all_cons, zn, zC] at hr
  obtain ⟨⟨r1, r2⟩, r3⟩ := hr
  subst e
  exact ⟨p, q, RowKit.Below.trod hl r1 r2 h1 hb (fun x hx => hlt x (List.mem_append_left _ hx)), aCM hl hb ts vs ds q r3 h2 (fun x hx => hlt x (List.mem_append_right _ hx)), rfl⟩
end
end Go.Vg
