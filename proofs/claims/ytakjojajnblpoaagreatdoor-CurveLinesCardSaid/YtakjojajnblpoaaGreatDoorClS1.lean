/-
  Functions of plain data that the Go functions compute, and their laws. Own work; no condition.
-/
import Derived.Test.YtakjojajnblpoaaGreatDoorClE4
import Derived.Lib.ItoaMem
import Derived.Lib.AtoiAllCases
import Derived.Lib.ParseIntBTie
import Derived.Lib.Repeat
import Derived.OpenShut
import Derived.Carry
set_option linter.unusedVariables false
set_option linter.unusedSimpArgs false
namespace Go.Vs
open Go Go.Vg
theorem aaA {x : Int} (h0 : -9223372036854775808 ≤ x ∧ x ≤ 9223372036854775807) : w64 x = x := by
 obtain ⟨h0, h1⟩ := h0
 unfold w64 IntKind.wrap
 simp only [IntKind.bits, IntKind.signed, Bool.true_and]
 have e1 : (2 : Int) ^ 64 = 18446744073709551616 := zf
 have e2 : (2 : Int) ^ (64 - 1) = 9223372036854775808 := zf
 simp only [e1, e2, ge_iff_le, ym]
 split <;> omega
theorem aaO {x : Int} (h0 : 0 ≤ x ∧ x ≤ 18446744073709551615) : abP x = x := by
 obtain ⟨h0, h1⟩ := h0
 unfold abP IntKind.wrap
 simp only [IntKind.bits, IntKind.signed, Bool.false_and]
 have e1 : (2 : Int) ^ 64 = 18446744073709551616 := zf
 simp only [e1]
 simp only [ye, if_false]
 omega
theorem aa0 {x : Int} (h0 : 0 ≤ x ∧ x ≤ 4294967295) : adV x = x := by
 obtain ⟨h0, h1⟩ := h0
 unfold adV IntKind.wrap
 simp only [IntKind.bits, IntKind.signed, Bool.false_and]
 have e1 : (2 : Int) ^ 32 = 4294967296 := zf
 simp only [e1]
 simp only [ye, if_false]
 omega
theorem abO {x : Int} (h0 : 0 ≤ x ∧ x ≤ 255) : wu8 x = x := by
 obtain ⟨h0, h1⟩ := h0
 unfold wu8 IntKind.wrap
 simp only [IntKind.bits, IntKind.signed, Bool.false_and]
 have e1 : (2 : Int) ^ 8 = 256 := zf
 simp only [e1]
 simp only [ye, if_false]
 omega
def V (B : Int) : List Int → Int
 | [] => 0
 | d :: l => d + B * V B l
def Dg (B : Int) (l : List Int) : Prop := ∀ d ∈ l, 0 ≤ d ∧ d < B
def Cn (l : List Int) : Prop := l.getLast? ≠ some 0
theorem ad1 (B : Int) : ∀ (l m : List Int), V B (l ++ m) = V B l + B ^ l.length * V B m
 | [], m => by simp [V]
 | d :: l, m => by
  simp only [vB, V, ad1 B l m, zI, zY]
  grind
theorem ayQ (B d : Int) : V B [d] = d := by simp [V]
theorem akF (B : Int) {l : List Int} {i : Nat} (h : i < l.length) : V B (l.take (i + 1)) = V B (l.take i) + B ^ i * l[i] := by
 rw [zW h, ad1, ayQ, yo, yK zc]
theorem aQi (B : Int) (l : List Int) (i : Nat) (h : i ≤ l.length) : V B l = V B (l.take i) + B ^ i * V B (l.drop i) := by
 conv => lhs; rw [← xu i l]
 rw [ad1, yo, yK h]
theorem aMN (B : Int) {l : List Int} {i : Nat} (h : i < l.length) : V B (l.drop i) = l[i] + B * V B (l.drop (i + 1)) := by
 rw [yz h]; rfl
theorem atL (B : Int) : Dg B [] := fun _ h => by cases h
theorem aeG {B : Int} {l m : List Int} (hl : Dg B l) (hm : Dg B m) : Dg B (l ++ m) := by
 intro d hd
 rcases zJ.1 hd with h | h
 ·exact hl d h
 ·exact hm d h
theorem al3 {B d : Int} (h0 : 0 ≤ d) (h1 : d < B) : Dg B [d] := by
 intro x hx
 have := yd.1 hx
 subst this
 exact ⟨h0, h1⟩
theorem aoO {B d : Int} {l : List Int} (h : Dg B (d :: l)) : Dg B l := fun x hx => h x (zL _ hx)
theorem asI {B d : Int} {l : List Int} (h : Dg B (d :: l)) : 0 ≤ d ∧ d < B := h d yc
theorem aB9 {B d : Int} {l : List Int} (h0 : 0 ≤ d ∧ d < B) (h : Dg B l) : Dg B (d :: l) := by
 intro x hx
 rcases zx.1 hx with rfl | h1
 ·exact h0
 ·exact h x h1
theorem ab5 {B : Int} {l : List Int} (h : Dg B l) (i : Nat) : Dg B (l.take i) := fun x hx => h x (yZ hx)
theorem acI {B : Int} {l : List Int} (h : Dg B l) (i : Nat) : Dg B (l.drop i) := fun x hx => h x (yY hx)
theorem aEk {B : Int} {l : List Int} (h : Dg B l) {i : Nat} (hi : i < l.length) : 0 ≤ l[i] ∧ l[i] < B := h _ (yp hi)
theorem aiH {B d : Int} {l : List Int} (h : Dg B l) (h0 : 0 ≤ d ∧ d < B) (i : Nat) : Dg B (l.set i d) := by
 intro x hx
 rcases List.mem_or_eq_of_mem_set hx with h1 | h1
 ·exact h x h1
 ·rw [h1]; exact h0
theorem agA {B : Int} (hB : 0 < B) (n : Nat) : Dg B (List.replicate n 0) := by
 intro x hx
 have := (List.mem_replicate.1 hx).2
 omega
theorem ar9 (B : Int) : ∀ n, V B (List.replicate n 0) = 0
 | 0 => rfl
 | n + 1 => by simp [xk, V, ar9 B n]
theorem aaT {B : Int} (hB : 0 ≤ B) : ∀ {l : List Int}, Dg B l → 0 ≤ V B l
 | [], _ => Int.le_refl 0
 | d :: l, h => by
  have h1 := aaT hB (aoO h)
  have h2 := asI h
  have := zZ hB h1
  simp only [V]; omega
theorem aJq {B : Int} (hB : 0 < B) : ∀ {l : List Int}, Dg B l → V B l < B ^ l.length
 | [], _ => by simp [V]
 | d :: l, h => by
  have h1 := aJq hB (aoO h)
  have h2 := asI h
  simp only [V, zI, zY]
  have h3 : B * (V B l + 1) ≤ B * B ^ l.length := zy zc zc
  rw [yB (B ^ l.length) B]
  rw [xK] at h3
  omega
def atS (B n : Nat) : List Int := if _h : n = 0 ∨ B < 2 then [] else ((n % B : Nat) : Int) :: atS B (n / B)
termination_by n
decreasing_by exact vh zc zc
theorem ac4 (B : Nat) : atS B 0 = [] := by rw [atS]; simp
theorem ah5 {B n : Nat} (hB : 2 ≤ B) (hn : n ≠ 0) : atS B n = ((n % B : Nat) : Int) :: atS B (n / B) := by
 rw [atS, dif_neg zc]
theorem aEa {B : Nat} (hB : 2 ≤ B) (n : Nat) : V B (atS B n) = n := by
 induction n using Nat.strongRecOn with
 | _ n ih =>
  by_cases hn : n = 0
  ·subst hn; rw [ac4]; rfl
  ·rw [ah5 hB hn]
   simp only [V]
   rw [ih (n / B) (vh zc zc)]
   have := xU n B
   have h2 : ((n % B : Nat) : Int) + (B : Int) * ((n / B : Nat) : Int) = ((n % B + B * (n / B) : Nat) : Int) := zi
   rw [h2, this]
theorem aFS {B : Nat} (hB : 2 ≤ B) (n : Nat) : Dg B (atS B n) := by
 induction n using Nat.strongRecOn with
 | _ n ih =>
  by_cases hn : n = 0
  ·subst hn; rw [ac4]; exact atL _
  ·rw [ah5 hB hn]
   refine aB9 ⟨by omega, ?_⟩ (ih (n / B) (vh zc zc))
   have := yU n (show 0 < B by omega)
   omega
theorem aoA {B : Nat} (hB : 2 ≤ B) {n : Nat} (hn : n ≠ 0) : atS B n ≠ [] := by rw [ah5 hB hn]; simp
theorem atM : Cn [] := by simp [Cn]
theorem aGo {d : Int} {l : List Int} : Cn (d :: l) ↔ (if l = [] then d ≠ 0 else Cn l) := by
 cases l with
 | nil => simp [Cn]
 | cons e l => simp [Cn, List.getLast?_cons_cons]
theorem aL8 {B : Nat} (hB : 2 ≤ B) (n : Nat) : Cn (atS B n) := by
 induction n using Nat.strongRecOn with
 | _ n ih =>
  by_cases hn : n = 0
  ·subst hn; rw [ac4]; exact atM
  ·rw [ah5 hB hn, aGo]
   split
   ·rename_i h
    by_cases h2 : n / B = 0
    ·have := xU n B
     rw [h2, Nat.mul_zero] at this
     omega
    ·exact absurd h (aoA hB h2)
   ·exact ih (n / B) (vh zc zc)
theorem aD9 {B : Int} (hB : 0 < B) : ∀ {l : List Int}, Dg B l → Cn l → V B l = 0 → l = []
 | [], _, _, _ => rfl
 | d :: l, hd, hc, h => by
  have h1 := aaT zc (aoO hd)
  have h2 := asI hd
  simp only [V] at h
  have h3 := zZ (show 0 ≤ B by omega) h1
  have h4 : B * V B l = 0 := zc
  have h5 : V B l = 0 := by
   rcases Int.mul_eq_zero.1 h4 with h | h
   ·omega
   ·exact h
  rw [aGo] at hc
  split at hc
  ·omega
  ·rename_i hl; exact absurd (aD9 hB (aoO hd) hc h5) hl
theorem awF {B : Nat} (hB : 2 ≤ B) : ∀ {l : List Int} {n : Nat}, Dg B l → Cn l → V B l = n → l = atS B n
 | [], n, _, _, h => by
  have : n = 0 := by simp [V] at h; omega
  subst this; rw [ac4]
 | d :: l, n, hd, hc, h => by
  have h1 := aaT zc (aoO hd)
  have h2 := asI hd
  have hn : n ≠ 0 := by
   intro h0
   have := aD9 zc hd hc (by rw [h, h0]; rfl)
   cases this
  rw [ah5 hB hn]
  simp only [V] at h
  obtain ⟨v, hv⟩ := zv h1
  obtain ⟨e, he⟩ := zv h2.1
  rw [hv, he] at h
  have h3 : e + B * v = n := by
   have : ((e + B * v : Nat) : Int) = (n : Int) := by simpa using h
   exact Int.ofNat.inj this
  have h4 : e < B := zc
  have h5 : n % B = e := by rw [← h3, Nat.add_mul_mod_self_left, yG h4]
  have h6 : n / B = v := by rw [← h3, Nat.add_mul_div_left _ _ zc, xa h4, zu]
  rw [h5, h6, he]
  congr 1
  refine awF hB (aoO hd) ?_ hv
  rw [aGo] at hc
  split at hc
  ·rename_i hl; rw [hl]; exact atM
  ·exact hc
theorem af8 {B : Nat} (hB : 2 ≤ B) : ∀ {k n : Nat}, n < B ^ k → (atS B n).length ≤ k
 | 0, n, h => by
  have : n = 0 := by simpa using h
  subst this; rw [ac4]; simp
 | k + 1, n, h => by
  by_cases hn : n = 0
  ·subst hn; rw [ac4]; simp
  ·rw [ah5 hB hn, zI]
   have := af8 (k := k) hB (n := n / B) (by rw [yN zc]; rw [yC] at h; exact h)
   omega
theorem avQ {B : Nat} (hB : 2 ≤ B) (n : Nat) : n < B ^ (atS B n).length := by
 have h := aJq (B := B) zc (aFS hB n)
 rw [aEa hB] at h
 have : ((B : Int) ^ (atS B n).length) = ((B ^ (atS B n).length : Nat) : Int) := zi
 rw [this] at h
 omega
theorem au9 {B : Nat} (hB : 2 ≤ B) {n : Nat} (hn : n ≠ 0) : B ^ ((atS B n).length - 1) ≤ n := by
 rcases zr n (B ^ ((atS B n).length - 1)) with h | h
 ·have := af8 hB h
  have h2 : (atS B n).length ≠ 0 := by
   intro h3; exact aoA hB hn (zU.1 h3)
  omega
 ·exact h
theorem aG8 {B : Nat} (hB : 2 ≤ B) {m n : Nat} (h : atS B m = atS B n) : m = n := by
 have h1 := aEa hB m
 have h2 := aEa hB n
 rw [h] at h1
 omega
theorem az9 {B : Nat} (hB : 2 ≤ B) {d : Nat} (h0 : d ≠ 0) (h1 : d < B) : atS B d = [(d : Int)] := by
 rw [ah5 hB h0, yG h1, xa h1, ac4]
noncomputable def ac2 {α A R : Type} (enc : α → A) (pre : α → Prop) (f : α → R) (x : A) : Option R :=
 open Classical in if h : ∃ a, pre a ∧ enc a = x then some (f h.choose) else none
theorem aaI {α A R : Type} {enc : α → A} {pre : α → Prop} {f : α → R} (a : α) (h : pre a) (hinj : ∀ b, enc b = enc a → b = a) : ac2 enc pre f (enc a) = some (f a) := by
 have hex : ∃ b, pre b ∧ enc b = enc a := ⟨a, h, rfl⟩
 unfold ac2
 rw [dif_pos hex, hinj _ hex.choose_spec.2]
theorem aaE {α A R : Type} {enc : α → A} {pre : α → Prop} {f : α → R} {x : A} {y : R} (h : ac2 enc pre f x = some y) : ∃ a, pre a ∧ x = enc a ∧ y = f a := by
 unfold ac2 at h
 split at h
 ·rename_i hex
  injection h with h
  exact ⟨_, hex.choose_spec.1, hex.choose_spec.2.symm, h.symm⟩
 ·cases h
theorem aaC {α : Type} (l : List α) : len l = (l.length : Int) := rfl
theorem aRm {α : Type} {l : List α} {i : Int} {d : α} {k : Nat} (h : i = k) (hk : k < l.length) : gi l i d = l[k] := by
 subst h; unfold gi; simp [hk]
theorem uT {α : Type} {b : Bool} {x y : TT α} {r : Option α} (h : b = true) (hx : x.toO = r) : (TT.ite b x y).toO = r := by subst h; exact hx
theorem uF {α : Type} {b : Bool} {x y : TT α} {r : Option α} (h : b = false) (hy : y.toO = r) : (TT.ite b x y).toO = r := by subst h; exact hy
theorem uN {α : Type} {p : Prop} {x : TT α} {r : Option α} (h : p) (hx : x.toO = r) : (TT.need p x).toO = r := by rw [aNg _ _ h]; exact hx
theorem uV {α : Type} {p : Prop} {h : p} {x : TT α} {r : Option α} (hx : x.toO = r) : (TT.triv p h x).toO = r := hx
theorem uB {α β : Type} {b : β} {x : β → TT α} {r : Option α} (hx : (x b).toO = r) : (TT.lt b x).toO = r := hx
theorem uC {α β : Type} {o : Option β} {d : β} {x : β → TT α} {r : Option α} (y : β) (h : o = some y) (hx : (x y).toO = r) : (TT.call o d x).toO = r := by subst h; exact hx
theorem uO {α ι : Type} {t : Nat} {H : TT ι} {R : ι → TT (ι ⊕ α)} {r : Option α} (i : ι) (h : H.toO = some i) (hx : acX (fun i => (R i).toO) i = r) : (TT.loop t H R).toO = r := by rw [aNh h]; exact hx
theorem uL {α ι : Type} {t : Nat} {H : TT (ι ⊕ α)} {R : ι → TT α} {r : Option α} (i : ι) (h : H.toO = some (.inl i)) (hx : (R i).toO = r) : (TT.join t H R).toO = r := by rw [aJW h]; exact hx
theorem uR {α ι : Type} {t : Nat} {H : TT (ι ⊕ α)} {R : ι → TT α} (a : α) (h : H.toO = some (.inr a)) : (TT.join t H R).toO = some a := by rw [aJV h]
def aa2 (n : Nat) : List UInt8 := Lib.decDigits n
def dec (z : Int) : List UInt8 := if z < 0 then 45 :: aa2 z.natAbs else aa2 z.natAbs
def isD (s : List UInt8) : Prop := ∀ c ∈ s, 48 ≤ c.toNat ∧ c.toNat ≤ 57
def dv (c : UInt8) : Nat := c.toNat - 48
def ax0 (a : Nat) (s : List UInt8) : Nat := s.foldl (fun a c => a * 10 + dv c) a
def num (s : List UInt8) : Nat := ax0 0 s
def mag (n : Nat) : List Int := atS 1000000000 n
def atE (a b : Int) : Int := if a < b then -1 else if a = b then 0 else 1
theorem agQ (n : Nat) : Dg 1000000000 (mag n) := aFS (B := 1000000000) zc n
theorem aQF (n : Nat) : Cn (mag n) := aL8 (B := 1000000000) zc n
theorem alQ (n : Nat) : V 1000000000 (mag n) = n := aEa (B := 1000000000) zc n
theorem adK {m n : Nat} (h : mag m = mag n) : m = n := aG8 (B := 1000000000) zc h
theorem apA {l : List Int} {n : Nat} (h1 : Dg 1000000000 l) (h2 : Cn l) (h3 : V 1000000000 l = n) : l = mag n := awF (B := 1000000000) zc h1 h2 h3
noncomputable def aAl (x : Int × Unit) : Option (List UInt8 × Unit) := if -9223372036854775808 ≤ x.1 ∧ x.1 ≤ 9223372036854775807 then some (dec x.1, ()) else none
noncomputable def aHi (x : List UInt8 × Int × Unit) : Option (List UInt8 × Unit) := if 0 ≤ x.2.1 ∧ x.2.1 ≤ 100000 ∧ x.1.length ≤ 1000 then some ((List.replicate x.2.1.toNat x.1).flatten, ()) else none
noncomputable def ac6 (x : List Int × Unit) : Option (Bool × Unit) := some (len x.1 == 0, ())
open Classical in
noncomputable def acE (x : List Int × Unit) : Option (List Int × Unit) := if Dg 1000000000 x.1 ∧ x.1.length ≤ 2000000000000 then some (mag (V 1000000000 x.1).toNat, ()) else none
noncomputable def am1 : List Int × Unit → Option (Int × Unit) := ac2 (fun n : Nat => (mag n, ())) (fun n => n < 1000000000000000000) (fun n => ((n : Int), ()))
noncomputable def adO : List Int × List Int × Unit → Option (Int × Unit) := ac2 (fun p : Nat × Nat => (mag p.1, mag p.2, ())) (fun p => (mag p.1).length ≤ 1000000000000 ∧ (mag p.2).length ≤ 1000000000000) (fun p => (atE p.1 p.2, ()))
noncomputable def alU : List Int × List Int × Unit → Option (List Int × Unit) := ac2 (fun p : Nat × Nat => (mag p.1, mag p.2, ())) (fun p => (mag p.1).length ≤ 1000000000000 ∧ (mag p.2).length ≤ 1000000000000) (fun p => (mag (p.1 + p.2), ()))
noncomputable def ajH : List Int × List Int × Unit → Option (List Int × Unit) := ac2 (fun p : Nat × Nat => (mag p.1, mag p.2, ())) (fun p => (mag p.1).length ≤ 1000000000000 ∧ p.2 ≤ p.1) (fun p => (mag (p.1 - p.2), ()))
noncomputable def acB : List Int × List Int × Unit → Option (List Int × Unit) := ac2 (fun p : Nat × Nat => (mag p.1, mag p.2, ())) (fun p => (mag p.1).length ≤ 1000000000000 ∧ (mag p.2).length ≤ 1000000000000) (fun p => (mag (p.1 * p.2), ()))
noncomputable def ajG : List Int × Int × Unit → Option (List Int × Int × Unit) := ac2 (fun p : Nat × Nat => (mag p.1, (p.2 : Int), ())) (fun p => (mag p.1).length ≤ 1000000000000 ∧ 0 < p.2 ∧ p.2 < 4294967296) (fun p => (mag (p.1 / p.2), ((p.1 % p.2 : Nat) : Int), ()))
noncomputable def abN (x : Int × Unit) : Option (List Int × Unit) := if 0 ≤ x.1 ∧ x.1 < 18446744073709551616 then some (mag x.1.toNat, ()) else none
open Classical in
noncomputable def ag2 (x : List UInt8 × Unit) : Option (List Int × Unit) := if isD x.1 ∧ x.1 ≠ [] ∧ x.1.length ≤ 1000000000000 then some (mag (num x.1), ()) else none
noncomputable def ahQ : List Int × Unit → Option (Int × Unit) := ac2 (fun n : Nat => (mag n, ())) (fun n => (mag n).length ≤ 1000000000000) (fun n => (((aa2 n).length : Int), ()))
noncomputable def ahR : List Int × Unit → Option (List UInt8 × Unit) := ac2 (fun n : Nat => (mag n, ())) (fun n => (mag n).length ≤ 1000000) (fun n => (aa2 n, ()))
noncomputable def abC : List Int × List Int × Unit → Option (List Int × List Int × Unit) := ac2 (fun p : Nat × Nat => (mag p.1, mag p.2, ())) (fun p => (mag p.1).length ≤ 100000000000 ∧ (mag p.2).length ≤ 100000000000 ∧ p.2 ≠ 0) (fun p => (mag (p.1 / p.2), mag (p.1 % p.2), ()))
noncomputable def agX : List Int × List Int × Unit → Option (List Int × Unit) := ac2 (fun p : Nat × Nat => (mag p.1, mag p.2, ())) (fun p => (mag p.1).length ≤ 100000000000 ∧ (mag p.2).length ≤ 100000000000) (fun p => (mag (Nat.gcd p.1 p.2), ()))
noncomputable def ahN (x : List Int × Unit) : Option (Bool × Unit) := some (len x.1 == 0, ())
open Classical in
noncomputable def aMO (x : List Int × Unit) : Option (List Int × Unit) := if Dg 1000000000 x.1 ∧ x.1.length ≤ 2000000000000 then some (mag (V 1000000000 x.1).toNat, ()) else none
noncomputable def alR : List Int × List Int × Unit → Option (Int × Unit) := ac2 (fun p : Nat × Nat => (mag p.1, mag p.2, ())) (fun p => (mag p.1).length ≤ 1000000000000 ∧ (mag p.2).length ≤ 1000000000000) (fun p => (atE p.1 p.2, ()))
noncomputable def ap4 : List Int × List Int × Unit → Option (List Int × Unit) := ac2 (fun p : Nat × Nat => (mag p.1, mag p.2, ())) (fun p => (mag p.1).length ≤ 1000000000000 ∧ (mag p.2).length ≤ 1000000000000) (fun p => (mag (p.1 + p.2), ()))
noncomputable def asB : List Int × List Int × Unit → Option (List Int × Unit) := ac2 (fun p : Nat × Nat => (mag p.1, mag p.2, ())) (fun p => (mag p.1).length ≤ 1000000000000 ∧ p.2 ≤ p.1) (fun p => (mag (p.1 - p.2), ()))
noncomputable def ai9 : List Int × List Int × Unit → Option (List Int × Unit) := ac2 (fun p : Nat × Nat => (mag p.1, mag p.2, ())) (fun p => (mag p.1).length ≤ 1000000000000 ∧ (mag p.2).length ≤ 1000000000000) (fun p => (mag (p.1 * p.2), ()))
noncomputable def asA : List Int × Int × Unit → Option (List Int × Int × Unit) := ac2 (fun p : Nat × Nat => (mag p.1, (p.2 : Int), ())) (fun p => (mag p.1).length ≤ 1000000000000 ∧ 0 < p.2 ∧ p.2 < 4294967296) (fun p => (mag (p.1 / p.2), ((p.1 % p.2 : Nat) : Int), ()))
noncomputable def agW (x : Int × Unit) : Option (List Int × Unit) := if 0 ≤ x.1 ∧ x.1 < 18446744073709551616 then some (mag x.1.toNat, ()) else none
open Classical in
noncomputable def ajB (x : List UInt8 × Unit) : Option (List Int × Unit) := if isD x.1 ∧ x.1 ≠ [] ∧ x.1.length ≤ 1000000000000 then some (mag (num x.1), ()) else none
noncomputable def akG : List Int × Unit → Option (Int × Unit) := ac2 (fun n : Nat => (mag n, ())) (fun n => (mag n).length ≤ 1000000000000) (fun n => (((aa2 n).length : Int), ()))
noncomputable def akI : List Int × Unit → Option (List UInt8 × Unit) := ac2 (fun n : Nat => (mag n, ())) (fun n => (mag n).length ≤ 1000000) (fun n => (aa2 n, ()))
noncomputable def akH : List Int × List Int × Unit → Option (List Int × List Int × Unit) := ac2 (fun p : Nat × Nat => (mag p.1, mag p.2, ())) (fun p => (mag p.1).length ≤ 100000000000 ∧ (mag p.2).length ≤ 100000000000 ∧ p.2 ≠ 0) (fun p => (mag (p.1 / p.2), mag (p.1 % p.2), ()))
theorem aE2 {B : Int} (hB : 0 < B) {i j : Nat} (h : i ≤ j) : B ^ i ≤ B ^ j := by
 obtain ⟨k, rfl⟩ := Nat.exists_eq_add_of_le h
 rw [wi]
 have h1 : 1 ≤ B ^ k := yI hB
 have h2 : 0 < B ^ i := yI hB
 have := zy h1 (xm h2)
 omega
theorem aaM {α : Type} (l : List α) (k : Nat) (d : α) : gi l (k : Int) d = l.getD k d := by unfold gi; rw [zp]
theorem aiN {l : List Int} {k : Nat} (h : k < l.length) (d : Int) : l.getD k d = l[k] := by simp [h]
theorem ahF {l : List Int} {k : Nat} (h : l.length ≤ k) (d : Int) : l.getD k d = d := by simp [h]
theorem aa3 {B : Int} (hB : 0 < B) {l : List Int} (h : Dg B l) (k : Nat) : 0 ≤ l.getD k 0 ∧ l.getD k 0 < B := by
 rcases zr k l.length with hk | hk
 ·rw [aiN hk]; exact aEk h hk
 ·rw [ahF hk]; omega
theorem aa5 (B : Int) (l : List Int) (k : Nat) : V B (l.take (k + 1)) = V B (l.take k) + B ^ k * l.getD k 0 := by
 rcases zr k l.length with hk | hk
 ·rw [aiN hk]; exact akF B hk
 ·rw [ahF hk, zz zc, zz hk]; omega
theorem aaU (B : Int) (l : List Int) (k : Nat) : V B (l.drop k) = l.getD k 0 + B * V B (l.drop (k + 1)) := by
 rcases zr k l.length with hk | hk
 ·rw [aiN hk]; exact aMN B hk
 ·rw [ahF hk, yw hk, yw zc]; simp [V]
theorem acT (B : Int) {l : List Int} {k : Nat} (h : l.length ≤ k) : V B (l.drop k) = 0 := by rw [yw h]; rfl
theorem abE (B : Int) {l : List Int} {k : Nat} (h : l.length ≤ k) : V B (l.take k) = V B l := by rw [zz h]
theorem ab6 (B : Int) (l : List Int) (k : Nat) : V B l = V B (l.take k) + B ^ k * V B (l.drop k) := by
 rcases zr k l.length with hk | hk
 ·exact aQi B l k zc
 ·rw [acT B hk, abE B hk]; omega
theorem ac5 {B : Int} (hB : 0 < B) {l : List Int} (h : Dg B l) (k : Nat) : V B (l.take k) < B ^ k := by
 rcases zr k l.length with hk | hk
 ·have := aJq hB (ab5 h k)
  rwa [yo, yK zc] at this
 ·rw [abE B hk]
  have h1 := aJq hB h
  have h2 : B ^ l.length ≤ B ^ k := aE2 hB hk
  omega
theorem aMM {B : Int} (hB : 1 ≤ B) {l : List Int} (h : Dg B l) (k : Nat) : V B (l.drop k) ≤ V B l := by
 have h1 := ab6 B l k
 have h2 := aaT zc (ab5 h k)
 have h3 := aaT zc (acI h k)
 have h4 : 1 * V B (l.drop k) ≤ B ^ k * V B (l.drop k) := zC (yI zc) h3
 omega
theorem aAY {B : Int} (hB : 1 ≤ B) (k : Nat) : 1 ≤ B ^ k := yI zc
theorem aAD (l : List Int) (k : Nat) (x : Int) : (l.set k x).take k = l.take k := by
 rw [List.take_set_of_le (zq k)]
theorem aJp (B : Int) {l : List Int} {k : Nat} (hk : k < l.length) (x : Int) : V B ((l.set k x).take (k + 1)) = V B (l.take k) + B ^ k * x := by
 rw [aa5, aAD, aiN (by simpa using hk)]
 simp
theorem ahI (l : List Int) {k j : Nat} (h : k < j) (x : Int) : (l.set k x).drop j = l.drop j := by
 rw [List.drop_set_of_lt h]
theorem axD (B : Int) : ∀ {l : List Int} {k : Nat}, k < l.length → ∀ x, V B (l.set k x) = V B l + B ^ k * (x - l.getD k 0)
 | [], k, h, _ => by simp at h
 | d :: l, 0, _, x => by simp [V]; omega
 | d :: l, k + 1, h, x => by
  simp only [List.set_cons_succ, V, List.getD_cons_succ]
  rw [axD B (by simpa using h) x, zY]
  grind
theorem an3 (l : List Int) {k j : Nat} (h : k ≠ j) (x : Int) : (l.set k x).getD j 0 = l.getD j 0 := by
 simp [yg, List.getElem?_set_ne h]
theorem an4 {l : List Int} {k : Nat} (h : k < l.length) (x : Int) : (l.set k x).getD k 0 = x := by
 simp [yg, h]
theorem alE {B : Int} (hB : 1 < B) {l : List Int} (h : Dg B l) {k : Nat} (hv : V B l < B ^ k) : ∀ j, k ≤ j → l.getD j 0 = 0 := by
 intro j hj
 have h1 := ab6 B l j
 have h2 := aaT zc (ab5 h j)
 have h3 := aaT zc (acI h j)
 have h4 := aaU B l j
 have h5 := aaT zc (acI h (j + 1))
 have h6 := aa3 zc h j
 have h7 : B ^ k ≤ B ^ j := aE2 zc hj
 have h8 := zZ (show 0 ≤ B by omega) h5
 rcases zQ 0 (V B (l.drop j)) with h9 | h9
 ·have : B ^ j * 1 ≤ B ^ j * V B (l.drop j) := zy zc (by have := aAY (show 1 ≤ B by omega) j; omega)
  omega
 ·omega
theorem aHs {B : Int} (hB : 0 < B) {l : List Int} (h : Dg B l) (hv : l = [] ∨ B ^ (l.length - 1) ≤ V B l) : Cn l := by
 rcases hv with rfl | hv
 ·exact atM
 ·rcases zF l.length with hl | hl
  ·rw [zU.1 hl]; exact atM
  ·unfold Cn
   rw [yQ, zO zc]
   intro h0
   injection h0 with h0
   have h1 := akF B (l := l) (i := l.length - 1) zc
   rw [h0, show l.length - 1 + 1 = l.length by omega, zt] at h1
   have h2 := ac5 hB h (l.length - 1)
   omega
theorem mag_length_le_iff {n k : Nat} : (mag n).length ≤ k ↔ n < 1000000000 ^ k := by
 constructor
 ·intro h
  have h1 := avQ (B := 1000000000) zc n
  exact yn h1 (zV zc h)
 ·intro h
  exact af8 zc h
theorem abR {m n : Nat} (h : m ≤ n) : (mag m).length ≤ (mag n).length := by
 rw [mag_length_le_iff]
 exact Nat.lt_of_le_of_lt h (mag_length_le_iff.1 (zq _))
theorem aiL (m n : Nat) : (mag (m + n)).length ≤ max (mag m).length (mag n).length + 1 := by
 rw [mag_length_le_iff]
 have h1 := mag_length_le_iff.1 (Nat.le_max_left (mag m).length (mag n).length)
 have h2 := mag_length_le_iff.1 (Nat.le_max_right (mag m).length (mag n).length)
 rw [yC]
 have := yy (1000000000 ^ max (mag m).length (mag n).length) (show 2 ≤ 1000000000 by omega)
 omega
theorem af6 (m n : Nat) : (mag (m * n)).length ≤ (mag m).length + (mag n).length := by
 rw [mag_length_le_iff, xz]
 have h1 := mag_length_le_iff.1 (zq (mag m).length)
 have h2 := mag_length_le_iff.1 (zq (mag n).length)
 exact Nat.mul_lt_mul'' h1 h2
theorem mag_zero : mag 0 = [] := ac4 _
theorem mag_nil_iff {n : Nat} : mag n = [] ↔ n = 0 := by
 constructor
 ·intro h
  exact adK (h.trans mag_zero.symm)
 ·rintro rfl; exact mag_zero
theorem apB {d : Nat} (h0 : d ≠ 0) (h1 : d < 1000000000) : mag d = [(d : Int)] := az9 zc h0 h1
theorem anL {m n : Nat} (h : (mag m).length < (mag n).length) : m < n := by
 have h1 := mag_length_le_iff.1 (zq (mag m).length)
 rcases zr m n with h2 | h2
 ·exact h2
 ·have := abR h2; omega
theorem adB {p q : Nat × Nat} (h : (mag p.1, mag p.2, ()) = (mag q.1, mag q.2, ())) : p = q := by
 injection h with h1 h2
 injection h2 with h2 _
 exact Prod.ext (adK h1) (adK h2)
theorem abH {n : Nat} (h : n < 10) : aa2 n = [UInt8.ofNat (48 + n)] := by unfold aa2; rw [Lib.decDigits, dif_pos h]
theorem ae6 {n : Nat} (h : 10 ≤ n) : aa2 n = aa2 (n / 10) ++ [UInt8.ofNat (48 + n % 10)] := by
 unfold aa2; conv => lhs; rw [Lib.decDigits, dif_neg zc]
theorem aeP (n : Nat) : aa2 n ≠ [] := by
 rcases zr n 10 with h | h
 ·rw [abH h]; simp
 ·rw [ae6 h]; simp
theorem aEF {α : Type} {P : List α → Prop} (nil : P []) (snoc : ∀ l a, P l → P (l ++ [a])) (l : List α) : P l := by
 have H : ∀ m : List α, P m.reverse := by
  intro m
  induction m with
  | nil => exact nil
  | cons a m ih => rw [List.reverse_cons]; exact snoc _ _ ih
 have := H l.reverse
 rwa [List.reverse_reverse] at this
theorem auA {d : Nat} (h : d < 10) : (UInt8.ofNat (48 + d)).toNat = 48 + d := by simp [UInt8.toNat_ofNat]; omega
theorem isD_append {s t : List UInt8} : isD (s ++ t) ↔ isD s ∧ isD t := by
 constructor
 ·intro h
  exact ⟨fun c hc => h c (vH _ hc), fun c hc => h c (List.mem_append_right _ hc)⟩
 ·rintro ⟨h1, h2⟩ c hc
  rcases zJ.1 hc with h | h
  ·exact h1 c h
  ·exact h2 c h
theorem aLv {d : Nat} (h : d < 10) : isD [UInt8.ofNat (48 + d)] := by
 intro c hc
 have := yd.1 hc
 subst this
 rw [auA h]; omega
theorem agF (a : Nat) (c : UInt8) (s : List UInt8) : ax0 a (c :: s) = ax0 (a * 10 + dv c) s := List.foldl_cons ..
theorem aFk (s t : List UInt8) (a : Nat) : ax0 a (s ++ t) = ax0 (ax0 a s) t := List.foldl_append ..
theorem aN4 (s : List UInt8) : ∀ a : Nat, ax0 a s = a * 10 ^ s.length + ax0 0 s := by
 induction s with
 | nil => intro a; simp [ax0]
 | cons c s ih =>
  intro a
  rw [agF, agF, vF, zu]
  generalize dv c = x
  rw [ih (a * 10 + x), ih x, zI, yC]
  generalize 10 ^ s.length = y
  rw [yO, yL y 10, wz, Nat.add_assoc]
theorem az8 {d : Nat} (h : d < 10) : dv (UInt8.ofNat (48 + d)) = d := by unfold dv; rw [auA h]; omega
theorem aK8 (s : List UInt8) (a : Nat) : ax0 a s = a * 10 ^ s.length + num s := aN4 s a
theorem amG (s t : List UInt8) : num (s ++ t) = num s * 10 ^ t.length + num t := by
 show ax0 0 (s ++ t) = _
 rw [aFk, aK8]
 rfl
theorem aPJ {d : Nat} (h : d < 10) : num [UInt8.ofNat (48 + d)] = d := by
 show ax0 0 [_] = d
 rw [agF, az8 h]; simp [ax0]
theorem amE (s : List UInt8) (c : UInt8) : num (s ++ [c]) = num s * 10 + dv c := by
 rw [amG]; simp [num, ax0]
theorem aC7 {s : List UInt8} : isD s → num s < 10 ^ s.length := by
 induction s using aEF with
 | nil => intro _; simp [num, ax0]
 | snoc s c ih =>
  intro h
  rw [isD_append] at h
  have h1 := ih h.1
  have h2 := h.2 c zi
  have h3 : dv c = c.toNat - 48 := rfl
  rw [amE, zP, yu, yC]
  omega
theorem aj7 (n : Nat) : isD (aa2 n) := by
 induction n using Nat.strongRecOn with
 | _ n ih =>
  rcases zr n 10 with h | h
  ·rw [abH h]; exact aLv h
  ·rw [ae6 h, isD_append]
   exact ⟨ih (n / 10) zc, aLv zc⟩
theorem amF (n : Nat) : num (aa2 n) = n := by
 induction n using Nat.strongRecOn with
 | _ n ih =>
  rcases zr n 10 with h | h
  ·rw [abH h, aPJ h]
  ·rw [ae6 h, amE, ih (n / 10) zc, az8 zc]
   omega
theorem ah6 {m n : Nat} (h : aa2 m = aa2 n) : m = n := by rw [← amF m, ← amF n, h]
theorem afM (n : Nat) : n < 10 ^ (aa2 n).length := by
 have := aC7 (aj7 n)
 rwa [amF] at this
theorem acG : ∀ {k n : Nat}, n < 10 ^ (k + 1) → (aa2 n).length ≤ k + 1
 | 0, n, h => by rw [abH (by simpa using h)]; simp
 | k + 1, n, h => by
  rcases zr n 10 with h9 | h9
  ·rw [abH h9]; simp
  ·have := acG (k := k) (n := n / 10) (by rw [yN zc]; rw [yC] at h; exact h)
   rw [ae6 h9]; simp; omega
theorem ahK (n : Nat) : 1 ≤ (aa2 n).length := ya.2 (aeP n)
theorem acQ {k n : Nat} (hk : 1 ≤ k) : (aa2 n).length ≤ k ↔ n < 10 ^ k := by
 constructor
 ·intro h
  exact yn (afM n) (zV zc h)
 ·intro h
  obtain ⟨j, rfl⟩ : ∃ j, k = j + 1 := ⟨k - 1, by omega⟩
  exact acG h
theorem anJ {k n : Nat} (h1 : 10 ^ k ≤ n) (h2 : n < 10 ^ (k + 1)) : (aa2 n).length = k + 1 := by
 have h3 := acG h2
 rcases zr k (aa2 n).length with h | h
 ·omega
 ·have := afM n
  have h4 := zV (n := 10) zc h
  omega
theorem aE1 {n : Nat} (hn : n ≠ 0) : 10 ^ ((aa2 n).length - 1) ≤ n := by
 rcases zr n (10 ^ ((aa2 n).length - 1)) with h | h
 ·have h1 := ahK n
  rcases zr 1 (aa2 n).length with h2 | h2
  ·have := (acQ (k := (aa2 n).length - 1) zc).2 h
   omega
  ·have : (aa2 n).length - 1 = 0 := zc
   rw [this] at h; simp at h; omega
 ·exact h
theorem aDN {s : List UInt8} : isD s → s ≠ [] → (s.head? ≠ some 48 ∨ s.length = 1) → s = aa2 (num s) := by
 induction s using aEF with
 | nil => intro _ h; exact absurd rfl h
 | snoc s c ih =>
  intro h _ hz
  rw [isD_append] at h
  have h2 := h.2 c zi
  have hdv : dv c = c.toNat - 48 := rfl
  have hc : c = UInt8.ofNat (48 + (c.toNat - 48)) := by
   rw [show 48 + (c.toNat - 48) = c.toNat by omega]; simp
  rw [amE]
  by_cases hs : s = []
  ·subst hs
   simp only [xh]
   rw [show num [] * 10 + dv c = c.toNat - 48 by simp [num, ax0, hdv], abH zc, ← hc]
  ·have hz' : s.head? ≠ some 48 := by
    rcases hz with h0 | h0
    ·cases s with
     | nil => exact absurd rfl hs
     | cons a s => simpa using h0
    ·have := ya.2 hs
     rw [zP, yu] at h0; omega
   have h3 := ih h.1 hs (Or.inl hz')
   have h4 : 1 ≤ num s := by
    rcases zF (num s) with h0 | h0
    ·rw [h0, abH zc] at h3
     rw [h3] at hz'
     simp at hz'
    ·exact h0
   rw [ae6 (n := num s * 10 + dv c) zc]
   rw [show (num s * 10 + dv c) / 10 = num s by omega, show (num s * 10 + dv c) % 10 = c.toNat - 48 by omega, ← h3, ← hc]
theorem aMc {n : Nat} (h : n ≠ 0) : (aa2 n).head? ≠ some 48 := by
 induction n using Nat.strongRecOn with
 | _ n ih =>
  rcases zr n 10 with h9 | h9
  ·rw [abH h9]
   simp only [vj]
   intro h0
   injection h0 with h0
   have := auA h9
   rw [h0] at this
   simp at this; omega
  ·rw [ae6 h9]
   have := ih (n / 10) zc zc
   cases hd : aa2 (n / 10) with
   | nil => exact absurd hd (aeP _)
   | cons a l => rw [hd] at this; simpa using this
theorem ad7 (n : Nat) : dec (n : Int) = aa2 n := by unfold dec; rw [if_neg zc]; simp
theorem ahJ {z : Int} (h : z < 0) : dec z = 45 :: aa2 z.natAbs := by unfold dec; rw [if_pos h]
theorem acA {z : Int} (h : 0 ≤ z) : dec z = aa2 z.natAbs := by unfold dec; rw [if_neg zc]
theorem adE (n : Nat) : (aa2 n).head? ≠ some 45 := by
 cases hd : aa2 n with
 | nil => simp
 | cons a l =>
  have := aj7 n a (by rw [hd]; simp)
  simp only [vj]
  intro h
  injection h with h
  rw [h] at this
  simp at this
theorem aj6 {a b : Int} (h : dec a = dec b) : a = b := by
 rcases zQ a 0 with ha | ha <;> rcases zQ b 0 with hb | hb
 ·rw [ahJ ha, ahJ hb] at h
  injection h with _ h
  have := ah6 h
  omega
 ·rw [ahJ ha, acA hb] at h
  have := adE b.natAbs
  rw [← h] at this
  simp at this
 ·rw [ahJ hb, acA ha] at h
  have := adE a.natAbs
  rw [h] at this
  simp at this
 ·rw [acA ha, acA hb] at h
  have := ah6 h
  omega
theorem apQ (z : Int) : (dec z).length ≤ (aa2 z.natAbs).length + 1 := by unfold dec; split <;> simp
theorem sd {p : Prop} (h : p := by first | omega | ((try simp only [ym, yk, yM, xe, beq_eq_false_iff_ne, bne_eq_false_iff_eq, zR, yD]) <;> (try simp only [aaC, inb, inc, ge_iff_le, gt_iff_lt, zp, asT, ne_eq]) <;> omega) | ((try simp only [ym, yk, yM, xe, beq_eq_false_iff_ne, bne_eq_false_iff_eq, zR, yD]) <;> (try simp only [aaC, inb, inc, ge_iff_le, gt_iff_lt, zp, asT, ne_eq]) <;> (simp (disch := omega) only [aaA, aaO, aa0, abO, aaM, zu, zp, aaC]; omega)) | fail) : p := h
theorem za {α : Type} {x y : TT α} {r : Option α} (k : y.toO = r) (h : x.toO = y.toO := by first | exact uV rfl | exact uB rfl | exact uN sd rfl | exact uT sd rfl | exact uF sd rfl | exact uN (by simp) rfl) : x.toO = r := h.trans k
theorem sn {p : Prop} (h : p := by (try simp only [aaC, inb, inc, ge_iff_le, gt_iff_lt, zp, asT, ne_eq]); omega) : p := h
def aAZ (k n : Nat) : List UInt8 := List.replicate (k - (aa2 n).length) 48 ++ aa2 n
theorem aNK {r : Nat} (h : r < 10) : aAZ 1 r = [UInt8.ofNat (48 + r)] := by
 unfold aAZ; rw [abH h]; rfl
theorem aKC {k r : Nat} (hk : 1 ≤ k) : aAZ (k + 1) r = aAZ k (r / 10) ++ [UInt8.ofNat (48 + r % 10)] := by
 unfold aAZ
 rcases zr r 10 with h | h
 ·rw [abH h, xa h, yG h, abH (by omega : 0 < 10)]
  obtain ⟨j, rfl⟩ : ∃ j, k = j + 1 := ⟨k - 1, by omega⟩
  have e1 : j + 1 + 1 - [UInt8.ofNat (48 + r)].length = j + 1 := zi
  have e2 : j + 1 - [UInt8.ofNat (48 + 0)].length = j := zi
  rw [e1, e2, wR]
  rfl
 ·rw [ae6 h, zP, yu, Nat.add_sub_add_right, yT]
theorem aIW {q : Nat} (hq : q ≠ 0) : ∀ {k r : Nat}, 1 ≤ k → r < 10 ^ k → aa2 (q * 10 ^ k + r) = aa2 q ++ aAZ k r := by
 intro k
 induction k with
 | zero => intro r h; omega
 | succ k ih =>
  intro r _ hr
  have h10 : 10 ≤ q * 10 ^ (k + 1) + r := by
   have h1 : 10 ^ (k + 1) ≤ q * 10 ^ (k + 1) := Nat.le_mul_of_pos_left _ zc
   have h2 : 10 ≤ 10 ^ (k + 1) := by
    have := zV (show 1 ≤ 10 by omega) (show 1 ≤ k + 1 by omega)
    simpa using this
   omega
  rw [ae6 h10]
  have e1 : q * 10 ^ (k + 1) + r = 10 * (q * 10 ^ k) + r := by rw [yC]; congr 1; rw [← wz, yL]
  have ed : (q * 10 ^ (k + 1) + r) / 10 = q * 10 ^ k + r / 10 := by rw [e1]; omega
  have em : (q * 10 ^ (k + 1) + r) % 10 = r % 10 := by rw [e1]; omega
  rw [ed, em]
  rcases zF k with h | h
  ·subst h
   have hr' : r < 10 := by simpa using hr
   rw [xa hr', yG hr', aNK hr']
   simp
  ·have hr2 : r / 10 < 10 ^ k := by rw [yN zc]; rw [yC] at hr; exact hr
   rw [ih h hr2, aKC h, yT]
def aCd : List Int → List UInt8
 | [] => []
 | d :: r => match r with
  | [] => aa2 d.toNat
  | _ :: _ => aCd r ++ aAZ 9 d.toNat
theorem aBU (n : Nat) (hn : n ≠ 0) : aCd (mag n) = aa2 n := by
 induction n using Nat.strongRecOn with
 | _ n ih =>
  unfold mag
  rw [ah5 zc hn]
  by_cases hq : n / 1000000000 = 0
  ·rw [hq, ac4]
   have : n < 1000000000 := by
    rcases zr n 1000000000 with h | h
    ·exact h
    ·have := Nat.div_pos h zc; omega
   simp only [aCd, zp]
   rw [yG this]
  ·have h1 := ih (n / 1000000000) (vh zc zc) hq
   unfold mag at h1
   cases hd : atS 1000000000 (n / 1000000000) with
   | nil => exact absurd hd (aoA zc hq)
   | cons e r =>
    rw [hd] at h1
    simp only [aCd, zp]
    have h2 := aIW hq (k := 9) (r := n % 1000000000) zc (yU _ zc)
    have e : n / 1000000000 * 10 ^ 9 + n % 1000000000 = n := by
     have := Nat.div_add_mod n 1000000000
     omega
    rw [e] at h2
    rw [h2, ← h1]
    rfl
theorem aD3 {l : List Int} {k : Nat} (hk : k + 1 = l.length) : aCd (l.drop k) = aa2 (l[k]'zc).toNat := by
 rw [yz zc, List.drop_eq_nil_of_le zc]
 rfl
theorem aAi {l : List Int} {k : Nat} (hk : k + 1 < l.length) : aCd (l.drop k) = aCd (l.drop (k + 1)) ++ aAZ 9 (l[k]'zc).toNat := by
 rw [yz zc, yz (i := k + 1) hk]
 rfl
theorem aOD {d : Nat} (h : d < 1000000000) : (aa2 d).length ≤ 9 := acG (k := 8) h
theorem aNL {d : Nat} (h : d < 1000000000) : (aAZ 9 d).length = 9 := by
 have := aOD h
 unfold aAZ; simp; omega
theorem auB : ∀ {l : List Int}, Dg 1000000000 l → (aCd l).length ≤ 9 * l.length
 | [], _ => by simp [aCd]
 | [d], h => by
  have := (asI h).2
  have := aOD (d := d.toNat) zc
  simp only [aCd, yu]; omega
 | d :: e :: r, h => by
  have h1 := auB (aoO h)
  have := (asI h).2
  have h2 := aNL (d := d.toNat) zc
  rw [show aCd (d :: e :: r) = aCd (e :: r) ++ aAZ 9 d.toNat from rfl, zP]
  simp only [zI] at h1 ⊢
  omega
def Bd (k n : Nat) : Prop := (mag n).length ≤ 1000000 * 4 ^ k
theorem aaH {k j n : Nat} (h : Bd k n) (hk : k ≤ j) : Bd j n := zD h (yy _ (zV zc hk))
theorem amU {k m n : Nat} (h : Bd k n) (hm : m ≤ n) : Bd k m := zD (abR hm) h
theorem aaW {k m n : Nat} (h1 : Bd k m) (h2 : Bd k n) : Bd (k + 1) (m * n) := by
 have := af6 m n
 unfold Bd at *
 rw [yC]
 omega
theorem aaZ {k m n : Nat} (h1 : Bd k m) (h2 : Bd k n) : Bd (k + 1) (m + n) := by
 have := aiL m n
 have h3 : 1 ≤ 4 ^ k := xn zc
 unfold Bd at *
 rw [yC]
 omega
theorem aaS {k m : Nat} (n : Nat) (h1 : Bd k m) : Bd k (m / n) := amU h1 (xB _ _)
theorem aa1 {k m : Nat} (n : Nat) (h1 : Bd k m) : Bd k (m % n) := amU h1 (Nat.mod_le _ _)
theorem aaY {k m n : Nat} (h1 : Bd k m) (h2 : Bd k n) : Bd k (Nat.gcd m n) := by
 rcases zF m with h | h
 ·subst h; rw [Nat.gcd_zero_left]; exact h2
 ·exact amU h1 (Nat.gcd_le_left _ h)
theorem aaD {k : Nat} {a b : Int} (h1 : Bd k a.natAbs) (h2 : Bd k b.natAbs) : Bd (k + 1) (a + b).natAbs := amU (aaZ h1 h2) (Int.natAbs_add_le a b)
theorem aaB {k : Nat} {a b : Int} (h1 : Bd k a.natAbs) (h2 : Bd k b.natAbs) : Bd (k + 1) (a * b).natAbs := by rw [yF]; exact aaW h1 h2
theorem aaV {k : Nat} {a : Int} (h1 : Bd k a.natAbs) : Bd k (-a).natAbs := by rw [xH]; exact h1
theorem aaP {k n : Nat} (h : Bd k n) : Bd k (n : Int).natAbs := h
theorem aaG {n : Nat} (h : n < 1000000000000000000000000000) : Bd 0 n := by
 unfold Bd
 have : (mag n).length ≤ 3 := mag_length_le_iff.2 zc
 omega
theorem zd {p : Prop} (h : p := by repeat (first | assumption | exact aaH (by assumption) (by omega) | exact aaG (by omega) | refine aaY ?_ ?_ | refine aaS _ ?_ | refine aa1 _ ?_ | refine aaD ?_ ?_ | refine aaB ?_ ?_ | refine aaV ?_ | refine aaW ?_ ?_ | refine aaZ ?_ ?_ | refine aaP ?_)) : p := h
theorem aiM {n k : Nat} (h : (aa2 n).length ≤ k) : (mag n).length ≤ k := by
 rw [mag_length_le_iff]
 have h1 := afM n
 have h2 : (10 : Nat) ^ (aa2 n).length ≤ 10 ^ (9 * k) := zV zc zc
 have h3 : (10 : Nat) ^ (9 * k) = 1000000000 ^ k := by rw [xM]
 omega
theorem aiP {n k : Nat} (h : (mag n).length ≤ k) : (aa2 n).length ≤ 9 * k + 1 := by
 rw [mag_length_le_iff] at h
 have h3 : (10 : Nat) ^ (9 * k) = 1000000000 ^ k := by rw [xM]
 have h4 : (10 : Nat) ^ (9 * k) ≤ 10 ^ (9 * k + 1) := zV zc zc
 exact acG zc
theorem aQW {n : Nat} (h : (aa2 n).length ≤ 1000000) : Bd 0 n := aiM h
@[reducible] def sg (z : Int) : List Int × Bool × Unit := (mag z.natAbs, decide (z < 0), ())
theorem aoU {a b : Int} (h : sg a = sg b) : a = b := by
 obtain ⟨h1, h2⟩ := Prod.mk.inj h
 obtain ⟨h2, -⟩ := Prod.mk.inj h2
 have := adK h1
 simp only [decide_eq_decide] at h2
 omega
@[reducible] def rt (q : Rat) : (List Int × Bool × Unit) × List Int × Unit := (sg q.num, mag q.den, ())
theorem ay3 {a b : Rat} (h : rt a = rt b) : a = b := by
 obtain ⟨h1, h2⟩ := Prod.mk.inj h
 obtain ⟨h2, -⟩ := Prod.mk.inj h2
 exact Rat.ext (aoU h1) (adK h2)
@[reducible] def fx (q : Rat) : List UInt8 × List UInt8 × Unit := (dec q.num, aa2 q.den, ())
theorem avU {a b : Rat} (h : fx a = fx b) : a = b := by
 obtain ⟨h1, h2⟩ := Prod.mk.inj h
 obtain ⟨h2, -⟩ := Prod.mk.inj h2
 exact Rat.ext (aj6 h1) (ah6 h2)
def Fit (z : Int) : Prop := (aa2 z.natAbs).length ≤ 600
instance (z : Int) : Decidable (Fit z) := inferInstanceAs (Decidable (_ ≤ _))
def ac1 (q : Rat) : Prop := Fit q.num ∧ Fit q.den
instance (q : Rat) : Decidable (ac1 q) := inferInstanceAs (Decidable (_ ∧ _))
theorem apY {z : Int} (h : Fit z) : Bd 0 z.natAbs := aQW (zD h zc)
noncomputable def rdW (s : List UInt8) : Option Int := open Classical in if h : ∃ z : Int, Fit z ∧ dec z = s then some h.choose else none
theorem ak1 {z : Int} (h : Fit z) : rdW (dec z) = some z := by
 have hex : ∃ w : Int, Fit w ∧ dec w = dec z := ⟨z, h, rfl⟩
 unfold rdW
 rw [dif_pos hex, aj6 hex.choose_spec.2]
theorem aeH {s : List UInt8} {z : Int} (h : rdW s = some z) : Fit z ∧ s = dec z := by
 unfold rdW at h
 split at h
 ·rename_i hex
  injection h with h
  subst h
  exact ⟨hex.choose_spec.1, hex.choose_spec.2.symm⟩
 ·cases h
theorem aGB {s : List UInt8} (h : ∀ z : Int, Fit z → dec z ≠ s) : rdW s = none := by
 unfold rdW
 rw [dif_neg (fun ⟨z, h1, h2⟩ => h z h1 h2)]
noncomputable def rdF (s : List UInt8 × List UInt8 × Unit) : Option Rat := open Classical in if h : ∃ q : Rat, ac1 q ∧ fx q = s then some h.choose else none
theorem afI {q : Rat} (h : ac1 q) : rdF (fx q) = some q := by
 have hex : ∃ w : Rat, ac1 w ∧ fx w = fx q := ⟨q, h, rfl⟩
 unfold rdF
 rw [dif_pos hex, avU hex.choose_spec.2]
theorem agR {s : List UInt8 × List UInt8 × Unit} {q : Rat} (h : rdF s = some q) : ac1 q ∧ s = fx q := by
 unfold rdF at h
 split at h
 ·rename_i hex
  injection h with h
  subst h
  exact ⟨hex.choose_spec.1, hex.choose_spec.2.symm⟩
 ·cases h
theorem aAP {s : List UInt8 × List UInt8 × Unit} (h : ∀ q : Rat, ac1 q → fx q ≠ s) : rdF s = none := by
 unfold rdF
 rw [dif_neg (fun ⟨z, h1, h2⟩ => h z h1 h2)]
def wrW (z : Int) : List UInt8 × Int × Unit := if Fit z then (dec z, 0, ()) else ([], 6, ())
def wrF (q : Rat) : (List UInt8 × List UInt8 × Unit) × Int × Unit := if ac1 q then (fx q, 0, ()) else (([], [], ()), 6, ())
def abX (x : List UInt8 × List UInt8 × Unit) : Option (List UInt8 × Bool × Unit) := some (if x.2.1.isPrefixOf x.1 then (x.1.drop x.2.1.length, true, ()) else (x.1, false, ()))
theorem aqN (n : Nat) : ac6 (mag n, ()) = some (decide (n = 0), ()) := by
 unfold ac6
 rcases zF n with h | h
 ·subst h; simp [mag_zero, len]
 ·have : (mag n) ≠ [] := fun h2 => by have := mag_nil_iff.1 h2; omega
  have h3 : (mag n).length ≠ 0 := fun h2 => this (zU.1 h2)
  have : (len (mag n) == 0) = false := by rw [aaC, beq_eq_false_iff_ne]; omega
  rw [this, zn zc]
theorem atK {a b : Nat} (h1 : Bd 8 a) (h2 : Bd 8 b) : adO (mag a, mag b, ()) = some (atE a b, ()) := aaI (enc := fun p : Nat × Nat => (mag p.1, mag p.2, ())) (a, b) ⟨zD h1 zf, zD h2 zf⟩ (fun b hb => adB hb)
theorem aEh {a b : Nat} (h1 : Bd 8 a) (h2 : Bd 8 b) : alU (mag a, mag b, ()) = some (mag (a + b), ()) := aaI (enc := fun p : Nat × Nat => (mag p.1, mag p.2, ())) (a, b) ⟨zD h1 zf, zD h2 zf⟩ (fun b hb => adB hb)
theorem aAr {a b : Nat} (h1 : Bd 8 a) (h2 : b ≤ a) : ajH (mag a, mag b, ()) = some (mag (a - b), ()) := aaI (enc := fun p : Nat × Nat => (mag p.1, mag p.2, ())) (a, b) ⟨zD h1 zf, h2⟩ (fun b hb => adB hb)
theorem ag3 {a b : Nat} (h1 : Bd 8 a) (h2 : Bd 8 b) : acB (mag a, mag b, ()) = some (mag (a * b), ()) := aaI (enc := fun p : Nat × Nat => (mag p.1, mag p.2, ())) (a, b) ⟨zD h1 zf, zD h2 zf⟩ (fun b hb => adB hb)
theorem aB6 {n : Nat} (h : n < 18446744073709551616) : abN ((n : Int), ()) = some (mag n, ()) := by
 unfold abN
 rw [if_pos zm]
 simp
theorem aJy {n : Nat} (h : Bd 8 n) : ag2 (aa2 n, ()) = some (mag n, ()) := by
 unfold ag2
 have hl : (aa2 n).length ≤ 1000000000000 :=  zD (aiP h) zf
 rw [if_pos ⟨aj7 n, aeP n, hl⟩]
 simp only [amF]
theorem axS {n : Nat} (h : Bd 8 n) : ahQ (mag n, ()) = some (((aa2 n).length : Int), ()) := aaI (enc := fun n : Nat => (mag n, ())) n (zD h zf) (fun b hb => adK (Prod.mk.inj hb).1)
theorem aoM {n : Nat} (h : Bd 0 n) : ahR (mag n, ()) = some (aa2 n, ()) := aaI (enc := fun n : Nat => (mag n, ())) n (zD h zf) (fun b hb => adK (Prod.mk.inj hb).1)
theorem ab3 {a b : Nat} (h1 : Bd 8 a) (h2 : Bd 8 b) (h3 : b ≠ 0) : abC (mag a, mag b, ()) = some (mag (a / b), mag (a % b), ()) := aaI (enc := fun p : Nat × Nat => (mag p.1, mag p.2, ())) (a, b) ⟨zD h1 zf, zD h2 zf, h3⟩ (fun b hb => adB hb)
theorem am5 {a b : Nat} (h1 : Bd 8 a) (h2 : Bd 8 b) : agX (mag a, mag b, ()) = some (mag (Nat.gcd a b), ()) := aaI (enc := fun p : Nat × Nat => (mag p.1, mag p.2, ())) (a, b) ⟨zD h1 zf, zD h2 zf⟩ (fun b hb => adB hb)
theorem axK (n : Nat) : ahN (mag n, ()) = some (decide (n = 0), ()) := by
 unfold ahN
 rcases zF n with h | h
 ·subst h; simp [mag_zero, len]
 ·have : (mag n) ≠ [] := fun h2 => by have := mag_nil_iff.1 h2; omega
  have h3 : (mag n).length ≠ 0 := fun h2 => this (zU.1 h2)
  have : (len (mag n) == 0) = false := by rw [aaC, beq_eq_false_iff_ne]; omega
  rw [this, zn zc]
theorem aEd {a b : Nat} (h1 : Bd 8 a) (h2 : Bd 8 b) : alR (mag a, mag b, ()) = some (atE a b, ()) := aaI (enc := fun p : Nat × Nat => (mag p.1, mag p.2, ())) (a, b) ⟨zD h1 zf, zD h2 zf⟩ (fun b hb => adB hb)
theorem aEc {a b : Nat} (h1 : Bd 8 a) (h2 : Bd 8 b) : ap4 (mag a, mag b, ()) = some (mag (a + b), ()) := aaI (enc := fun p : Nat × Nat => (mag p.1, mag p.2, ())) (a, b) ⟨zD h1 zf, zD h2 zf⟩ (fun b hb => adB hb)
theorem aJs {a b : Nat} (h1 : Bd 8 a) (h2 : b ≤ a) : asB (mag a, mag b, ()) = some (mag (a - b), ()) := aaI (enc := fun p : Nat × Nat => (mag p.1, mag p.2, ())) (a, b) ⟨zD h1 zf, h2⟩ (fun b hb => adB hb)
theorem asG {a b : Nat} (h1 : Bd 8 a) (h2 : Bd 8 b) : ai9 (mag a, mag b, ()) = some (mag (a * b), ()) := aaI (enc := fun p : Nat × Nat => (mag p.1, mag p.2, ())) (a, b) ⟨zD h1 zf, zD h2 zf⟩ (fun b hb => adB hb)
theorem aJr {a d : Nat} (h1 : Bd 8 a) (h2 : 0 < d) (h3 : d < 4294967296) : asA (mag a, (d : Int), ()) = some (mag (a / d), ((a % d : Nat) : Int), ()) := by
 refine aaI (enc := fun p : Nat × Nat => (mag p.1, (p.2 : Int), ())) (a, d) ⟨zD h1 zf, h2, h3⟩ (fun b hb => ?_)
 obtain ⟨e1, e2⟩ := Prod.mk.inj hb
 obtain ⟨e2, -⟩ := Prod.mk.inj e2
 exact Prod.ext (adK e1) (Int.ofNat.inj e2)
theorem aB1 {n : Nat} (h : n < 18446744073709551616) : agW ((n : Int), ()) = some (mag n, ()) := by
 unfold agW
 rw [if_pos zm]
 simp
theorem axL {n : Nat} (h : Bd 8 n) : akG (mag n, ()) = some (((aa2 n).length : Int), ()) := aaI (enc := fun n : Nat => (mag n, ())) n (zD h zf) (fun b hb => adK (Prod.mk.inj hb).1)
theorem axN {n : Nat} (h : Bd 0 n) : akI (mag n, ()) = some (aa2 n, ()) := aaI (enc := fun n : Nat => (mag n, ())) n (zD h zf) (fun b hb => adK (Prod.mk.inj hb).1)
theorem axM {a b : Nat} (h1 : Bd 8 a) (h2 : Bd 8 b) (h3 : b ≠ 0) : akH (mag a, mag b, ()) = some (mag (a / b), mag (a % b), ()) := aaI (enc := fun p : Nat × Nat => (mag p.1, mag p.2, ())) (a, b) ⟨zD h1 zf, zD h2 zf, h3⟩ (fun b hb => adB hb)
abbrev SgT := List Int × Bool × Unit
abbrev RtT := (List Int × Bool × Unit) × List Int × Unit
abbrev FxT := List UInt8 × List UInt8 × Unit
def BdQ (k : Nat) (q : Rat) : Prop := Bd k q.num.natAbs ∧ Bd k q.den
def axZ (p q : Rat) : Int := if p < q then -1 else if p = q then 0 else 1
def fl (q : Rat) : Int := q.num / q.den
def ao8 (q : Rat) (s : Nat) : Int := fl (q * (s : Rat) + mkRat 1 2)
def ofQ (n d : Int) : FxT × Int × Unit := if d = 0 then (([], [], ()), 7, ()) else wrF (Rat.divInt n d)
def abD (z : Int) : Prop := -9223372036854775808 ≤ z ∧ z ≤ 9223372036854775807
instance (z : Int) : Decidable (abD z) := inferInstanceAs (Decidable (_ ∧ _))
def aa9 (x : List Int × Bool × Unit) : Option (SgT × Unit) := some ((x.1, x.2.1 && !(len x.1 == 0), ()), ())
def ah9 (x : List Int × Bool × Unit) : Option (SgT × Unit) := some ((x.1, x.2.1 && !(len x.1 == 0), ()), ())
noncomputable def afF : SgT × Unit → Option (SgT × Unit) := ac2 (fun x : Int => (sg x, ())) (fun x => Bd 8 x.natAbs) (fun x => (sg (-x), ()))
noncomputable def ajJ : SgT × Unit → Option (Int × Unit) := ac2 (fun x : Int => (sg x, ())) (fun x => Bd 8 x.natAbs) (fun x => (x.sign, ()))
noncomputable def am2 : SgT × SgT × Unit → Option (SgT × Unit) := ac2 (fun x : Int × Int => (sg x.1, sg x.2, ())) (fun x => Bd 7 x.1.natAbs ∧ Bd 7 x.2.natAbs) (fun x => (sg (x.1 + x.2), ()))
noncomputable def ap2 : SgT × Unit → Option (SgT × Unit) := ac2 (fun x : Int => (sg x, ())) (fun x => Bd 8 x.natAbs) (fun x => (sg (-x), ()))
noncomputable def aHh : SgT × SgT × Unit → Option (SgT × Unit) := ac2 (fun x : Int × Int => (sg x.1, sg x.2, ())) (fun x => Bd 7 x.1.natAbs ∧ Bd 7 x.2.natAbs) (fun x => (sg (x.1 + x.2), ()))
noncomputable def axE : SgT × SgT × Unit → Option (SgT × Unit) := ac2 (fun x : Int × Int => (sg x.1, sg x.2, ())) (fun x => Bd 7 x.1.natAbs ∧ Bd 7 x.2.natAbs) (fun x => (sg (x.1 - x.2), ()))
noncomputable def ah8 : SgT × SgT × Unit → Option (SgT × Unit) := ac2 (fun x : Int × Int => (sg x.1, sg x.2, ())) (fun x => Bd 7 x.1.natAbs ∧ Bd 7 x.2.natAbs) (fun x => (sg (x.1 * x.2), ()))
noncomputable def ajI : SgT × Unit → Option (List UInt8 × Unit) := ac2 (fun x : Int => (sg x, ())) (fun x => Bd 0 x.natAbs) (fun x => (dec x, ()))
noncomputable def adP : SgT × List Int × Unit → Option (SgT × Unit) := ac2 (fun x : Int × Nat => (sg x.1, mag x.2, ())) (fun x => Bd 7 x.1.natAbs ∧ Bd 7 x.2) (fun x => (sg (x.1 * x.2), ()))
noncomputable def ajK : SgT × List Int × Unit → Option (SgT × Unit) := ac2 (fun x : Int × Nat => (sg x.1, mag x.2, ())) (fun x => Bd 7 x.1.natAbs ∧ Bd 7 x.2 ∧ x.2 ≠ 0) (fun x => (sg (x.1 / x.2), ()))
noncomputable def afX : List UInt8 × Unit → Option (SgT × Unit) := ac2 (fun x : Int => (dec x, ())) (fun x => Bd 7 x.natAbs) (fun x => (sg x, ()))
noncomputable def afB (x : List UInt8 × Unit) : Option (SgT × Bool × Unit) := some (match rdW x.1 with | some z => (sg z, true, ()) | none => (([], false, ()), false, ()))
noncomputable def afD (x : List UInt8 × Unit) : Option (Int × Unit) := some (if (rdW x.1).isSome then 0 else 10, ())
noncomputable def afC (x : List UInt8 × List UInt8 × Unit) : Option (SgT × SgT × Int × Unit) := some (match rdW x.1, rdW x.2.1 with | some z, some w => (sg z, sg w, 0, ()) | _, _ => (([], false, ()), ([], false, ()), 10, ()))
noncomputable def acU : SgT × Unit → Option (List UInt8 × Int × Unit) := ac2 (fun x : Int => (sg x, ())) (fun x => Bd 8 x.natAbs) (fun x => wrW x)
noncomputable def aeW : RtT × Unit → Option (FxT × Int × Unit) := ac2 (fun x : Rat => (rt x, ())) (fun x => BdQ 8 x) (fun x => wrF x)
noncomputable def akM : SgT × List Int × Unit → Option (RtT × Unit) := ac2 (fun x : Int × Nat => (sg x.1, mag x.2, ())) (fun x => Bd 7 x.1.natAbs ∧ Bd 7 x.2 ∧ x.2 ≠ 0) (fun x => (rt (mkRat x.1 x.2), ()))
noncomputable def aiB : RtT × Unit → Option (RtT × Unit) := ac2 (fun x : Rat => (rt x, ())) (fun x => BdQ 7 x) (fun x => (rt (-x), ()))
noncomputable def aiC : RtT × Unit → Option (RtT × Unit) := ac2 (fun x : Rat => (rt x, ())) (fun x => BdQ 7 x ∧ x ≠ 0) (fun x => (rt x⁻¹, ()))
noncomputable def aqF : RtT × RtT × Unit → Option (RtT × Unit) := ac2 (fun x : Rat × Rat => (rt x.1, rt x.2, ())) (fun x => BdQ 3 x.1 ∧ BdQ 3 x.2) (fun x => (rt (x.1 + x.2), ()))
noncomputable def auE : RtT × RtT × Unit → Option (RtT × Unit) := ac2 (fun x : Rat × Rat => (rt x.1, rt x.2, ())) (fun x => BdQ 3 x.1 ∧ BdQ 3 x.2) (fun x => (rt (x.1 - x.2), ()))
noncomputable def aqE : RtT × RtT × Unit → Option (RtT × Unit) := ac2 (fun x : Rat × Rat => (rt x.1, rt x.2, ())) (fun x => BdQ 3 x.1 ∧ BdQ 3 x.2) (fun x => (rt (x.1 * x.2), ()))
noncomputable def am0 : RtT × RtT × Unit → Option (Int × Unit) := ac2 (fun x : Rat × Rat => (rt x.1, rt x.2, ())) (fun x => BdQ 3 x.1 ∧ BdQ 3 x.2) (fun x => (axZ x.1 x.2, ()))
noncomputable def aqD : RtT × List Int × Unit → Option (SgT × Unit) := ac2 (fun x : Rat × Nat => (rt x.1, mag x.2, ())) (fun x => BdQ 1 x.1 ∧ Bd 1 x.2) (fun x => (sg (ao8 x.1 x.2), ()))
noncomputable def abM (x : FxT × Unit) : Option (RtT × Bool × Unit) := some (match rdF x.1 with | some q => (rt q, true, ()) | none => ((([], false, ()), [], ()), false, ()))
noncomputable def aqI (x : FxT × Unit) : Option (Int × Unit) := some (if (rdF x.1).isSome then 0 else 20, ())
noncomputable def aqH (x : List UInt8 × List UInt8 × Unit) : Option (FxT × Int × Unit) := some (match rdW x.1, rdW x.2.1 with | some n, some d => ofQ n d | _, _ => (([], [], ()), 10, ()))
noncomputable def alV (x : Int × Int × Unit) : Option (FxT × Int × Unit) := if abD x.1 ∧ abD x.2.1 then some (ofQ x.1 x.2.1) else none
noncomputable def aqG (x : FxT × Unit) : Option (Int × Int × Unit) := some (match rdF x.1 with | some q => (q.num.sign, 0, ()) | none => (0, 20, ()))
noncomputable def ahS (x : FxT × FxT × Unit) : Option (Int × Int × Unit) := some (match rdF x.1, rdF x.2.1 with | some p, some q => (axZ p q, 0, ()) | _, _ => (0, 20, ()))
noncomputable def aKK (f : Rat → Rat → Rat) (x : FxT × FxT × Unit) : FxT × Int × Unit := match rdF x.1, rdF x.2.1 with | some p, some q => wrF (f p q) | _, _ => (([], [], ()), 20, ())
noncomputable def adQ (x : FxT × FxT × Unit) : Option (FxT × Int × Unit) := some (aKK (· + ·) x)
noncomputable def afY (x : FxT × FxT × Unit) : Option (FxT × Int × Unit) := some (aKK (· - ·) x)
noncomputable def ac9 (x : FxT × FxT × Unit) : Option (FxT × Int × Unit) := some (aKK (· * ·) x)
noncomputable def afG (x : FxT × FxT × Unit) : Option (FxT × Int × Unit) := some (match rdF x.1, rdF x.2.1 with | some p, some q => if q = 0 then (([], [], ()), 7, ()) else wrF (p / q) | _, _ => (([], [], ()), 20, ()))
noncomputable def ajL (x : FxT × Unit) : Option (List UInt8 × Int × Unit) := some (match rdF x.1 with | some q => (dec (fl q), 0, ()) | none => ([], 20, ()))
noncomputable def akN (x : FxT × Int × Unit) : Option (Int × Int × Unit) := some (match rdF x.1 with | some q => if x.2.1 < 1 ∨ x.2.1 > 1000000000000 then (0, 2, ()) else if abD (ao8 q x.2.1.toNat) then (ao8 q x.2.1.toNat, 0, ()) else (0, 6, ()) | none => (0, 20, ()))
noncomputable def atJ (x : Int × Unit) : Option (List UInt8 × Unit) := if abD x.1 then some (dec x.1, ()) else none
noncomputable def akK (x : List UInt8 × Unit) : Option (Int × Int × Unit) := some (match rdW x.1 with | some z => if abD z then (z, 0, ()) else (0, 6, ()) | none => (0, 10, ()))
noncomputable def asC (x : List UInt8 × List UInt8 × Unit) : Option (List UInt8 × Int × Unit) := some (match rdW x.1, rdW x.2.1 with | some z, some w => wrW (z * w) | _, _ => ([], 10, ()))
noncomputable def asD (x : List UInt8 × List UInt8 × Unit) : Option (List UInt8 × List UInt8 × Int × Unit) := some (match rdW x.1, rdW x.2.1 with | some z, some w => if w = 0 then ([], [], 7, ()) else (dec (z / w), dec (z % w), 0, ()) | _, _ => ([], [], 10, ()))
noncomputable def alS (x : List UInt8 × Int × Unit) : Option (List UInt8 × Int × Unit) := some (match rdW x.1 with | some z => if x.2.1 < 0 ∨ x.2.1 > 40 then ([], 2, ()) else wrW (z ^ x.2.1.toNat) | none => ([], 10, ()))
noncomputable def adN (k n : Nat) : Nat := open Classical in if h : ∃ r, r ^ k ≤ n ∧ n < (r + 1) ^ k then h.choose else 0
noncomputable def ap5 (x : List UInt8 × Int × Unit) : Option (List UInt8 × Int × Unit) := some (match rdW x.1 with | some z => if x.2.1 < 1 ∨ x.2.1 > 12 ∨ z < 0 then ([], 2, ()) else wrW (adN x.2.1.toNat z.natAbs) | none => ([], 10, ()))
noncomputable def akJ : Int × Unit → Option (List Int × Unit) := ac2 (fun x : Nat => ((x : Int), ())) (fun x => x ≤ 100000000) (fun x => (mag (10 ^ x), ()))
noncomputable def ajA : List Int × Int × Unit → Option (List Int × Unit) := ac2 (fun x : Nat × Nat => (mag x.1, (x.2 : Int), ())) (fun x => Bd 2 x.1 ∧ x.2 ≤ 40) (fun x => (mag (x.1 ^ x.2), ()))
noncomputable def ap3 : List Int × Int × Unit → Option (List Int × Unit) := ac2 (fun x : Nat × Nat => (mag x.1, (x.2 : Int), ())) (fun x => Bd 0 x.1 ∧ 1 ≤ x.2 ∧ x.2 ≤ 12) (fun x => (mag (adN x.2 x.1), ()))
noncomputable def aMQ : List UInt8 × Unit → Option (Int × Bool × Unit) := ac2 (fun z : Int => (dec z, ())) abD (fun z => (z, false, ()))
theorem aQ3 {z : Int} (h : abD z) : aMQ (dec z, ()) = some (z, false, ()) := aaI (enc := fun z : Int => (dec z, ())) z h (fun b hb => aj6 (Prod.mk.inj hb).1)
open Classical in
noncomputable def aMP : List UInt8 × Int × Int × Unit → Option (Int × Bool × Unit) := ac2 (fun z : Int => (dec z, 10, 64, ())) (fun z => (dec z).length ≤ 1000000000) (fun z => if abD z then (z, false, ()) else (if z < 0 then -9223372036854775808 else 9223372036854775807, true, ()))
open Classical in
theorem aQ1 {z : Int} (h : (dec z).length ≤ 1000000000) : aMP (dec z, 10, 64, ()) = some (if abD z then (z, false, ()) else (if z < 0 then -9223372036854775808 else 9223372036854775807, true, ())) :=
 aaI (enc := fun z : Int => (dec z, (10 : Int), (64 : Int), ())) z h (fun b hb => aj6 (Prod.mk.inj hb).1)
theorem aPK (s : List UInt8) (a : Nat) : a ≤ ax0 a s := by
 rw [aK8]
 have := Nat.le_mul_of_pos_right a (show 0 < 10 ^ s.length from xn zc)
 omega
theorem ayX : ∀ {s : List UInt8} {a : Nat}, isD s → a < 18446744073709551616 → Lib.parseUint10 a s = if ax0 a s < 18446744073709551616 then .ok (ax0 a s) else .range
 | [], a, _, ha => by
  rw [show ax0 a [] = a from rfl, if_pos ha]
  rfl
 | c :: s, a, h, ha => by
  have hc := h c zi
  have hs : isD s := fun d hd => h d (by simp [hd])
  have hge := aPK s (a * 10 + dv c)
  rw [agF]
  simp only [Lib.parseUint10]
  rw [if_pos hc]
  have hdv : dv c = c.toNat - 48 := rfl
  by_cases h1 : 1844674407370955162 ≤ a
  ·rw [if_pos h1, if_neg zc]
  ·rw [if_neg h1]
   by_cases h2 : 18446744073709551616 ≤ a * 10 + (c.toNat - 48)
   ·rw [if_pos h2, if_neg zc]
   ·rw [if_neg h2]
    exact ayX hs zc
theorem aoX (n : Nat) : Lib.parseMag (aa2 n) = if n < 18446744073709551616 then .ok n else .range := by
 unfold Lib.parseMag
 rw [if_neg (aeP n), ayX (aj7 n) zc]
 have : ax0 0 (aa2 n) = n := amF n
 rw [this]
theorem aMd (n : Nat) : ∃ c r, aa2 n = c :: r ∧ 48 ≤ c.toNat ∧ c.toNat ≤ 57 := by
 cases h : aa2 n with
 | nil => exact absurd h (aeP n)
 | cons c r => exact ⟨c, r, rfl, aj7 n c (by rw [h]; simp)⟩
open Classical in
theorem aBX (z : Int) : Lib.atoiAll (dec z) = if abD z then .ok z else .range := by
 unfold dec
 by_cases hz : z < 0
 ·rw [if_pos hz]
  rw [Lib.atoiAll_minus, aoX]
  by_cases h1 : z.natAbs < 18446744073709551616
  ·rw [if_pos h1]
   simp only [Lib.signed]
   by_cases h2 : 9223372036854775808 < z.natAbs
   ·rw [if_pos h2, if_neg (fun h => by have := h.1; omega)]
   ·rw [if_neg h2, if_pos ⟨by omega, by omega⟩]
    congr 1
    omega
  ·rw [if_neg h1, if_neg (fun h => by have := h.1; omega)]
   rfl
 ·rw [if_neg hz]
  obtain ⟨c, r, e, c1, c2⟩ := aMd z.natAbs
  have hp := aoX z.natAbs
  rw [e] at hp ⊢
  rw [Lib.atoiAll_plain _ _ zc zc, hp]
  by_cases h1 : z.natAbs < 18446744073709551616
  ·rw [if_pos h1]
   simp only [Lib.signless]
   by_cases h2 : 9223372036854775808 ≤ z.natAbs
   ·rw [if_pos h2, if_neg (fun h => by have := h.2; omega)]
   ·rw [if_neg h2, if_pos ⟨by omega, by omega⟩]
    congr 1
    omega
  ·rw [if_neg h1, if_neg (fun h => by have := h.2; omega)]
   rfl
theorem aGg (z : Int) : Lib.atoiSat (dec z) = if z < 0 then -9223372036854775808 else 9223372036854775807 := by
 unfold dec Lib.atoiSat
 by_cases hz : z < 0
 ·rw [if_pos hz, if_pos hz]
  exact if_pos rfl
 ·rw [if_neg hz, if_neg hz]
  obtain ⟨c, r, e, c1, c2⟩ := aMd z.natAbs
  rw [e, if_neg]
  simp only [vj, wA, Option.some.injEq]
  omega
theorem aOh (z : Int) : Lib.itoa z = dec z := by
 unfold Lib.itoa dec aa2
 by_cases hz : z < 0
 ·rw [if_pos hz, if_pos hz]
 ·rw [if_neg hz, if_neg hz]
  congr 1
  omega
theorem auW (s : List UInt8) : ∀ n, Lib.repeatL s n = (List.replicate n s).flatten
 | 0 => rfl
 | n + 1 => by rw [Lib.repeatL, auW s n, xk, List.flatten_cons]
end Go.Vs
namespace Go.Vg
abbrev TT.tt {α : Type} (x : TT α) : TT α := .triv (true = true) rfl x
abbrev TT.tr {α : Type} (x : TT α) : TT α := .triv True trivial x
abbrev TT.vQ {α : Type} (p : Prop) (x : TT α) (h : p := by repeat' constructor) : TT α := .triv p h x
end Go.Vg
namespace Go.Vs
open Go Go.Vg
abbrev Qq {α : Sort _} (x : α) : Prop := x = x
theorem tv {p : Prop} (h : p := by repeat' constructor) : p := h
abbrev vZ {α₁ : Sort _} (a : α₁) : Prop := Qq a ∧ True
abbrev uc {α₁ α₂ : Sort _} (a : α₁) (b : α₂) : Prop := Qq a ∧ Qq b ∧ True
abbrev vT {α₁ α₂ α₃ : Sort _} (a : α₁) (b : α₂) (c : α₃) : Prop := Qq a ∧ Qq b ∧ Qq c ∧ True
abbrev vS {α₁ α₂ α₃ α₄ : Sort _} (a : α₁) (b : α₂) (c : α₃) (d : α₄) : Prop := Qq a ∧ Qq b ∧ Qq c ∧ Qq d ∧ True
abbrev ug {α₁ α₂ α₃ α₄ α₅ α₆ : Sort _} (a : α₁) (b : α₂) (c : α₃) (d : α₄) (e : α₅) (f : α₆) : Prop := Qq a ∧ Qq b ∧ Qq c ∧ Qq d ∧ Qq e ∧ Qq f ∧ True
abbrev vU {α₁ α₂ : Sort _} (a : α₁) (b : α₂) : Prop := Qq a ∧ Qq b
abbrev ue {α₁ α₂ α₃ : Sort _} (a : α₁) (b : α₂) (c : α₃) : Prop := Qq a ∧ Qq b ∧ Qq c
abbrev vV {α₁ α₂ α₃ α₄ : Sort _} (a : α₁) (b : α₂) (c : α₃) (d : α₄) : Prop := Qq a ∧ Qq b ∧ Qq c ∧ Qq d
abbrev vR {α₁ : Sort _} (a : α₁) (R : Prop) : Prop := Qq a ∧ R
abbrev vX {α₁ α₂ : Sort _} (a : α₁) (b : α₂) (R : Prop) : Prop := Qq a ∧ Qq b ∧ R
abbrev ub {α₁ α₂ α₃ : Sort _} (a : α₁) (b : α₂) (c : α₃) (R : Prop) : Prop := Qq a ∧ Qq b ∧ Qq c ∧ R
abbrev vY {α₁ α₂ α₃ α₄ : Sort _} (a : α₁) (b : α₂) (c : α₃) (d : α₄) (R : Prop) : Prop := Qq a ∧ Qq b ∧ Qq c ∧ Qq d ∧ R
abbrev vW {α₁ α₂ α₃ α₄ α₅ : Sort _} (a : α₁) (b : α₂) (c : α₃) (d : α₄) (e : α₅) (R : Prop) : Prop := Qq a ∧ Qq b ∧ Qq c ∧ Qq d ∧ Qq e ∧ R
abbrev uf {α₁ α₂ α₃ α₄ α₅ α₆ : Sort _} (a : α₁) (b : α₂) (c : α₃) (d : α₄) (e : α₅) (f : α₆) (R : Prop) : Prop := Qq a ∧ Qq b ∧ Qq c ∧ Qq d ∧ Qq e ∧ Qq f ∧ R
abbrev ud {α₁ α₂ α₃ α₄ α₅ α₆ α₇ : Sort _} (a : α₁) (b : α₂) (c : α₃) (d : α₄) (e : α₅) (f : α₆) (g : α₇) (R : Prop) : Prop := Qq a ∧ Qq b ∧ Qq c ∧ Qq d ∧ Qq e ∧ Qq f ∧ Qq g ∧ R
abbrev ua {α₁ α₂ α₃ α₄ α₅ α₆ α₇ α₈ : Sort _} (a : α₁) (b : α₂) (c : α₃) (d : α₄) (e : α₅) (f : α₆) (g : α₇) (h : α₈) (R : Prop) : Prop := Qq a ∧ Qq b ∧ Qq c ∧ Qq d ∧ Qq e ∧ Qq f ∧ Qq g ∧ Qq h ∧ R
abbrev vP (a R : Prop) : Prop := a ∧ Qq true ∧ R
abbrev un : Prop := ue 0 0 true
abbrev uo : Prop := vT 53 (0 : Int) (0 : Int)
abbrev uw : Prop := ue 1 0 true
abbrev ux : Prop := vX 83 false <| True ∧ True
abbrev uz : Prop := ue 3 0 true
abbrev uA : Prop := vX 42 (3 : Int) <| True ∧ (vV 11 0 1 true) ∧ True
abbrev uM : Prop := ue 2 0 true
abbrev uW : Prop := uz ∧ uw ∧ un ∧ True
abbrev uY : Prop := ue 4 0 true
abbrev uZ : Prop := vX 42 (2 : Int) <| True ∧ True ∧ True
abbrev tw : Prop := vV 4 0 1 true
abbrev tA : Prop := vU 11 true
abbrev tE : Prop := ue 7 0 true
abbrev tH : Prop := uc 48 (0 : Int)
abbrev tJ : Prop := vP (vR 212 <| True ∧ vZ false) True
abbrev tO : Prop := (ue 15 0 true) ∧ (uY ∧ (vR (0 : Int) <| uM ∧ True))
abbrev tW : Prop := vV 5 0 1 true
abbrev tY : Prop := vP ux True
abbrev tZ : Prop := vR 169 <| True ∧ True
abbrev Dd0 := Ty.dflt tR
abbrev Dd1 := Ty.dflt uQ
abbrev Dd2 := Ty.dflt (Ty.pair Ty.str Ty.unit)
abbrev Dd3 := Ty.dflt (Ty.pair uI Ty.unit)
abbrev Dd4 := Ty.dflt (Ty.pair uX tR)
abbrev Dd5 := Ty.dflt (Ty.pair tN Ty.unit)
abbrev Dd6 := Ty.dflt uP
abbrev Dd7 := Ty.dflt (Ty.pair Ty.str uQ)
abbrev Dd8 := Ty.dflt (Ty.pair (Ty.pair tN tR) Ty.unit)
abbrev Dd9 := Ty.dflt (Ty.pair tN uQ)
abbrev aRy := Ty.dflt (Ty.pair tN (Ty.pair tN uP))
abbrev aGn := Ty.dflt (Ty.pair Ty.str uP)
abbrev aRp := Ty.dflt (Ty.pair uX (Ty.pair ul Ty.unit))
abbrev aHr := Ty.dflt (Ty.pair (Ty.pair tN tR) uQ)
abbrev aeQ := Ty.dflt (Ty.pair tf uP)
abbrev aEl := Ty.dflt tD
abbrev atW := Ty.dflt (Ty.pair tD uP)
abbrev aRx := Ty.dflt (Ty.pair Ty.str (Ty.pair Ty.bool uP))
abbrev aRE := Ty.dflt (Ty.pair Ty.str (Ty.pair Ty.str uP))
abbrev adU := Ty.dflt (Ty.pair tf Ty.unit)
abbrev aEo := Ty.dflt (Ty.pair tP Ty.unit)
abbrev al4 := Ty.dflt (Ty.pair uU Ty.unit)
abbrev aRD := Ty.dflt (Ty.pair tP uP)
abbrev aRw := Ty.dflt (Ty.pair tP (Ty.pair tP Ty.unit))
abbrev aQ8 := Ty.dflt (Ty.pair uU (Ty.pair uU Ty.unit))
abbrev aM3 := Ty.dflt (Ty.pair (Ty.pair uU (Ty.pair uU Ty.unit)) Ty.unit)
abbrev aM0 := Ty.dflt (Ty.pair (Ty.pair ui (Ty.pair tP (Ty.pair (Ty.sl tV) Ty.unit))) Ty.unit)
abbrev aRv := Ty.dflt (Ty.pair ui uQ)
theorem aO3 {q : Rat} {n : Int} {D : Nat} (nz : D ≠ 0) (c : n.natAbs.Coprime D) (h : q = mkRat n D) : q.num = n ∧ q.den = D := by
 rw [h, ← Rat.mk_eq_mkRat n D nz c]; exact ⟨rfl, rfl⟩
theorem aIY {a b : Nat} (h : ∀ k, k ∣ a → k ∣ b → k = 1) : a.Coprime b := h _ (xI a b) (xE a b)
theorem aMg {n1 n2 : Int} {b' d' b : Nat} (h1 : n1.natAbs.Coprime b) (hb : b' ∣ b) (h3 : b'.Coprime d') : (n1 * d' + n2 * b').natAbs.Coprime b' := by
 refine aIY fun k hk hkb => ?_
 have e1 : (k : Int) ∣ n1 * d' + n2 * b' := xO.2 hk
 have e2 : (k : Int) ∣ n2 * b' := Int.dvd_trans (Int.natCast_dvd_natCast.2 hkb) (Int.dvd_mul_left _ _)
 have e3 : (k : Int) ∣ n1 * d' := by
  have := Int.dvd_sub e1 e2
  rwa [Int.add_sub_cancel] at this
 have e4 : k ∣ n1.natAbs * d' := by
  have := xO.1 e3
  rwa [yF] at this
 have e5 : k.Coprime d' := Nat.Coprime.coprime_dvd_left hkb h3
 have e6 := Nat.Coprime.dvd_of_dvd_mul_right e5 e4
 exact Nat.Coprime.eq_one_of_dvd (Nat.Coprime.coprime_dvd_left e6 h1) (Nat.dvd_trans hkb hb)
theorem aD8 (p q : Rat) : ∃ g h : Nat, ∃ top t : Int, g = Nat.gcd p.den q.den ∧ top = p.num * (q.den / g : Nat) + q.num * (p.den / g : Nat) ∧ h = Nat.gcd top.natAbs g ∧ g ≠ 0 ∧ h ≠ 0 ∧ top = h * t ∧ (p + q).num = t ∧ (p + q).den = (p.den / g) * (q.den / h) := by
 obtain ⟨g, hg⟩ : ∃ g, g = Nat.gcd p.den q.den := ⟨_, rfl⟩
 have g0 : 0 < g := by rw [hg]; exact Nat.gcd_pos_of_pos_left _ p.den_pos
 obtain ⟨b', hb⟩ : g ∣ p.den := hg ▸ xI _ _
 obtain ⟨d', hd⟩ : g ∣ q.den := hg ▸ xE _ _
 have hb' : p.den / g = b' := by rw [hb, yq _ g0]
 have hd' : q.den / g = d' := by rw [hd, yq _ g0]
 have hbd : b'.Coprime d' := by
  have := xP (m := p.den) (n := q.den) (by rw [← hg]; exact g0)
  rwa [← hg, hb', hd'] at this
 obtain ⟨top, ht⟩ : ∃ top : Int, top = p.num * (q.den / g : Nat) + q.num * (p.den / g : Nat) := ⟨_, rfl⟩
 obtain ⟨h, hh⟩ : ∃ h, h = Nat.gcd top.natAbs g := ⟨_, rfl⟩
 have h0 : 0 < h := by rw [hh]; exact wx _ g0
 obtain ⟨t, htt⟩ : (h : Int) ∣ top := xO.2 (hh ▸ xI _ _)
 obtain ⟨g', hg'⟩ : h ∣ g := hh ▸ xE _ _
 have c1 : top.natAbs.Coprime b' := by rw [ht, hb', hd']; exact aMg p.reduced ⟨g, by rw [hb, yL]⟩ hbd
 have c2 : top.natAbs.Coprime d' := by rw [ht, hb', hd', Int.add_comm]; exact aMg q.reduced ⟨g, by rw [hd, yL]⟩ hbd.symm
 have c3 : t.natAbs.Coprime g' := by
  have := xP (m := top.natAbs) (n := g) (by rw [← hh]; exact h0)
  rw [← hh, htt, yF, zN, yq _ h0] at this
  conv at this => rhs; rw [hg']
  rwa [yq _ h0] at this
 have ct : t.natAbs ∣ top.natAbs := by rw [htt, yF]; exact Nat.dvd_mul_left _ _
 have e : q.den / h = g' * d' := by rw [hd, hg', wz, yq _ h0]
 have hc : t.natAbs.Coprime (b' * (g' * d')) := Nat.Coprime.mul_right (Nat.Coprime.coprime_dvd_left ct c1) (Nat.Coprime.mul_right c3 (Nat.Coprime.coprime_dvd_left ct c2))
 have nb : b' ≠ 0 := by rintro rfl; exact p.den_nz (by rw [hb]; simp)
 have nd : d' ≠ 0 := by rintro rfl; exact q.den_nz (by rw [hd]; simp)
 have ng : g' ≠ 0 := by rintro rfl; simp at hg'; omega
 have nz : b' * (g' * d') ≠ 0 := xj nb (xj ng nd)
 have hv : p + q = mkRat t (b' * (g' * d')) := by
  rw [Rat.add_def', zX (xj p.den_nz q.den_nz) nz, hb, hd]
  rw [hb', hd', htt] at ht
  simp only [yi]
  have hgz : (g : Int) = h * g' := by rw [hg']; simp
  have e1 : (p.num * ((g : Int) * d') + q.num * ((g : Int) * b')) = (g : Int) * (h * t) := by rw [ht]; grind
  rw [e1, hgz]
  grind
 obtain ⟨r1, r2⟩ := aO3 nz hc hv
 exact ⟨g, h, top, t, hg, ht, hh, by omega, by omega, htt, r1, by rw [r2, hb', e]⟩
theorem aDa (p q : Rat) : ∃ g h : Nat, ∃ s t : Int, g = Nat.gcd p.num.natAbs q.den ∧ h = Nat.gcd q.num.natAbs p.den ∧ g ≠ 0 ∧ h ≠ 0 ∧ p.num = g * s ∧ q.num = h * t ∧ (p * q).num = s * t ∧ (p * q).den = (p.den / h) * (q.den / g) := by
 obtain ⟨g, hg⟩ : ∃ g, g = Nat.gcd p.num.natAbs q.den := ⟨_, rfl⟩
 obtain ⟨h, hh⟩ : ∃ h, h = Nat.gcd q.num.natAbs p.den := ⟨_, rfl⟩
 have g0 : 0 < g := by rw [hg]; exact wx _ q.den_pos
 have h0 : 0 < h := by rw [hh]; exact wx _ p.den_pos
 obtain ⟨s, hs⟩ : (g : Int) ∣ p.num := xO.2 (hg ▸ xI _ _)
 obtain ⟨t, ht⟩ : (h : Int) ∣ q.num := xO.2 (hh ▸ xI _ _)
 obtain ⟨d', hd⟩ : g ∣ q.den := hg ▸ xE _ _
 obtain ⟨b', hb⟩ : h ∣ p.den := hh ▸ xE _ _
 have hb' : p.den / h = b' := by rw [hb, yq _ h0]
 have hd' : q.den / g = d' := by rw [hd, yq _ g0]
 have as1 : p.num.natAbs / g = s.natAbs := by rw [hs, yF, zN, yq _ g0]
 have at' : q.num.natAbs / h = t.natAbs := by rw [ht, yF, zN, yq _ h0]
 have ds : s.natAbs ∣ p.num.natAbs := by rw [hs, yF]; exact Nat.dvd_mul_left _ _
 have dt : t.natAbs ∣ q.num.natAbs := by rw [ht, yF]; exact Nat.dvd_mul_left _ _
 have db : b' ∣ p.den := ⟨h, by rw [hb, yL]⟩
 have dd : d' ∣ q.den := ⟨g, by rw [hd, yL]⟩
 have c1 : s.natAbs.Coprime b' := Nat.Coprime.coprime_dvd_left ds (Nat.Coprime.coprime_dvd_right db p.reduced)
 have c2 : s.natAbs.Coprime d' := by
  have := xP (m := p.num.natAbs) (n := q.den) (by rw [← hg]; exact g0)
  rwa [← hg, as1, hd'] at this
 have c3 : t.natAbs.Coprime d' := Nat.Coprime.coprime_dvd_left dt (Nat.Coprime.coprime_dvd_right dd q.reduced)
 have c4 : t.natAbs.Coprime b' := by
  have := xP (m := q.num.natAbs) (n := p.den) (by rw [← hh]; exact h0)
  rwa [← hh, at', hb'] at this
 have hc : (s * t).natAbs.Coprime (b' * d') := by
  rw [yF]
  exact Nat.Coprime.mul_left (Nat.Coprime.mul_right c1 c2) (Nat.Coprime.mul_right c4 c3)
 have nb : b' ≠ 0 := by rintro rfl; exact p.den_nz (by rw [hb]; simp)
 have nd : d' ≠ 0 := by rintro rfl; exact q.den_nz (by rw [hd]; simp)
 have nz : b' * d' ≠ 0 := xj nb nd
 have hv : p * q = mkRat (s * t) (b' * d') := by
  rw [Rat.mul_def', zX (xj p.den_nz q.den_nz) nz, hs, ht]
  conv => lhs; rw [yi]
  rw [hb, hd]
  simp only [yi]
  grind
 obtain ⟨r1, r2⟩ := aO3 nz hc hv
 exact ⟨g, h, s, t, hg, hh, by omega, by omega, hs, ht, r1, by rw [r2, hb', hd']⟩
theorem aeK (n : Int) {d : Nat} (hd : d ≠ 0) : ∃ g : Nat, ∃ t : Int, g = Nat.gcd n.natAbs d ∧ g ≠ 0 ∧ n = g * t ∧ (mkRat n d).num = t ∧ (mkRat n d).den = d / g := by
 obtain ⟨g, hg⟩ : ∃ g, g = Nat.gcd n.natAbs d := ⟨_, rfl⟩
 have g0 : 0 < g := by rw [hg]; exact wx _ zc
 obtain ⟨t, ht⟩ : (g : Int) ∣ n := xO.2 (hg ▸ xI _ _)
 refine ⟨g, t, hg, by omega, ht, ?_, ?_⟩
 ·rw [Rat.num_mkRat, if_neg hd, xC, ← hg, ht, Int.mul_ediv_cancel_left _ zc]
 ·rw [Rat.den_mkRat, if_neg hd, xC, ← hg]
theorem amN (n : Int) {d : Nat} (hd : d ≠ 0) : fl (mkRat n d) = n / d := by
 obtain ⟨g, t, hg, g0, hn, h1, h2⟩ := aeK n hd
 obtain ⟨d', hd'⟩ : g ∣ d := hg ▸ xE _ _
 have : d / g = d' := by rw [hd', yq _ zc]
 unfold fl
 rw [h1, h2, this, hn, hd', yi, Int.mul_ediv_mul_of_pos _ _ zc]
theorem aLe (q : Rat) (s : Nat) : ao8 q s = (q.num * (s * 2 : Nat) + q.den) / (q.den * 2 : Nat) := by
 unfold ao8
 have h1 : (s : Rat) = mkRat s 1 := by
  have := Rat.mkRat_self (s : Rat)
  rw [Rat.num_natCast, Rat.den_natCast] at this
  exact this.symm
 have h2 : q * (s : Rat) + mkRat 1 2 = mkRat (q.num * (s * 2 : Nat) + q.den) (q.den * 2) := by
  conv => lhs; rw [h1, ← Rat.mkRat_self q]
  rw [yv, yS _ _ (by have := q.den_nz; omega) zc, xy, vm]
  congr 1
  simp only [yi]
  grind
 rw [h2, amN _ (xj q.den_nz zc)]
theorem aPx (p q : Rat) : axZ p q = (p.num * q.den + -(q.num * p.den)).sign := by
 unfold axZ
 simp only [Rat.lt_iff, Rat.eq_iff_mul_eq_mul]
 split
 ·rename_i h; exact (xq zc).symm
 ·split
  ·rename_i h; rw [h, Int.add_right_neg]; rfl
  ·exact (xN zc).symm
theorem aO2 (a b : List UInt8) : rdF (a, b, ()) = match rdW a, rdW b with
  | some n, some d => if h : 0 < d ∧ n.natAbs.Coprime d.natAbs then some ⟨n, d.natAbs, by omega, h.2⟩ else none
  | _, _ => none := by
 cases ha : rdW a with
 | none =>
  refine aAP fun q hq he => ?_
  obtain ⟨h1, -⟩ := Prod.mk.inj he
  rw [← h1, ak1 hq.1] at ha
  cases ha
 | some n =>
  obtain ⟨fa, rfl⟩ := aeH ha
  cases hb : rdW b with
  | none =>
   refine aAP fun q hq he => ?_
   obtain ⟨-, h1⟩ := Prod.mk.inj he
   obtain ⟨h1, -⟩ := Prod.mk.inj h1
   rw [← h1, ← ad7, ak1 hq.2] at hb
   cases hb
  | some d =>
   obtain ⟨fb, rfl⟩ := aeH hb
   simp only
   split
   ·rename_i h
    have e : (dec n, dec d, ()) = fx ⟨n, d.natAbs, by omega, h.2⟩ := by
     unfold fx
     rw [acA (z := d) zc]
    rw [e, afI ⟨fa, ?_⟩]
    unfold Fit at *
    simpa using fb
   ·rename_i h
    refine aAP fun q hq he => h ?_
    obtain ⟨h1, h2⟩ := Prod.mk.inj he
    obtain ⟨h2, -⟩ := Prod.mk.inj h2
    have e1 := aj6 h1
    have e2 : (q.den : Int) = d := aj6 (by rw [ad7]; exact h2)
    rw [← e1, ← e2]
    exact ⟨by have := q.den_pos; omega, q.reduced⟩
abbrev BdT := Int × Int × Unit
def okB (lo hi : Int) : Prop := -1000000000000000000 ≤ lo ∧ lo ≤ hi ∧ hi ≤ 1000000000000000000
instance (lo hi : Int) : Decidable (okB lo hi) := inferInstanceAs (Decidable (_ ∧ _))
def mkB (e lo hi : Int) : BdT × Int × Unit := if okB lo hi then ((lo, hi, ()), 0, ()) else ((0, 0, ()), e, ())
def adS (x : Int × Int × Unit) : Option (Bool × Unit) := some (decide (okB x.1 x.2.1), ())
def aiF (x : Int × Int × Unit) : Option (BdT × Int × Unit) := some (mkB 6 x.1 x.2.1)
def aqK (x : BdT × Unit) : Option (Int × Unit) := some (if okB x.1.1 x.1.2.1 then 0 else 30, ())
def aHj (x : Int × Int × Unit) : Option (BdT × Int × Unit) := some (mkB 30 x.1 x.2.1)
def axF (x : List Int × Unit) : Option (Int × Unit) := match x.1 with | [] => none | a :: l => if l.length ≤ 1000000000000 then some (l.foldl (fun m y => if y < m then y else m) a, ()) else none
def axG (x : List Int × Unit) : Option (Int × Unit) := match x.1 with | [] => none | a :: l => if l.length ≤ 1000000000000 then some (l.foldl (fun m y => if y > m then y else m) a, ()) else none
def axJ (x : List Int × Unit) : Option (Int × Unit) := axF x
def alX (x : List Int × Unit) : Option (Int × Unit) := axG x
def akS : Rat := (1000000000000 : Nat)
def agC (p q : Rat) : BdT × Int × Unit := mkB 6 (fl (p * akS)) (-fl (-(q * akS)))
noncomputable def af3 (x : FxT × Unit) : Option (BdT × Int × Unit) := some (match rdF x.1 with | some q => agC q q | none => ((0, 0, ()), 20, ()))
def aMK (a b : BdT) : BdT × Int × Unit := if okB a.1 a.2.1 ∧ okB b.1 b.2.1 then mkB 6 (a.1 + b.1) (a.2.1 + b.2.1) else ((0, 0, ()), 30, ())
def aPU (a b : BdT) : BdT × Int × Unit := if okB a.1 a.2.1 ∧ okB b.1 b.2.1 then ((min a.1 b.1, max a.2.1 b.2.1, ()), 0, ()) else ((0, 0, ()), 30, ())
def aAd (b : BdT) (lo hi : Int) : BdT × Int × Unit := if okB b.1 b.2.1 then (if okB lo hi then ((min (max b.1 lo) hi, min (max b.2.1 lo) hi, ()), 0, ()) else ((0, 0, ()), 2, ())) else ((0, 0, ()), 30, ())
def aGj (x : BdT × BdT × Unit) : Option (BdT × Int × Unit) := some (aMK x.1 x.2.1)
def aqJ (x : BdT × BdT × Unit) : Option (BdT × Int × Unit) := some (aPU x.1 x.2.1)
def ajN (x : BdT × Int × Int × Unit) : Option (BdT × Int × Unit) := some (aAd x.1 x.2.1 x.2.2.1)
noncomputable def ahP : Int × Unit → Option (List UInt8 × Unit) := ac2 (fun n : Nat => ((n : Int), ())) (fun n => n ≤ 1000) (fun n => (aa2 (10 ^ n), ()))
noncomputable def aqB : List UInt8 × Int × Unit → Option (List UInt8 × Bool × Int × Unit) := ac2 (fun x : Nat × Nat => (aa2 x.1, (x.2 : Int), ())) (fun x => Fit x.1 ∧ 1 ≤ x.2 ∧ x.2 ≤ 12) (fun x => (aa2 (adN x.2 x.1), decide (adN x.2 x.1 ^ x.2 = x.1), 0, ()))
noncomputable def acH : List UInt8 × Bool × Unit → Option (Int × Int × Unit) := ac2 (fun x : Nat × Bool => (aa2 x.1, x.2, ())) (fun x => Fit x.1) (fun x => if x.1 > 1000000000000000000 then (0, 6, ()) else ((x.1 : Int) + (if x.2 then 1 else 0), 0, ()))
def okE (p q : Int) : Prop := 1 ≤ p ∧ p ≤ 36 ∧ 1 ≤ q ∧ q ≤ 12
instance (p q : Int) : Decidable (okE p q) := inferInstanceAs (Decidable (_ ∧ _))
def asE (x : (Int × Int × Unit) × Unit) : Option (Bool × Unit) := some (decide (okE x.1.1 x.1.2.1), ())
noncomputable def aBB (p q n : Nat) : Nat := adN q (n ^ p * 10 ^ (12 * q) / 10 ^ (12 * p))
noncomputable def ax1 (p q n : Nat) (up : Bool) : Int × Int × Unit :=
 if aBB p q n > 1000000000000000000 then (0, 6, ()) else ((aBB p q n : Int) + (if up = true ∧ aBB p q n ^ q * 10 ^ (12 * p) ≠ n ^ p * 10 ^ (12 * q) then 1 else 0), 0, ())
noncomputable def aqA : ((Int × Int × Unit) × Unit) × Int × Bool × Unit → Option (Int × Int × Unit) := ac2 (fun x : (Nat × Nat) × Nat × Bool => ((((x.1.1 : Int), (x.1.2 : Int), ()), ()), (x.2.1 : Int), x.2.2, ())) (fun x => okE x.1.1 x.1.2 ∧ x.2.1 ≤ 1000000000000000000) (fun x => ax1 x.1.1 x.1.2 x.2.1 x.2.2)
noncomputable def aJD (b : BdT) (p q : Int) : BdT × Int × Unit :=
 if okB b.1 b.2.1 then
  if okE p q ∧ 0 ≤ b.1 then
   (if (ax1 p.toNat q.toNat b.1.toNat false).2.1 ≠ 0 then ((0, 0, ()), 6, ()) else if (ax1 p.toNat q.toNat b.2.1.toNat true).2.1 ≠ 0 then ((0, 0, ()), 6, ())
    else mkB 6 (ax1 p.toNat q.toNat b.1.toNat false).1 (ax1 p.toNat q.toNat b.2.1.toNat true).1)
  else ((0, 0, ()), 2, ())
 else ((0, 0, ()), 30, ())
noncomputable def axI (x : BdT × Int × Int × Unit) : Option (BdT × Int × Unit) := some (aJD x.1 x.2.1 x.2.2.1)
abbrev afS := Int × Int × Int × Int × Int × Int × Unit
abbrev CvT := Int × List Int × List afS × Unit
abbrev PcT := afS × Int × Bool × Unit
def inR (n a b : Int) : Prop := a ≤ n ∧ n ≤ b
instance (n a b : Int) : Decidable (inR n a b) := inferInstanceAs (Decidable (_ ∧ _))
def asX (s : afS) : Prop := inR s.2.1 (-100000000) 100000000 ∧ inR s.2.2.1 (-100000000) 100000000 ∧ inR s.2.2.2.2.2.1 (-100000000) 100000000 ∧ inR s.2.2.2.1 1 36 ∧ inR s.2.2.2.2.1 1 12 ∧ Nat.gcd s.2.2.2.1.natAbs s.2.2.2.2.1.natAbs = 1
instance (s : afS) : Decidable (asX s) := inferInstanceAs (Decidable (_ ∧ _))
def aiW (last : Int) (s : afS) : Prop := asX s ∧ inR s.1 (last + 1) 1000000
instance (last : Int) (s : afS) : Decidable (aiW last s) := inferInstanceAs (Decidable (_ ∧ _))
def ag6 : Int → List afS → Prop
 | last, [] => last = 1000000
 | last, s :: r => aiW last s ∧ ag6 s.1 r
def aJ8 : (last : Int) → (l : List afS) → Decidable (ag6 last l)
 | last, [] => inferInstanceAs (Decidable (last = 1000000))
 | last, s :: r => @instDecidableAnd _ _ (inferInstanceAs (Decidable (aiW last s))) (aJ8 s.1 r)
instance (last : Int) (l : List afS) : Decidable (ag6 last l) := aJ8 last l
def adX (l : List Int) : Prop := 2 ≤ l.length ∧ l.length ≤ 17 ∧ ∀ v ∈ l, inR v 0 65535
instance (l : List Int) : Decidable (adX l) := inferInstanceAs (Decidable (_ ∧ _ ∧ _))
def aeA (l : List afS) : Prop := 1 ≤ l.length ∧ l.length ≤ 4 ∧ ag6 0 l
instance (l : List afS) : Decidable (aeA l) := inferInstanceAs (Decidable (_ ∧ _ ∧ _))
def acJ (c : CvT) : Prop := (c.1 = 1 ∧ c.2.1 = [] ∧ c.2.2.1 = []) ∨ (c.1 = 2 ∧ adX c.2.1 ∧ c.2.2.1 = []) ∨ (c.1 = 3 ∧ c.2.1 = [] ∧ aeA c.2.2.1)
instance (c : CvT) : Decidable (acJ c) := inferInstanceAs (Decidable (_ ∨ _ ∨ _))
noncomputable def eqb {α : Type} (a b : α) : Bool := open Classical in if a = b then true else false
theorem aG6 {α : Type} {a b : α} (h : a = b) : eqb a b = true := if_pos h
theorem awC {α : Type} {a b : α} (h : ¬ a = b) : eqb a b = false := if_neg h
def acW (x : Int × Int × Int × Unit) : Option (Bool × Unit) := some (decide (inR x.1 x.2.1 x.2.2.1), ())
def abZ (x : Int × Int × Unit) : Option (FxT × Unit) := if abD x.1 ∧ abD x.2.1 then some ((ofQ x.1 x.2.1).1, ()) else none
def aaF (x : Int × Unit) : Option (FxT × Unit) := if abD x.1 then some (fx (mkRat x.1 1), ()) else none
def acK (q : Rat) : Rat := if q < 0 then 0 else if q > 1 then 1 else q
noncomputable def acY : FxT × Unit → Option (FxT × Unit) := ac2 (fun q : Rat => (fx q, ())) (fun q => ac1 q) (fun q => (fx (acK q), ()))
def aiS (x : List Int × Unit) : Option (Bool × Unit) := some (decide (adX x.1), ())
def afZ (x : PcT × Unit) : Option (Bool × Unit) := if inR x.1.2.1 0 1000000 then some (decide (aiW x.1.2.1 x.1.1), ()) else none
def af2 (x : CvT × Unit) : Option (Bool × Unit) := some (decide (aeA x.1.2.2.1), ())
def agM (x : CvT × Unit) : Option (Int × Unit) := some (if acJ x.1 then 0 else 90, ())
def aQR (c : CvT) : Prop := acJ c ∧ ∀ s ∈ c.2.2.1, s.2.2.2.2.1 = 1
instance (c : CvT) : Decidable (aQR c) := inferInstanceAs (Decidable (_ ∧ _))
def aPr (l : List Int) : Bool := (List.range (l.length - 1)).any (fun i => decide (l.getD (i + 1) 0 > l.getD i 0))
def aPZ (l : List Int) : Bool := (List.range (l.length - 1)).any (fun i => decide (l.getD (i + 1) 0 < l.getD i 0))
def aJU (c : CvT) : Int :=
 if c.1 = 3 then (if c.2.2.1.length > 1 then 0 else if (c.2.2.1.getD 0 (0, 0, 0, 0, 0, 0, ())).2.1 < 0 then -1 else 1)
 else if !aPZ c.2.1 then 1 else if !aPr c.2.1 then -1 else 0
def alW (x : CvT × Unit) : Option (Int × Int × Unit) := some (if acJ x.1 then (aJU x.1, 0, ()) else (0, 90, ()))
def dig (n : Nat) : List Int := atS 10000 n
theorem adC (n : Nat) : Dg 10000 (dig n) := aFS (B := 10000) zc n
theorem aG9 (n : Nat) : Cn (dig n) := aL8 (B := 10000) zc n
theorem ahM (n : Nat) : V 10000 (dig n) = n := aEa (B := 10000) zc n
theorem awG {m n : Nat} (h : dig m = dig n) : m = n := aG8 (B := 10000) zc h
theorem aBD {l : List Int} {n : Nat} (h1 : Dg 10000 l) (h2 : Cn l) (h3 : V 10000 l = n) : l = dig n := awF (B := 10000) zc h1 h2 h3
theorem dig_length_le_iff {n k : Nat} : (dig n).length ≤ k ↔ n < 10000 ^ k := by
 constructor
 ·intro h
  have h1 := avQ (B := 10000) zc n
  exact yn h1 (zV zc h)
 ·intro h
  exact af8 zc h
theorem ab2 {m n : Nat} (h : m ≤ n) : (dig m).length ≤ (dig n).length := by
 rw [dig_length_le_iff]
 exact Nat.lt_of_le_of_lt h (dig_length_le_iff.1 (zq _))
theorem dig_zero : dig 0 = [] := ac4 _
theorem dig_nil_iff {n : Nat} : dig n = [] ↔ n = 0 := by
 constructor
 ·intro h
  exact awG (h.trans dig_zero.symm)
 ·rintro rfl; exact dig_zero
theorem aL9 {d : Nat} (h0 : d ≠ 0) (h1 : d < 10000) : dig d = [(d : Int)] := az9 zc h0 h1
theorem anI {m n : Nat} (h : (dig m).length < (dig n).length) : m < n := by
 rcases zr m n with h2 | h2
 ·exact h2
 ·have := ab2 h2; omega
theorem aAb {n k : Nat} (h : (mag n).length ≤ k) : (dig n).length ≤ 3 * k := by
 rw [mag_length_le_iff] at h
 rw [dig_length_le_iff, xM]
 exact yn h (xl zc _)
theorem aw4 {k n : Nat} (h : Bd k n) (hk : k ≤ 8) : (dig n).length ≤ 200000000000 := by
 have h1 : Bd 8 n := aaH h hk
 have h2 := aAb (k := 1000000 * 4 ^ 8) h1
 omega
@[reducible] def pl (z : Int) : Bool × List Int × Unit := (decide (z < 0), dig z.natAbs, ())
theorem avA {a b : Int} (h : pl a = pl b) : a = b := by
 obtain ⟨h1, h2⟩ := Prod.mk.inj h
 obtain ⟨h2, -⟩ := Prod.mk.inj h2
 have := awG h2
 simp only [decide_eq_decide] at h1
 omega
abbrev PlT := Bool × List Int × Unit
abbrev RaT := PlT × PlT × Unit
@[reducible] def ra (q : Rat) : RaT := (pl q.num, pl q.den, ())
theorem aKn {a b : Rat} (h : ra a = ra b) : a = b := by
 obtain ⟨h1, h2⟩ := Prod.mk.inj h
 obtain ⟨h2, -⟩ := Prod.mk.inj h2
 have := avA h2
 exact Rat.ext (avA h1) zc
def aNf (a b : List Int) : Nat → Int
 | 0 => 0
 | k + 1 => if a.getD k 0 ≠ b.getD k 0 then a.getD k 0 - b.getD k 0 else aNf a b k
def aO4 (a b : List Int) : Int := if a.length ≠ b.length then (a.length : Int) - b.length else aNf a b a.length
open Classical in
noncomputable def acL (x : List Int × Unit) : Option (List Int × Unit) := if Dg 10000 x.1 ∧ x.1.length ≤ 1000000000000 then some (dig (V 10000 x.1).toNat, ()) else none
open Classical in
noncomputable def abF (x : Bool × List Int × Unit) : Option (PlT × Unit) := if Dg 10000 x.2.1 ∧ x.2.1.length ≤ 1000000000000 then some ((x.1 && decide (V 10000 x.2.1 ≠ 0), dig (V 10000 x.2.1).toNat, ()), ()) else none
noncomputable def afV (x : List UInt8 × Unit) : Option (Bool × Unit) := if x.1.length ≤ 1000000000000 then some ((rdW x.1).isSome, ()) else none
noncomputable def aoK : List UInt8 × Unit → Option (PlT × Unit) := ac2 (fun z : Int => (dec z, ())) (fun z => Fit z) (fun z => (pl z, ()))
noncomputable def acD (x : Int × Unit) : Option (PlT × Unit) := if abD x.1 then some (pl x.1, ()) else none
def ayG (n : Nat) : List UInt8 := [UInt8.ofNat (48 + n / 1000), UInt8.ofNat (48 + n / 100 % 10), UInt8.ofNat (48 + n / 10 % 10), UInt8.ofNat (48 + n % 10)]
noncomputable def ap8 : Int × Unit → Option (List UInt8 × Unit) := ac2 (fun n : Nat => ((n : Int), ())) (fun n => n < 10000) (fun n => (ayG n, ()))
noncomputable def alT : PlT × Unit → Option (List UInt8 × Unit) := ac2 (fun z : Int => (pl z, ())) (fun z => Bd 6 z.natAbs) (fun z => (dec z, ()))
noncomputable def ap9 : PlT × Unit → Option (List UInt8 × Int × Unit) := ac2 (fun z : Int => (pl z, ())) (fun z => Bd 6 z.natAbs) (fun z => wrW z)
noncomputable def afU (x : List Int × List Int × Unit) : Option (Int × Unit) := open Classical in if Dg 10000 x.1 ∧ Dg 10000 x.2.1 ∧ x.1.length ≤ 1000000000000 ∧ x.2.1.length ≤ 1000000000000 then some (aO4 x.1 x.2.1, ()) else none
noncomputable def auD : List Int × List Int × Unit → Option (List Int × Unit) := ac2 (fun p : Nat × Nat => (dig p.1, dig p.2, ())) (fun p => (dig p.1).length ≤ 1000000000000 ∧ (dig p.2).length ≤ 1000000000000) (fun p => (dig (p.1 + p.2), ()))
open Classical in
noncomputable def abA (x : List Int × List Int × Unit) : Option (List Int × Unit) := if Dg 10000 x.1 ∧ Dg 10000 x.2.1 ∧ x.1.length ≤ 1000000000000 ∧ x.2.1.length ≤ x.1.length ∧ V 10000 x.2.1 ≤ V 10000 x.1 then some (dig (V 10000 x.1 - V 10000 x.2.1).toNat, ()) else none
open Classical in
noncomputable def abT (x : List Int × List Int × Unit) : Option (List Int × Unit) := if Dg 10000 x.1 ∧ (Dg 10000 x.2.1 ∨ x.2.1 = [10000]) ∧ x.1.length ≤ 400000000000 ∧ x.2.1.length ≤ 400000000000 then some (dig (V 10000 x.1 * V 10000 x.2.1).toNat, ()) else none
noncomputable def ap7 : List Int × Int × Unit → Option (List Int × Int × Unit) := ac2 (fun p : Nat × Nat => (dig p.1, (p.2 : Int), ())) (fun p => (dig p.1).length ≤ 1000000000000 ∧ 0 < p.2 ∧ p.2 < 10000) (fun p => (dig (p.1 / p.2), ((p.1 % p.2 : Nat) : Int), ()))
noncomputable def ajD : List Int × List Int × Unit → Option (List Int × List Int × Unit) := ac2 (fun p : Nat × Nat => (dig p.1, dig p.2, ())) (fun p => (dig p.1).length ≤ 200000000000 ∧ (dig p.2).length ≤ 200000000000 ∧ p.2 ≠ 0) (fun p => (dig (p.1 / p.2), dig (p.1 % p.2), ()))
noncomputable def ajE : PlT × Unit → Option (PlT × Unit) := ac2 (fun z : Int => (pl z, ())) (fun z => Bd 8 z.natAbs) (fun z => (pl (-z), ()))
noncomputable def agL : PlT × PlT × Unit → Option (PlT × Unit) := ac2 (fun p : Int × Int => (pl p.1, pl p.2, ())) (fun p => Bd 7 p.1.natAbs ∧ Bd 7 p.2.natAbs) (fun p => (pl (p.1 + p.2), ()))
noncomputable def amY : PlT × PlT × Unit → Option (PlT × Unit) := ac2 (fun p : Int × Int => (pl p.1, pl p.2, ())) (fun p => Bd 7 p.1.natAbs ∧ Bd 7 p.2.natAbs) (fun p => (pl (p.1 - p.2), ()))
noncomputable def aeU : PlT × PlT × Unit → Option (PlT × Unit) := ac2 (fun p : Int × Int => (pl p.1, pl p.2, ())) (fun p => Bd 7 p.1.natAbs ∧ Bd 7 p.2.natAbs) (fun p => (pl (p.1 * p.2), ()))
noncomputable def afW : PlT × PlT × Unit → Option (PlT × PlT × Unit) := ac2 (fun p : Int × Int => (pl p.1, pl p.2, ())) (fun p => Bd 6 p.1.natAbs ∧ Bd 6 p.2.natAbs ∧ p.2 ≠ 0) (fun p => (pl (p.1 / p.2), pl (p.1 % p.2), ()))
noncomputable def aeV : PlT × PlT × Unit → Option (PlT × Unit) := ac2 (fun p : Int × Int => (pl p.1, pl p.2, ())) (fun p => Bd 8 p.1.natAbs ∧ Bd 8 p.2.natAbs) (fun p => (pl (Nat.gcd p.1.natAbs p.2.natAbs), ()))
def shF (x : FxT) : Prop := x.1.length ≤ 1000000000000 ∧ x.2.1.length ≤ 1000000000000
instance (x : FxT) : Decidable (shF x) := inferInstanceAs (Decidable (_ ∧ _))
noncomputable def afT : PlT × PlT × Unit → Option (RaT × Unit) := ac2 (fun x : Int × Int => (pl x.1, pl x.2, ())) (fun x => Bd 6 x.1.natAbs ∧ Bd 6 x.2.natAbs ∧ x.2 ≠ 0) (fun x => (ra (Rat.divInt x.1 x.2), ()))
noncomputable def amW : Int × Int × Unit → Option (RaT × Unit) := ac2 (fun x : Int × Int => (x.1, x.2, ())) (fun x => abD x.1 ∧ abD x.2 ∧ x.2 ≠ 0) (fun x => (ra (Rat.divInt x.1 x.2), ()))
noncomputable def ad2 (x : FxT × Unit) : Option (Bool × Unit) := if shF x.1 then some ((rdF x.1).isSome, ()) else none
noncomputable def aoJ : FxT × Unit → Option (RaT × Unit) := ac2 (fun x : Rat => (fx x, ())) (fun x => ac1 x) (fun x => (ra x, ()))
noncomputable def amX : RaT × Unit → Option (FxT × Int × Unit) := ac2 (fun x : Rat => (ra x, ())) (fun x => BdQ 6 x) (fun x => wrF x)
noncomputable def ap6 : RaT × RaT × Unit → Option (RaT × Unit) := ac2 (fun x : Rat × Rat => (ra x.1, ra x.2, ())) (fun x => BdQ 3 x.1 ∧ BdQ 3 x.2) (fun x => (ra (x.1 + x.2), ()))
noncomputable def amV : RaT × RaT × Unit → Option (RaT × Unit) := ac2 (fun x : Rat × Rat => (ra x.1, ra x.2, ())) (fun x => BdQ 3 x.1 ∧ BdQ 3 x.2) (fun x => (ra (x.1 * x.2), ()))
noncomputable def axH (x : Int × Int × Unit) : Option (FxT × Int × Unit) := alV x
noncomputable def akL (x : FxT × FxT × Unit) : Option (FxT × Int × Unit) := if shF x.1 ∧ shF x.2.1 then adQ x else none
noncomputable def aiA (x : FxT × FxT × Unit) : Option (FxT × Int × Unit) := if shF x.1 ∧ shF x.2.1 then ac9 x else none
def shC (c : CvT) : Prop := c.2.1.length ≤ 1000000000000 ∧ c.2.2.1.length ≤ 1000000000000
instance (c : CvT) : Decidable (shC c) := inferInstanceAs (Decidable (_ ∧ _))
def abL (x : Int × Int × Unit) : Option (Bool × Unit) := if inR x.1 1 36 ∧ inR x.2.1 1 12 then some (!decide (Nat.gcd x.1.natAbs x.2.1.natAbs = 1), ()) else none
def aQj (x : Int × Int × Unit) : Option (FxT × Unit) := abZ x
def aqS (b : BdT) : BdT := (min (max b.1 0) 1000000000000, min (max b.2.1 0) 1000000000000, ())
def arL (a b : BdT) : BdT := (min a.1 b.1, max a.2.1 b.2.1, ())
noncomputable def ab7 (q : Rat) : Option Rat := if ac1 q then some q else none
def at1 : Option Rat → FxT × Int × Unit
 | some q => (fx q, 0, ())
 | none => (([], [], ()), 6, ())
noncomputable def aBb (m a : Int) (x : Rat) : Option Rat := (ab7 (mkRat m 1 * x)).bind fun u => (ab7 (u + mkRat a 1)).bind fun v => ab7 (v / mkRat 1000000 1)
noncomputable def ae2 (u : Rat) : Nat → Rat → Option Rat
 | 0, y => some y
 | n + 1, y => (ab7 (y * u)).bind (ae2 u n)
def aJE (u : Rat) : Rat := if u < 0 then 0 else u
noncomputable def aID (s : afS) (x : Rat) : Option Rat := (aBb s.2.1 s.2.2.1 x).bind fun u => (ae2 (aJE u) (s.2.2.2.1 - 1).toNat (aJE u)).bind fun y => (ab7 (y + mkRat s.2.2.2.2.2.1 1000000)).map acK
def afL (x : Rat) (l : List afS) : Nat := l.findIdx (fun s => decide (x ≤ mkRat s.1 1000000))
noncomputable def ayH (l : List afS) (x : Rat) : FxT × Int × Unit := if (l.getD (afL x l) (0, 0, 0, 0, 0, 0, ())).2.2.2.2.1 = 1 then at1 (aID (l.getD (afL x l) (0, 0, 0, 0, 0, 0, ())) x) else (([], [], ()), 5, ())
noncomputable def ag8 (l : List Int) (p : Rat) : Nat := min p.floor.toNat (l.length - 2)
noncomputable def aJC (l : List Int) (x : Rat) : Option Rat := (ab7 (x * mkRat ((l.length - 1 : Nat) : Int) 1)).bind fun p =>
 (ab7 (p - mkRat (ag8 l p : Int) 1)).bind fun r => (ab7 (r * mkRat (l.getD (ag8 l p + 1) 0 - l.getD (ag8 l p) 0) 1)).bind fun t =>
 (ab7 (mkRat (l.getD (ag8 l p) 0) 1 + t)).bind fun y => ab7 (y / mkRat 65535 1)
noncomputable def arW (c : CvT) (x : Rat) : FxT × Int × Unit := if c.1 = 1 then (fx x, 0, ()) else if c.1 = 2 then at1 (aJC c.2.1 x) else ayH c.2.2.1 x
noncomputable def ajM : PcT × FxT × Unit → Option (FxT × Int × Unit) := ac2 (fun p : PcT × Rat => (p.1, fx p.2, ())) (fun p => ac1 p.2 ∧ asX p.1.1) (fun p => at1 (aBb p.1.1.2.1 p.1.1.2.2.1 p.2))
noncomputable def agY : (CvT × Unit) × FxT × Unit → Option (FxT × Int × Unit) := ac2 (fun p : CvT × Rat => ((p.1, ()), fx p.2, ())) (fun p => ac1 p.2) (fun p => (fx p.2, 0, ()))
noncomputable def af0 : (CvT × Unit) × FxT × Unit → Option (FxT × Int × Unit) := ac2 (fun p : CvT × Rat => ((p.1, ()), fx p.2, ())) (fun p => ac1 p.2 ∧ 0 ≤ p.2 ∧ p.2 ≤ 1 ∧ adX p.1.2.1) (fun p => at1 (aJC p.1.2.1 p.2))
noncomputable def aiD : (CvT × Unit) × FxT × Unit → Option (FxT × Int × Unit) := ac2 (fun p : CvT × Rat => ((p.1, ()), fx p.2, ())) (fun p => ac1 p.2 ∧ p.2 ≤ 1 ∧ aeA p.1.2.2.1) (fun p => ayH p.1.2.2.1 p.2)
noncomputable def abG (x : CvT × FxT × Unit) : Option (FxT × Int × Unit) := some (if acJ x.1 then (match rdF x.2.1 with | some q => arW x.1 (acK q) | none => (([], [], ()), 20, ())) else (([], [], ()), 90, ()))
def ayD : List BdT → BdT
 | [] => (0, 0, ())
 | b :: l => l.foldl arL b
def okL (l : List BdT) : Prop := l ≠ [] ∧ l.length ≤ 1000000 ∧ ∀ b ∈ l, okB b.1 b.2.1
instance (l : List BdT) : Decidable (okL l) := inferInstanceAs (Decidable (_ ∧ _ ∧ _))
def aiE (x : List BdT × Unit) : Option (BdT × Int × Unit) := if okL x.1 then some (ayD x.1, 0, ()) else none
noncomputable def aeX : List FxT × Unit → Option (BdT × Int × Unit) := ac2 (fun l : List Rat => (l.map (fun q => fx q), ())) (fun l => l ≠ [] ∧ l.length ≤ 1000000 ∧ ∀ q ∈ l, ac1 q ∧ (agC q q).2.1 = 0) (fun l => (ayD (l.map fun q => (agC q q).1), 0, ()))
def ae3 (m a n : Int) : Int := m * n + a * 1000000000000
def ax6 (s : afS) (lo hi : Int) : BdT :=
 (max (min (ae3 s.2.1 s.2.2.1 lo / 1000000) (ae3 s.2.1 s.2.2.1 hi / 1000000)) 0, max (max (-(-ae3 s.2.1 s.2.2.1 lo / 1000000)) (-(-ae3 s.2.1 s.2.2.1 hi / 1000000))) 0, ())
noncomputable def ax7 (s : afS) (lo hi : Int) : BdT × Int × Unit :=
 if (aJD (ax6 s lo hi) s.2.2.2.1 s.2.2.2.2.1).2.1 ≠ 0 then ((0, 0, ()), (aJD (ax6 s lo hi) s.2.2.2.1 s.2.2.2.2.1).2.1, ())
 else if (aMK (aJD (ax6 s lo hi) s.2.2.2.1 s.2.2.2.2.1).1 (s.2.2.2.2.2.1 * 1000000, s.2.2.2.2.2.1 * 1000000, ())).2.1 ≠ 0 then ((0, 0, ()), (aMK (aJD (ax6 s lo hi) s.2.2.2.1 s.2.2.2.2.1).1 (s.2.2.2.2.2.1 * 1000000, s.2.2.2.2.2.1 * 1000000, ())).2.1, ())
 else (aqS (aMK (aJD (ax6 s lo hi) s.2.2.2.1 s.2.2.2.2.1).1 (s.2.2.2.2.2.1 * 1000000, s.2.2.2.2.2.1 * 1000000, ())).1, 0, ())
def inU (n : Int) : Prop := inR n 0 1000000000000
instance (n : Int) : Decidable (inU n) := inferInstanceAs (Decidable (_ ∧ _))
noncomputable def adR (x : PcT × Int × Int × Unit) : Option (BdT × Int × Unit) := if asX x.1.1 ∧ inU x.2.1 ∧ inU x.2.2.1 then some (ax7 x.1.1 x.2.1 x.2.2.1) else none
def af1 (x : (CvT × Unit) × BdT × Unit) : Option (BdT × Int × Unit) := some (x.2.1, 0, ())
def ab8 (l : List afS) (k : Nat) : Int := if k = 0 then 0 else (l.getD (k - 1) (0, 0, 0, 0, 0, 0, ())).1
def aa8 (n : Int) (l : List afS) : Nat := l.findIdx (fun s => decide (n ≤ s.1 * 1000000))
noncomputable def aCb (l : List afS) (lo hi : Int) (k : Nat) : BdT × Int × Unit := ax7 (l.getD k (0, 0, 0, 0, 0, 0, ())) (max lo (ab8 l k * 1000000)) (min hi ((l.getD k (0, 0, 0, 0, 0, 0, ())).1 * 1000000))
noncomputable def ar7 (l : List afS) (lo hi : Int) : Nat → Nat → List BdT → BdT × Int × Unit
 | 0, _, acc => (ayD acc, 0, ())
 | n + 1, k, acc => if (aCb l lo hi k).2.1 ≠ 0 then ((0, 0, ()), (aCb l lo hi k).2.1, ()) else ar7 l lo hi n (k + 1) (acc ++ [(aCb l lo hi k).1])
noncomputable def atG (l : List afS) (lo hi : Int) : BdT × Int × Unit := ar7 l lo hi (aa8 hi l + 1 - aa8 lo l) (aa8 lo l) []
noncomputable def ac7 (x : (CvT × Unit) × BdT × Unit) : Option (BdT × Int × Unit) := if aeA x.1.1.2.2.1 ∧ inU x.2.1.1 ∧ inU x.2.1.2.1 ∧ x.2.1.1 ≤ x.2.1.2.1 then some (atG x.1.1.2.2.1 x.2.1.1 x.2.1.2.1) else none
def asR (l : List Int) (n : Int) : Nat := min (n * ((l.length - 1 : Nat) : Int) / 1000000000000).toNat (l.length - 2)
def anC (l : List Int) (n : Int) : Int := l.getD (asR l n) 0 * 1000000000000 + (n * ((l.length - 1 : Nat) : Int) - (asR l n : Int) * 1000000000000) * (l.getD (asR l n + 1) 0 - l.getD (asR l n) 0)
def aQr (m : Int) : BdT := (m / 65535, -(-m / 65535), ())
def aFu (l : List Int) (lo hi : Int) (k : Nat) : Bool := decide (inR ((k : Int) * 1000000000000) (lo * ((l.length - 1 : Nat) : Int)) (hi * ((l.length - 1 : Nat) : Int)))
def aPl (l : List Int) (lo hi : Int) (k : Nat) : List BdT := aQr (anC l lo) :: aQr (anC l hi) :: ((List.range k).filter (aFu l lo hi)).map (fun j => aQr (l.getD j 0 * 1000000000000))
def apZ (l : List Int) (lo hi : Int) : BdT := ayD (aPl l lo hi l.length)
def aeF (x : (CvT × Unit) × BdT × Unit) : Option (BdT × Int × Unit) := if adX x.1.1.2.1 ∧ inU x.2.1.1 ∧ inU x.2.1.2.1 ∧ x.2.1.1 ≤ x.2.1.2.1 then some (apZ x.1.1.2.1 x.2.1.1 x.2.1.2.1, 0, ()) else none
noncomputable def aHf (c : CvT) (b : BdT) : BdT × Int × Unit := if c.1 = 1 then (b, 0, ()) else if c.1 = 2 then (apZ c.2.1 b.1 b.2.1, 0, ()) else atG c.2.2.1 b.1 b.2.1
noncomputable def agN (x : CvT × BdT × Unit) : Option (BdT × Int × Unit) := some (if acJ x.1 then (if okB x.2.1.1 x.2.1.2.1 then aHf x.1 (aqS x.2.1) else ((0, 0, ()), 30, ())) else ((0, 0, ()), 90, ()))
def aqU : CvT := (2, [0, 65535, 0], [], ())
def stepsC : CvT := (3, [], [(500000, 1000000, 0, 1, 1, 0, ()), (1000000, 2000000, -1000000, 2, 1, 500000, ())], ())
def rootC : CvT := (3, [], [(1000000, 1000000, 0, 1, 2, 0, ())], ())
def aa6 (x : Int × Int × Unit) : Option (FxT × Unit) := abZ x
def ajF (_ : Unit) : Option (CvT × Unit) := some (aqU, ())
def amZ (_ : Unit) : Option (CvT × Unit) := some (stepsC, ())
def aqC (_ : Unit) : Option (CvT × Unit) := some (rootC, ())
noncomputable def acV (x : CvT × FxT × FxT × Unit) : Option (Bool × Unit) := (abG (x.1, x.2.1, ())).map (fun r => (eqb r (x.2.2.1, 0, ()), ()))
def asF (_ : Unit) : Option (Bool × Unit) := some (true, ())
end Go.Vs
namespace Go.Vg
open Go
def opn (P : Program) : Nat → TypeId → Ty → Bool
 | 0, _, _ => false
 | n + 1, t, u => Nat.beq (P.cellsOf t) u.size && (match P.underlying t, u with
  | some (.int k), .int k' => decide (k = k')
  | some .bool, .bool => true
  | some .string, .str => true
  | some (.slice e), .sl v => opn P n e v && Nat.ble 1 v.size && Nat.ble 1 (P.bytesOf e)
  | some (.array m e), .arr m' v => Nat.beq m m' && opn P n e v
  | some (.struct fs), u => opFs (opn P n) fs.toList 0 u
  | _, _ => false)
where opFs (f : TypeId → Ty → Bool) : List Field → Nat → Ty → Bool
 | [], _, u => match u with | .unit => true | _ => false
 | x :: r, off, u => match u with
  | .pair t v => Nat.beq x.offset off && f x.type t && opFs f r (off + t.size) v
  | _ => false
theorem aKm {α : Type} {R : α → List Value → Prop} {n : Nat} : ∀ (len : Nat) (cs : List Value), cs.length = len * n → (∀ i, i < len → ∃ x, R x ((cs.drop (i * n)).take n)) → ∃ xs, xs.length = len ∧ RdL R xs cs
 | 0, cs, hl, _ => ⟨[], rfl, by rw [vF] at hl; exact yH hl⟩
 | len + 1, cs, hl, h => by
  obtain ⟨x, hx⟩ := h 0 (Nat.succ_pos _)
  rw [vF, yP] at hx
  have hl' : (cs.drop n).length = len * n := by rw [yA, hl, yj]; omega
  obtain ⟨xs, h1, h2⟩ := aKm len (cs.drop n) hl' (fun i hi => by
   have := h (i + 1) (Nat.succ_lt_succ hi)
   rw [yb]
   rwa [yj, xb] at this)
  exact ⟨x :: xs, by rw [zI, h1], cs.take n, cs.drop n, (xu n cs).symm, hx, h2⟩
section
variable {H : Type} {enc : TypeId × Value → H} {P : Program} {w : World} {spare : Nat → Bool} {held : Bool}
abbrev anA (l : List Nat) : Prop := l.all (· ≤ reachBytes) = true
theorem alC {a b : List Nat} (h : anA (a ++ b)) : anA a ∧ anA b := by
 simp only [anA, List.all_append, zw] at h
 exact h
theorem avS {e : TypeId} : ∀ {ds : List (DataW H)}, anA (DataW.weightsAll P e ds) → ∀ d ∈ ds, anA (d.weights P e)
 | [], _, _, h => by cases h
 | d :: r, h, x, hx => by
  rw [DataW.weightsAll] at h
  obtain ⟨h1, h2⟩ := alC h
  rcases zx.1 hx with rfl | hx
  ·exact h1
  ·exact avS h2 x hx
theorem azV : ∀ {ts : List TypeId} {ds : List (DataW H)}, anA (DataW.weightsEach P ts ds) → ∀ (i : Nat) t d, ts[i]? = some t → ds[i]? = some d → anA (d.weights P t)
 | [], _, _, i, t, d, h, _ => by simp at h
 | _ :: _, [], _, i, t, d, _, h => by simp at h
 | t :: ts, d :: ds, h, i, t', d', h1, h2 => by
  rw [DataW.weightsEach] at h
  obtain ⟨h3, h4⟩ := alC h
  cases i with
  | zero => simp at h1 h2; subst h1; subst h2; exact h3
  | succ i => exact azV h4 i t' d' (by simpa using h1) (by simpa using h2)
theorem amS {a : Addr} {n : Nat} {l : List Value} (h : w.cells? 0 a n = some l) : l.length = n ∧ ∀ i (hi : i < n), w.cell? (a.add i) = l[i]? := by
 unfold World.cells? at h
 rw [if_pos (yf _)] at h
 refine ⟨by simpa using mapM_some_length h, fun i hi => ?_⟩
 have := mapM_some_get h i i (by simp [hi])
 exact this
theorem aI1 {a : Addr} {v : Value} (h : w.cell? a = some v) : ∃ c e fr, w.heap[a.block]? = some (.cells c e fr) ∧ a.spot = none ∧ c[a.off]? = some v := by
 unfold World.cell? at h
 split at h
 ·rename_i c e fr hc
  split at h
  ·cases h
  ·rename_i hs
   exact ⟨c, e, fr, hc, by simpa using hs, h⟩
 ·cases h
theorem aCv : reachBytes ≤ lim := zf
theorem aKH {n : Nat} {f : TypeId → Ty → Bool} {cs : List Value} (hf : ∀ t u cs d ps, f t u = true → DataW.trod enc P w 0 spare held n t cs = some (d, ps) → anA (d.weights P t) → ∃ x, Rd (· < w.heap.size) w u x cs)
  (hsz : ∀ t u, f t u = true → P.cellsOf t = u.size) :
  ∀ (fs : List Field) (off : Nat) (u : Ty) (xs : List (DataW H × List MemPlace)), opn.opFs f fs off u = true → cs.length = off + u.size → xs.length = fs.length →
   (∀ (i : Nat) (g : Field), fs[i]? = some g → DataW.trod enc P w 0 spare held n g.type ((cs.drop g.offset).take (P.cellsOf g.type)) = xs[i]?) →
   (∀ (i : Nat) (g : Field) y, fs[i]? = some g → xs[i]? = some y → anA (y.1.weights P g.type)) → ∃ x, Rd (· < w.heap.size) w u x (cs.drop off)
 | [], off, u, xs, h, hl, _, _, _ => by
  cases u <;> first | (cases h; done) | skip
  exact ⟨(), by
   have : cs.length = off := by simpa [Ty.size] using hl
   show cs.drop off = []
   exact List.drop_eq_nil_of_le zc⟩
 | g :: r, off, u, xs, h, hl, hx, ht, hw => by
  cases u <;> first | (cases h; done) | skip
  rename_i t v
  simp only [opn.opFs, zw] at h
  obtain ⟨⟨h1, h2⟩, h3⟩ := h
  have h1 := Nat.eq_of_beq_eq_true h1
  subst h1
  have hs := hsz _ _ h2
  cases xs with
  | nil => simp at hx
  | cons y ys =>
   have h4 := ht 0 g rfl
   rw [hs] at h4
   obtain ⟨a, ha⟩ := hf _ _ _ y.1 y.2 h2 h4 (hw 0 g y rfl rfl)
   obtain ⟨b, hb⟩ := aKH hf hsz r (g.offset + t.size) v ys h3 (by rw [hl]; simp only [Ty.size]; omega) (by simpa using hx) (fun i k hk => by have := ht (i + 1) k (by simpa using hk); simpa using this) (fun i k z hk hz => hw (i + 1) k z (by simpa using hk) (by simpa using hz))
   refine ⟨(a, b), _, _, (xu t.size (cs.drop g.offset)).symm, ha, ?_⟩
   rw [yb]
   exact hb
theorem at2 {n : Nat} {t : TypeId} {u : Ty} (h : opn P n t u = true) : P.cellsOf t = u.size := by
 cases n with
 | zero => cases h
 | succ n =>
  simp only [opn, zw] at h
  exact Nat.eq_of_beq_eq_true h.1
theorem aoZ : ∀ (n : Nat) (t : TypeId) (u : Ty) (fuel : Nat) (cs : List Value) (d : DataW H) (ps : List MemPlace), opn P n t u = true → DataW.trod enc P w 0 spare held fuel t cs = some (d, ps) → anA (d.weights P t) →
  ∃ x, Rd (· < w.heap.size) w u x cs
 | 0, _, _, _, _, _, _, h, _, _ => by cases h
 | n + 1, t, u, fuel, cs, d, ps, h, hd, hw => by
  have hsz := at2 h
  simp only [opn, zw] at h
  obtain ⟨-, h⟩ := h
  split at h
  ·rename_i k k' hu
   have := of_decide_eq_true h
   subst this
   obtain ⟨m, rfl, _, hwf⟩ := DataW.trod_int hu hd
   refine ⟨m, rfl, ?_⟩
   simpa [Lit.wf] using hwf
  ·rename_i hu
   obtain ⟨b, rfl, _⟩ := DataW.trod_bool hu hd
   exact ⟨b, rfl⟩
  ·rename_i hu
   obtain ⟨s, rfl, hx, _⟩ := DataW.trod_string hu hd
   injection hx with hx _
   subst hx
   have : s.data.toList.length ≤ reachBytes := by simpa [anA, DataW.weights] using hw
   exact ⟨s.data.toList, rfl, zD this aCv⟩
  ·rename_i e v hu
   simp only [zw] at h
   obtain ⟨⟨h1, h2⟩, h3⟩ := h
   have h2 := Nat.le_of_ble_eq_true h2
   have h3 := Nat.le_of_ble_eq_true h3
   have hse := at2 h1
   rcases DataW.trod_slice hu hd with ⟨rfl, hx⟩ | ⟨a, len, cap, elems, rest, m, rfl, rfl, hx, _, hlc, _, hle, hel, _, _⟩
   ·exact ⟨[], none, 0, rfl, zq _, yf _, Or.inl rfl⟩
   ·injection hx with hx _
    subst hx
    simp only [DataW.weights, hu, anA, List.all_cons, zw, ym, List.all_append] at hw
    obtain ⟨hw1, hw2, _⟩ := hw
    have hlim : len ≤ lim := by
     have : len * 1 ≤ (List.map (·.1) elems).length * P.bytesOf e := Nat.mul_le_mul (by simp [hle]) h3
     have h4 : (List.map (·.1) elems).length * P.bytesOf e ≤ ((List.map (·.1) elems).length + (List.map (·.1) rest).length) * P.bytesOf e := zS _ (xf _ _)
     exact zD zc (zD hw1 aCv)
    rcases zF len with h0 | h0
    ·subst h0
     exact ⟨[], some a, cap, rfl, hlc, yf _, Or.inl rfl⟩
    ·-- the cells of an element
     have key : ∀ i, i < len → ∃ l y, w.cells? 0 (a.add (i * v.size)) v.size = some l ∧ DataW.trod enc P w 0 spare held m e l = some y ∧ elems[i]? = some y := by
      intro i hi
      have := hel i hi
      rw [zO zc, hse] at this
      obtain ⟨l, hl1, hl2⟩ := Option.bind_eq_some_iff.1 this
      exact ⟨l, _, hl1, hl2, by rw [zO zc]⟩
     obtain ⟨l0, y0, hl0, -, -⟩ := key 0 h0
     obtain ⟨hn0, hc0⟩ := amS hl0
     have hc00 := hc0 0 h2
     rw [zO zc] at hc00
     obtain ⟨c, et, fr, hb, hsp, _⟩ := aI1 hc00
     have e0 : a.add (0 * v.size) = a := by simp [Addr.add]
     rw [e0] at hb hsp
     have e00 : a.add 0 = a := by simp [Addr.add]
     rw [e00] at hb hsp
     obtain ⟨b, o, sp⟩ := a
     dsimp only at hb hsp
     subst hsp
     -- each cell
     have cell : ∀ i, i < len → ∀ j, j < v.size → ∀ l, w.cells? 0 (Addr.add ⟨b, o, none⟩ (i * v.size)) v.size = some l → c[o + i * v.size + j]? = l[j]? := by
      intro i hi j hj l hl
      obtain ⟨q1, q2⟩ := amS hl
      have := q2 j hj
      rw [← this]
      have ea : ((Addr.add ⟨b, o, none⟩ (i * v.size)).add j) = ⟨b, o + i * v.size + j, none⟩ := by
       unfold Addr.add
       by_cases c1 : i * v.size = 0 <;> by_cases c2 : j = 0 <;> simp [c1, c2]
      rw [ea]
      unfold World.cell?
      dsimp only
      rw [hb]
      rfl
     have part : ∀ i, i < len → ∀ l, w.cells? 0 (Addr.add ⟨b, o, none⟩ (i * v.size)) v.size = some l → (c.toList.drop (o + i * v.size)).take v.size = l := by
      intro i hi l hl
      obtain ⟨q1, q2⟩ := amS hl
      apply List.ext_getElem?
      intro j
      rcases zr j v.size with hj | hj
      ·rw [List.getElem?_take_of_lt hj, yW, ← cell i hi j hj l hl]
       simp
      ·rw [xR (by rw [yo]; omega), xR zc]
     have hlen : o + len * v.size ≤ c.size := by
      obtain ⟨l, y, hl, -, -⟩ := key (len - 1) zc
      obtain ⟨q1, q2⟩ := amS hl
      have := cell (len - 1) zc (v.size - 1) zc l hl
      rw [zO zc] at this
      have hlt := (xp.1 this).1
      have e1 : len * v.size = (len - 1) * v.size + v.size := by
       conv => lhs; rw [show len = (len - 1) + 1 by omega]
       rw [yj]
      omega
     obtain ⟨xs, hx1, hx2⟩ := aKm (R := Rd (· < w.heap.size) w v) (n := v.size) len ((c.toList.drop o).take (len * v.size)) (by rw [yo, yA]; simp; omega) (fun i hi => by
      obtain ⟨l, y, hl, hl2, hy⟩ := key i hi
      have hm : y.1 ∈ elems.map (·.1) := zK.2 ⟨y, List.mem_of_getElem? hy, rfl⟩
      obtain ⟨x, hx⟩ := aoZ n e v m l y.1 y.2 h1 hl2 (avS hw2 _ hm)
      refine ⟨x, ?_⟩
      have e2 : ((((c.toList.drop o).take (len * v.size)).drop (i * v.size)).take v.size) = l := by
       rw [← part i hi l hl, wG, xc, yb]
       congr 1
       have : i * v.size + v.size ≤ len * v.size := by rw [← yj]; exact zS _ hi
       omega
      rw [e2]
      exact hx)
     subst hx1
     exact ⟨xs, some ⟨b, o, none⟩, cap, rfl, hlc, hlim, Or.inr ⟨b, o, c, et, fr, rfl, (xp.1 hb).1, hb, hlen, hx2⟩⟩
  ·rename_i m e m' v hu
   simp only [zw] at h
   obtain ⟨h1, h2⟩ := h
   have h1 := Nat.eq_of_beq_eq_true h1
   subst h1
   have hse := at2 h2
   obtain ⟨xs, k, rfl, hx, hlen, hxl, hel⟩ := DataW.trod_array hu hd
   injection hx with hx _
   subst hx
   rw [hsz] at hlen
   have hlen' : cs.length = m * v.size := hlen
   simp only [DataW.weights, hu] at hw
   obtain ⟨ys, hy1, hy2⟩ := aKm (R := Rd (· < w.heap.size) w v) (n := v.size) m cs hlen' (fun i hi => by
    have := hel i hi
    rw [zO zc, hse] at this
    exact aoZ n e v k _ _ _ h2 this (avS hw _ (zK.2 ⟨_, yp zc, rfl⟩)))
   exact ⟨ys, hy1, hy2⟩
  ·rename_i _ fs hu
   obtain ⟨xs, k, rfl, hx, hlen, hxl, hel⟩ := DataW.trod_struct hu hd
   injection hx with hx _
   subst hx
   simp only [DataW.weights, hu] at hw
   obtain ⟨x, hx⟩ := aKH (n := k) (f := opn P n) (cs := cs) (fun t u cs d ps h1 h2 h3 => aoZ n t u k cs d ps h1 h2 h3) (fun t u h => at2 h) fs.toList 0 _ xs h (by rw [hlen, hsz]; omega) (by simpa using hxl) (fun i g hg => hel i g (by simpa using hg))
    (fun i g y hg hy => azV hw i g.type y.1 (by simp [hg]) (by simp [hy]))
   exact ⟨x, by simpa using hx⟩
  ·cases h
theorem aNN {f : TypeId → Ty → Bool} : ∀ {fs : List Field} {off : Nat} {u : Ty}, opn.opFs f fs off u = true → u.agg = true
 | [], _, u, h => by cases u <;> first | rfl | (cases h; done)
 | _ :: _, _, u, h => by cases u <;> first | rfl | (cases h; done)
theorem aH8 {n : Nat} {t : TypeId} {u : Ty} {r : _root_.Go.Reach} {b0 : Nat} {v : Value} {d : DataW H} {ps : List MemPlace} (ho : opn P n t u = true) (hne : u ≠ .unit) (hval : Value.okWide P w r b0 t v) (hd : DataW.Trod enc P w 0 spare held t v d ps) (hw : anA (d.weights P t)) :
  ∃ x, RdV (· < w.heap.size) w u x v := by
 obtain ⟨fuel, hf⟩ := hd
 obtain ⟨x, hx⟩ := aoZ n t u fuel _ _ _ ho hf hw
 refine ⟨x, _, hx, ?_⟩
 cases n with
 | zero => cases ho
 | succ n =>
  simp only [opn, zw] at ho
  obtain ⟨-, h⟩ := ho
  split at h
  ·rename_i k k' hu
   obtain ⟨m, rfl⟩ := WideShapes.okWide_int hu hval
   rfl
  ·rename_i hu
   obtain ⟨m, rfl⟩ := WideShapes.okWide_bool hu hval
   rfl
  ·rename_i hu
   obtain ⟨m, rfl⟩ := WideShapes.okWide_string hu hval
   rfl
  ·rename_i e v' hu
   obtain ⟨a, len, cap, rfl⟩ := WideShapes.okWide_slice hu hval
   rfl
  ·rename_i ha
   unfold Value.okWide at hval
   rw [ha] at hval
   obtain ⟨cs, rfl, _⟩ := hval
   rfl
  ·rename_i fs hu'
   obtain ⟨cs, rfl, _⟩ := WideShapes.okWide_struct hu' hval
   unfold vOf
   rw [if_pos (aNN h)]
   rfl
  ·cases h
def aGO (P : Program) : List TypeId → Ty → Bool
 | [], u => match u with | .unit => true | _ => false
 | t :: ts, u => match u with
  | .pair a b => opn P 8 t a && (match a with | .unit => false | _ => true) && aGO P ts b
  | _ => false
theorem aGP : ∀ (ts : List TypeId) (u : Ty) (vs : List Value) (ds : List (DataW H)) (ps : List MemPlace) {r : _root_.Go.Reach} {b0 : Nat}, aGO P ts u = true → (∀ (j : Nat) t v, ts[j]? = some t → vs[j]? = some v → Value.okWide P w r b0 t v) →
  DataW.TrodAll enc P w 0 spare held ts vs ds ps → anA (DataW.weightsEach P ts ds) → ∃ x, RdVs (· < w.heap.size) w u x vs
 | [], u, vs, ds, ps, _, _, ho, _, hd, _ => by
  cases u <;> first | (cases ho; done) | skip
  cases vs with
  | nil => exact ⟨(), rfl⟩
  | cons v vs => cases ds <;> exact hd.elim
 | t :: ts, u, vs, ds, ps, r, b0, ho, hv, hd, hw => by
  cases u <;> first | (cases ho; done) | skip
  rename_i a b
  simp only [aGO, zw] at ho
  obtain ⟨⟨h1, h2⟩, h3⟩ := ho
  cases vs with
  | nil => exact hd.elim
  | cons v vs =>
   cases ds with
   | nil => exact hd.elim
   | cons d ds =>
    obtain ⟨p, q, hd1, hd2, _⟩ := hd
    rw [DataW.weightsEach] at hw
    obtain ⟨hw1, hw2⟩ := alC hw
    obtain ⟨x, hx⟩ := aH8 h1 (fun e => by subst e; cases h2) (hv 0 t v rfl rfl) hd1 hw1
    obtain ⟨y, hy⟩ := aGP ts b vs ds q h3 (fun j t' v' e1 e2 => hv (j + 1) t' v' (by simpa using e1) (by simpa using e2)) hd2 hw2
    exact ⟨(x, y), v, vs, rfl, hx, hy⟩
theorem aGx (hl : laidOutB P = true) {W W' : World} (hb : RowKit.Below W.heap.size W W') : ∀ (ts : List TypeId) (vs : List Value) (ds : List (DataW H)) (ps : List MemPlace), (ts.all fun t => P.readableRec t && decide (t < P.types.size)) = true →
  DataW.TrodAll enc P W 0 (fun _ => true) true ts vs ds ps → (∀ x ∈ ps, x.block < W.heap.size) → DataW.TrodAll enc P W' 0 (fun b => decide (b < W.heap.size)) true ts vs ds ps
 | [], [], [], _, _, hd, _ => hd
 | [], _ :: _, [], _, _, hd, _ | [], _, _ :: _, _, _, hd, _ => by cases ‹List Value› <;> exact hd.elim
 | t :: ts, [], ds, _, _, hd, _ => by cases ds <;> exact hd.elim
 | t :: ts, v :: vs, [], _, _, hd, _ => hd.elim
 | t :: ts, v :: vs, d :: ds, ps, hr, ⟨p, q, h1, h2, e⟩, hlt => by
  simp only [List.all_cons, zw, ym] at hr
  obtain ⟨⟨r1, r2⟩, r3⟩ := hr
  subst e
  exact ⟨p, q, RowKit.Below.trod hl r1 r2 h1 hb (fun x hx => hlt x (vH _ hx)), aGx hl hb ts vs ds q r3 h2 (fun x hx => hlt x (List.mem_append_right _ hx)), rfl⟩
end
end Go.Vg
