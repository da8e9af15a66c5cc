/-
  Functions of plain data that the Go functions compute, and their laws. Own work; no condition.
-/
import Derived.Test.YteidbklnpgfldaaGreatDoorClR7
import Derived.Lib.ItoaMem
import Derived.Lib.AtoiAllCases
import Derived.Lib.ParseIntBTie
import Derived.Lib.Repeat
import Derived.OpenShut
import Derived.Carry
set_option linter.unusedVariables false
set_option linter.unusedSimpArgs false
namespace Go.Vs
open Go Go.Vg
theorem aaC {x : Int} (h0 : -9223372036854775808 ≤ x ∧ x ≤ 9223372036854775807) : w64 x = x := by
 obtain ⟨h0, h1⟩ := h0
 unfold w64 IntKind.wrap
 simp only [IntKind.bits, IntKind.signed, Bool.true_and]
 have e1 : (2 : Int) ^ 64 = 18446744073709551616 := zc
 have e2 : (2 : Int) ^ (64 - 1) = 9223372036854775808 := zc
 simp only [e1, e2, ge_iff_le, zz]
 split <;> omega
theorem aaL {x : Int} (h0 : 0 ≤ x ∧ x ≤ 18446744073709551615) : abG x = x := by
 obtain ⟨h0, h1⟩ := h0
 unfold abG IntKind.wrap
 simp only [IntKind.bits, IntKind.signed, Bool.false_and]
 have e1 : (2 : Int) ^ 64 = 18446744073709551616 := zc
 simp only [e1]
 simp only [yy, if_false]
 omega
theorem aa5 {x : Int} (h0 : 0 ≤ x ∧ x ≤ 4294967295) : agC x = x := by
 obtain ⟨h0, h1⟩ := h0
 unfold agC IntKind.wrap
 simp only [IntKind.bits, IntKind.signed, Bool.false_and]
 have e1 : (2 : Int) ^ 32 = 4294967296 := zc
 simp only [e1]
 simp only [yy, if_false]
 omega
theorem ad3 {x : Int} (h0 : 0 ≤ x ∧ x ≤ 255) : wu8 x = x := by
 obtain ⟨h0, h1⟩ := h0
 unfold wu8 IntKind.wrap
 simp only [IntKind.bits, IntKind.signed, Bool.false_and]
 have e1 : (2 : Int) ^ 8 = 256 := zc
 simp only [e1]
 simp only [yy, if_false]
 omega
def V (B : Int) : List Int → Int
 | [] => 0
 | d :: l => d + B * V B l
def Dg (B : Int) (l : List Int) : Prop := ∀ d ∈ l, 0 ≤ d ∧ d < B
def Cn (l : List Int) : Prop := l.getLast? ≠ some 0
theorem aeQ (B : Int) : ∀ (l m : List Int), V B (l ++ m) = V B l + B ^ l.length * V B m
 | [], m => by simp [V]
 | d :: l, m => by
  simp only [xM, V, aeQ B l m, yh, yE]
  grind
theorem aDa (B d : Int) : V B [d] = d := by simp [V]
theorem al3 (B : Int) {l : List Int} {i : Nat} (h : i < l.length) : V B (l.take (i + 1)) = V B (l.take i) + B ^ i * l[i] := by
 rw [yV h, aeQ, aDa, zY, yl zb]
theorem aOV (B : Int) (l : List Int) (i : Nat) (h : i ≤ l.length) : V B l = V B (l.take i) + B ^ i * V B (l.drop i) := by
 conv => lhs; rw [← xn i l]
 rw [aeQ, zY, yl h]
theorem aJF (B : Int) {l : List Int} {i : Nat} (h : i < l.length) : V B (l.drop i) = l[i] + B * V B (l.drop (i + 1)) := by
 rw [yv h]; rfl
theorem awE (B : Int) : Dg B [] := fun _ h => by cases h
theorem agB {B : Int} {l m : List Int} (hl : Dg B l) (hm : Dg B m) : Dg B (l ++ m) := by
 intro d hd
 rcases zE.1 hd with h | h
 ·exact hl d h
 ·exact hm d h
theorem apR {B d : Int} (h0 : 0 ≤ d) (h1 : d < B) : Dg B [d] := by
 intro x hx
 have := ye.1 hx
 subst this
 exact ⟨h0, h1⟩
theorem al5 {B d : Int} {l : List Int} (h : Dg B (d :: l)) : Dg B l := fun x hx => h x (zu _ hx)
theorem aoQ {B d : Int} {l : List Int} (h : Dg B (d :: l)) : 0 ≤ d ∧ d < B := h d zG
theorem ayR {B d : Int} {l : List Int} (h0 : 0 ≤ d ∧ d < B) (h : Dg B l) : Dg B (d :: l) := by
 intro x hx
 rcases zq.1 hx with rfl | h1
 ·exact h0
 ·exact h x h1
theorem abZ {B : Int} {l : List Int} (h : Dg B l) (i : Nat) : Dg B (l.take i) := fun x hx => h x (yI hx)
theorem acB {B : Int} {l : List Int} (h : Dg B l) (i : Nat) : Dg B (l.drop i) := fun x hx => h x (yT hx)
theorem aJS {B : Int} {l : List Int} (h : Dg B l) {i : Nat} (hi : i < l.length) : 0 ≤ l[i] ∧ l[i] < B := h _ (yC hi)
theorem ai4 {B d : Int} {l : List Int} (h : Dg B l) (h0 : 0 ≤ d ∧ d < B) (i : Nat) : Dg B (l.set i d) := by
 intro x hx
 rcases List.mem_or_eq_of_mem_set hx with h1 | h1
 ·exact h x h1
 ·rw [h1]; exact h0
theorem agY {B : Int} (hB : 0 < B) (n : Nat) : Dg B (List.replicate n 0) := by
 intro x hx
 have := (List.mem_replicate.1 hx).2
 omega
theorem atM (B : Int) : ∀ n, V B (List.replicate n 0) = 0
 | 0 => rfl
 | n + 1 => by simp [wu, V, atM B n]
theorem aaH {B : Int} (hB : 0 ≤ B) : ∀ {l : List Int}, Dg B l → 0 ≤ V B l
 | [], _ => Int.le_refl 0
 | d :: l, h => by
  have h1 := aaH hB (al5 h)
  have h2 := aoQ h
  have := xK hB h1
  simp only [V]; omega
theorem aF6 {B : Int} (hB : 0 < B) : ∀ {l : List Int}, Dg B l → V B l < B ^ l.length
 | [], _ => by simp [V]
 | d :: l, h => by
  have h1 := aF6 hB (al5 h)
  have h2 := aoQ h
  simp only [V, yh, yE]
  have h3 : B * (V B l + 1) ≤ B * B ^ l.length := zy zb zb
  rw [xe (B ^ l.length) B]
  rw [xS] at h3
  omega
def apV (B n : Nat) : List Int := if _h : n = 0 ∨ B < 2 then [] else ((n % B : Nat) : Int) :: apV B (n / B)
termination_by n
decreasing_by exact wz zb zb
theorem ac3 (B : Nat) : apV B 0 = [] := by rw [apV]; simp
theorem agT {B n : Nat} (hB : 2 ≤ B) (hn : n ≠ 0) : apV B n = ((n % B : Nat) : Int) :: apV B (n / B) := by
 rw [apV, dif_neg zb]
theorem aBj {B : Nat} (hB : 2 ≤ B) (n : Nat) : V B (apV B n) = n := by
 induction n using Nat.strongRecOn with
 | _ n ih =>
  by_cases hn : n = 0
  ·subst hn; rw [ac3]; rfl
  ·rw [agT hB hn]
   simp only [V]
   rw [ih (n / B) (wz zb zb)]
   have := Nat.mod_add_div n B
   have h2 : ((n % B : Nat) : Int) + (B : Int) * ((n / B : Nat) : Int) = ((n % B + B * (n / B) : Nat) : Int) := zf
   rw [h2, this]
theorem aCS {B : Nat} (hB : 2 ≤ B) (n : Nat) : Dg B (apV B n) := by
 induction n using Nat.strongRecOn with
 | _ n ih =>
  by_cases hn : n = 0
  ·subst hn; rw [ac3]; exact awE _
  ·rw [agT hB hn]
   refine ayR ⟨by omega, ?_⟩ (ih (n / B) (wz zb zb))
   have := xl n (show 0 < B by omega)
   omega
theorem alX {B : Nat} (hB : 2 ≤ B) {n : Nat} (hn : n ≠ 0) : apV B n ≠ [] := by rw [agT hB hn]; simp
theorem awF : Cn [] := by simp [Cn]
theorem aDe {d : Int} {l : List Int} : Cn (d :: l) ↔ (if l = [] then d ≠ 0 else Cn l) := by
 cases l with
 | nil => simp [Cn]
 | cons e l => simp [Cn, List.getLast?_cons_cons]
theorem aI4 {B : Nat} (hB : 2 ≤ B) (n : Nat) : Cn (apV B n) := by
 induction n using Nat.strongRecOn with
 | _ n ih =>
  by_cases hn : n = 0
  ·subst hn; rw [ac3]; exact awF
  ·rw [agT hB hn, aDe]
   split
   ·rename_i h
    by_cases h2 : n / B = 0
    ·have := Nat.mod_add_div n B
     rw [h2, Nat.mul_zero] at this
     omega
    ·exact absurd h (alX hB h2)
   ·exact ih (n / B) (wz zb zb)
theorem aBi {B : Int} (hB : 0 < B) : ∀ {l : List Int}, Dg B l → Cn l → V B l = 0 → l = []
 | [], _, _, _ => rfl
 | d :: l, hd, hc, h => by
  have h1 := aaH zb (al5 hd)
  have h2 := aoQ hd
  simp only [V] at h
  have h3 := xK (show 0 ≤ B by omega) h1
  have h4 : B * V B l = 0 := zb
  have h5 : V B l = 0 := by
   rcases Int.mul_eq_zero.1 h4 with h | h
   ·omega
   ·exact h
  rw [aDe] at hc
  split at hc
  ·omega
  ·rename_i hl; exact absurd (aBi hB (al5 hd) hc h5) hl
theorem asX {B : Nat} (hB : 2 ≤ B) : ∀ {l : List Int} {n : Nat}, Dg B l → Cn l → V B l = n → l = apV B n
 | [], n, _, _, h => by
  have : n = 0 := by simp [V] at h; omega
  subst this; rw [ac3]
 | d :: l, n, hd, hc, h => by
  have h1 := aaH zb (al5 hd)
  have h2 := aoQ hd
  have hn : n ≠ 0 := by
   intro h0
   have := aBi zb hd hc (by rw [h, h0]; rfl)
   cases this
  rw [agT hB hn]
  simp only [V] at h
  obtain ⟨v, hv⟩ := zM h1
  obtain ⟨e, he⟩ := zM h2.1
  rw [hv, he] at h
  have h3 : e + B * v = n := by
   have : ((e + B * v : Nat) : Int) = (n : Int) := by simpa using h
   exact Int.ofNat.inj this
  have h4 : e < B := zb
  have h5 : n % B = e := by rw [← h3, Nat.add_mul_mod_self_left, yo h4]
  have h6 : n / B = v := by rw [← h3, Nat.add_mul_div_left _ _ zb, yW h4, zp]
  rw [h5, h6, he]
  congr 1
  refine asX hB (al5 hd) ?_ hv
  rw [aDe] at hc
  split at hc
  ·rename_i hl; rw [hl]; exact awF
  ·exact hc
theorem aeO {B : Nat} (hB : 2 ≤ B) : ∀ {k n : Nat}, n < B ^ k → (apV B n).length ≤ k
 | 0, n, h => by
  have : n = 0 := by simpa using h
  subst this; rw [ac3]; simp
 | k + 1, n, h => by
  by_cases hn : n = 0
  ·subst hn; rw [ac3]; simp
  ·rw [agT hB hn, yh]
   have := aeO (k := k) hB (n := n / B) (by rw [yQ zb]; rw [yL] at h; exact h)
   omega
theorem ar0 {B : Nat} (hB : 2 ≤ B) (n : Nat) : n < B ^ (apV B n).length := by
 have h := aF6 (B := B) zb (aCS hB n)
 rw [aBj hB] at h
 have : ((B : Int) ^ (apV B n).length) = ((B ^ (apV B n).length : Nat) : Int) := zf
 rw [this] at h
 omega
theorem aB9 {B : Nat} (hB : 2 ≤ B) {n : Nat} (hn : n ≠ 0) : B ^ ((apV B n).length - 1) ≤ n := by
 rcases zD n (B ^ ((apV B n).length - 1)) with h | h
 ·have := aeO hB h
  have h2 : (apV B n).length ≠ 0 := by
   intro h3; exact alX hB hn (yk.1 h3)
  omega
 ·exact h
theorem aEa {B : Nat} (hB : 2 ≤ B) {m n : Nat} (h : apV B m = apV B n) : m = n := by
 have h1 := aBj hB m
 have h2 := aBj hB n
 rw [h] at h1
 omega
theorem avV {B : Nat} (hB : 2 ≤ B) {d : Nat} (h0 : d ≠ 0) (h1 : d < B) : apV B d = [(d : Int)] := by
 rw [agT hB h0, yo h1, yW h1, ac3]
noncomputable def ai8 {α A R : Type} (enc : α → A) (pre : α → Prop) (f : α → R) (x : A) : Option R :=
 open Classical in if h : ∃ a, pre a ∧ enc a = x then some (f h.choose) else none
theorem aa0 {α A R : Type} {enc : α → A} {pre : α → Prop} {f : α → R} (a : α) (h : pre a) (hinj : ∀ b, enc b = enc a → b = a) : ai8 enc pre f (enc a) = some (f a) := by
 have hex : ∃ b, pre b ∧ enc b = enc a := ⟨a, h, rfl⟩
 unfold ai8
 rw [dif_pos hex, hinj _ hex.choose_spec.2]
theorem aaP {α A R : Type} {enc : α → A} {pre : α → Prop} {f : α → R} {x : A} {y : R} (h : ai8 enc pre f x = some y) : ∃ a, pre a ∧ x = enc a ∧ y = f a := by
 unfold ai8 at h
 split at h
 ·rename_i hex
  injection h with h
  exact ⟨_, hex.choose_spec.1, hex.choose_spec.2.symm, h.symm⟩
 ·cases h
theorem abJ {a b : Int} (h0 : 0 ≤ a) (h1 : a < b) : inb a b := ⟨h0, h1⟩
theorem aaB {α : Type} (l : List α) : len l = (l.length : Int) := rfl
theorem aRC {α : Type} {l : List α} {i : Int} {d : α} {k : Nat} (h : i = k) (hk : k < l.length) : gi l i d = l[k] := by
 subst h; unfold gi; simp [hk]
theorem uT {α : Type} {b : Bool} {x y : TT α} {r : Option α} (h : b = true) (hx : x.toO = r) : (TT.ite b x y).toO = r := by subst h; exact hx
theorem uF {α : Type} {b : Bool} {x y : TT α} {r : Option α} (h : b = false) (hy : y.toO = r) : (TT.ite b x y).toO = r := by subst h; exact hy
theorem uN {α : Type} {p : Prop} {x : TT α} {r : Option α} (h : p) (hx : x.toO = r) : (TT.need p x).toO = r := by rw [aKb _ _ h]; exact hx
theorem uV {α : Type} {p : Prop} {h : p} {x : TT α} {r : Option α} (hx : x.toO = r) : (TT.triv p h x).toO = r := hx
theorem uB {α β : Type} {b : β} {x : β → TT α} {r : Option α} (hx : (x b).toO = r) : (TT.lt b x).toO = r := hx
theorem uC {α β : Type} {o : Option β} {d : β} {x : β → TT α} {r : Option α} (y : β) (h : o = some y) (hx : (x y).toO = r) : (TT.call o d x).toO = r := by subst h; exact hx
theorem uO {α ι : Type} {t : Nat} {H : TT ι} {R : ι → TT (ι ⊕ α)} {r : Option α} (i : ι) (h : H.toO = some i) (hx : acD (fun i => (R i).toO) i = r) : (TT.loop t H R).toO = r := by rw [aKc h]; exact hx
theorem uL {α ι : Type} {t : Nat} {H : TT (ι ⊕ α)} {R : ι → TT α} {r : Option α} (i : ι) (h : H.toO = some (.inl i)) (hx : (R i).toO = r) : (TT.join t H R).toO = r := by rw [aGf h]; exact hx
theorem uR {α ι : Type} {t : Nat} {H : TT (ι ⊕ α)} {R : ι → TT α} (a : α) (h : H.toO = some (.inr a)) : (TT.join t H R).toO = some a := by rw [aGe h]
def ab1 (n : Nat) : List UInt8 := Lib.decDigits n
def dec (z : Int) : List UInt8 := if z < 0 then 45 :: ab1 z.natAbs else ab1 z.natAbs
def isD (s : List UInt8) : Prop := ∀ c ∈ s, 48 ≤ c.toNat ∧ c.toNat ≤ 57
def dv (c : UInt8) : Nat := c.toNat - 48
def az8 (a : Nat) (s : List UInt8) : Nat := s.foldl (fun a c => a * 10 + dv c) a
def num (s : List UInt8) : Nat := az8 0 s
def mag (n : Nat) : List Int := apV 1000000000 n
def aBx (a b : Int) : Int := if a < b then -1 else if a = b then 0 else 1
theorem ajM (n : Nat) : Dg 1000000000 (mag n) := aCS (B := 1000000000) zb n
theorem aP7 (n : Nat) : Cn (mag n) := aI4 (B := 1000000000) zb n
theorem atN (n : Nat) : V 1000000000 (mag n) = n := aBj (B := 1000000000) zb n
theorem afU {m n : Nat} (h : mag m = mag n) : m = n := aEa (B := 1000000000) zb h
theorem aDN {l : List Int} {n : Nat} (h1 : Dg 1000000000 l) (h2 : Cn l) (h3 : V 1000000000 l = n) : l = mag n := asX (B := 1000000000) zb h1 h2 h3
noncomputable def av7 (x : Int × Unit) : Option (List UInt8 × Unit) := if -9223372036854775808 ≤ x.1 ∧ x.1 ≤ 9223372036854775807 then some (dec x.1, ()) else none
noncomputable def adO (x : List Int × Unit) : Option (Bool × Unit) := some (len x.1 == 0, ())
open Classical in
noncomputable def acK (x : List Int × Unit) : Option (List Int × Unit) := if Dg 1000000000 x.1 ∧ x.1.length ≤ 2000000000000 then some (mag (V 1000000000 x.1).toNat, ()) else none
noncomputable def akN : List Int × Unit → Option (Int × Unit) := ai8 (fun n : Nat => (mag n, ())) (fun n => n < 1000000000000000000) (fun n => ((n : Int), ()))
noncomputable def ad0 : List Int × List Int × Unit → Option (Int × Unit) := ai8 (fun p : Nat × Nat => (mag p.1, mag p.2, ())) (fun p => (mag p.1).length ≤ 1000000000000 ∧ (mag p.2).length ≤ 1000000000000) (fun p => (aBx p.1 p.2, ()))
noncomputable def aBl : List Int × List Int × Unit → Option (List Int × Unit) := ai8 (fun p : Nat × Nat => (mag p.1, mag p.2, ())) (fun p => (mag p.1).length ≤ 1000000000000 ∧ (mag p.2).length ≤ 1000000000000) (fun p => (mag (p.1 + p.2), ()))
noncomputable def aoN : List Int × List Int × Unit → Option (List Int × Unit) := ai8 (fun p : Nat × Nat => (mag p.1, mag p.2, ())) (fun p => (mag p.1).length ≤ 1000000000000 ∧ p.2 ≤ p.1) (fun p => (mag (p.1 - p.2), ()))
noncomputable def ahV : List Int × List Int × Unit → Option (List Int × Unit) := ai8 (fun p : Nat × Nat => (mag p.1, mag p.2, ())) (fun p => (mag p.1).length ≤ 1000000000000 ∧ (mag p.2).length ≤ 1000000000000) (fun p => (mag (p.1 * p.2), ()))
noncomputable def ahW : List Int × Int × Unit → Option (List Int × Int × Unit) := ai8 (fun p : Nat × Nat => (mag p.1, (p.2 : Int), ())) (fun p => (mag p.1).length ≤ 1000000000000 ∧ 0 < p.2 ∧ p.2 < 4294967296) (fun p => (mag (p.1 / p.2), ((p.1 % p.2 : Nat) : Int), ()))
noncomputable def acQ (x : Int × Unit) : Option (List Int × Unit) := if 0 ≤ x.1 ∧ x.1 < 18446744073709551616 then some (mag x.1.toNat, ()) else none
open Classical in
noncomputable def afM (x : List UInt8 × Unit) : Option (List Int × Unit) := if isD x.1 ∧ x.1 ≠ [] ∧ x.1.length ≤ 1000000000000 then some (mag (num x.1), ()) else none
noncomputable def af9 : List Int × Unit → Option (Int × Unit) := ai8 (fun n : Nat => (mag n, ())) (fun n => (mag n).length ≤ 1000000000000) (fun n => (((ab1 n).length : Int), ()))
noncomputable def agA : List Int × Unit → Option (List UInt8 × Unit) := ai8 (fun n : Nat => (mag n, ())) (fun n => (mag n).length ≤ 1000000) (fun n => (ab1 n, ()))
noncomputable def aeM : List Int × List Int × Unit → Option (List Int × List Int × Unit) := ai8 (fun p : Nat × Nat => (mag p.1, mag p.2, ())) (fun p => (mag p.1).length ≤ 100000000000 ∧ (mag p.2).length ≤ 100000000000 ∧ p.2 ≠ 0) (fun p => (mag (p.1 / p.2), mag (p.1 % p.2), ()))
noncomputable def aqJ : List Int × List Int × Unit → Option (List Int × Unit) := ai8 (fun p : Nat × Nat => (mag p.1, mag p.2, ())) (fun p => (mag p.1).length ≤ 100000000000 ∧ (mag p.2).length ≤ 100000000000) (fun p => (mag (Nat.gcd p.1 p.2), ()))
open Classical in
noncomputable def aJH (x : List Int × Unit) : Option (List Int × Unit) := if Dg 1000000000 x.1 ∧ x.1.length ≤ 2000000000000 then some (mag (V 1000000000 x.1).toNat, ()) else none
open Classical in
noncomputable def ahO (x : List UInt8 × Unit) : Option (List Int × Unit) := if isD x.1 ∧ x.1 ≠ [] ∧ x.1.length ≤ 1000000000000 then some (mag (num x.1), ()) else none
theorem aCb {B : Int} (hB : 0 < B) {i j : Nat} (h : i ≤ j) : B ^ i ≤ B ^ j := by
 obtain ⟨k, rfl⟩ := Nat.exists_eq_add_of_le h
 rw [xI]
 have h1 : 1 ≤ B ^ k := yG hB
 have h2 : 0 < B ^ i := yG hB
 have := zy h1 (wA h2)
 omega
theorem aaQ {α : Type} (l : List α) (k : Nat) (d : α) : gi l (k : Int) d = l.getD k d := by unfold gi; rw [zn]
theorem ajR {l : List Int} {k : Nat} (h : k < l.length) (d : Int) : l.getD k d = l[k] := by simp [h]
theorem aiK {l : List Int} {k : Nat} (h : l.length ≤ k) (d : Int) : l.getD k d = d := by simp [h]
theorem aaU {B : Int} (hB : 0 < B) {l : List Int} (h : Dg B l) (k : Nat) : 0 ≤ l.getD k 0 ∧ l.getD k 0 < B := by
 rcases zD k l.length with hk | hk
 ·rw [ajR hk]; exact aJS h hk
 ·rw [aiK hk]; omega
theorem abA (B : Int) (l : List Int) (k : Nat) : V B (l.take (k + 1)) = V B (l.take k) + B ^ k * l.getD k 0 := by
 rcases zD k l.length with hk | hk
 ·rw [ajR hk]; exact al3 B hk
 ·rw [aiK hk, zr zb, zr hk]; omega
theorem aaJ (B : Int) (l : List Int) (k : Nat) : V B (l.drop k) = l.getD k 0 + B * V B (l.drop (k + 1)) := by
 rcases zD k l.length with hk | hk
 ·rw [ajR hk]; exact aJF B hk
 ·rw [aiK hk, yx hk, yx zb]; simp [V]
theorem acJ (B : Int) {l : List Int} {k : Nat} (h : l.length ≤ k) : V B (l.drop k) = 0 := by rw [yx h]; rfl
theorem ab7 (B : Int) {l : List Int} {k : Nat} (h : l.length ≤ k) : V B (l.take k) = V B l := by rw [zr h]
theorem ab0 (B : Int) (l : List Int) (k : Nat) : V B l = V B (l.take k) + B ^ k * V B (l.drop k) := by
 rcases zD k l.length with hk | hk
 ·exact aOV B l k zb
 ·rw [acJ B hk, ab7 B hk]; omega
theorem ac4 {B : Int} (hB : 0 < B) {l : List Int} (h : Dg B l) (k : Nat) : V B (l.take k) < B ^ k := by
 rcases zD k l.length with hk | hk
 ·have := aF6 hB (abZ h k)
  rwa [zY, yl zb] at this
 ·rw [ab7 B hk]
  have h1 := aF6 hB h
  have h2 : B ^ l.length ≤ B ^ k := aCb hB hk
  omega
theorem aJE {B : Int} (hB : 1 ≤ B) {l : List Int} (h : Dg B l) (k : Nat) : V B (l.drop k) ≤ V B l := by
 have h1 := ab0 B l k
 have h2 := aaH zb (abZ h k)
 have h3 := aaH zb (acB h k)
 have h4 : 1 * V B (l.drop k) ≤ B ^ k * V B (l.drop k) := zI (yG zb) h3
 omega
theorem aw9 {B : Int} (hB : 1 ≤ B) (k : Nat) : 1 ≤ B ^ k := yG zb
theorem af1 (l : List Int) {k j : Nat} (h : k < j) (x : Int) : (l.set k x).drop j = l.drop j := by
 rw [List.drop_set_of_lt h]
theorem auJ (B : Int) : ∀ {l : List Int} {k : Nat}, k < l.length → ∀ x, V B (l.set k x) = V B l + B ^ k * (x - l.getD k 0)
 | [], k, h, _ => by simp at h
 | d :: l, 0, _, x => by simp [V]; omega
 | d :: l, k + 1, h, x => by
  simp only [List.set_cons_succ, V, List.getD_cons_succ]
  rw [auJ B (by simpa using h) x, yE]
  grind
theorem alN (l : List Int) {k j : Nat} (h : k ≠ j) (x : Int) : (l.set k x).getD j 0 = l.getD j 0 := by
 simp [zP, List.getElem?_set_ne h]
theorem alO {l : List Int} {k : Nat} (h : k < l.length) (x : Int) : (l.set k x).getD k 0 = x := by
 simp [zP, h]
theorem ajQ {B : Int} (hB : 1 < B) {l : List Int} (h : Dg B l) {k : Nat} (hv : V B l < B ^ k) : ∀ j, k ≤ j → l.getD j 0 = 0 := by
 intro j hj
 have h1 := ab0 B l j
 have h2 := aaH zb (abZ h j)
 have h3 := aaH zb (acB h j)
 have h4 := aaJ B l j
 have h5 := aaH zb (acB h (j + 1))
 have h6 := aaU zb h j
 have h7 : B ^ k ≤ B ^ j := aCb zb hj
 have h8 := xK (show 0 ≤ B by omega) h5
 rcases yi 0 (V B (l.drop j)) with h9 | h9
 ·have : B ^ j * 1 ≤ B ^ j * V B (l.drop j) := zy zb (by have := aw9 (show 1 ≤ B by omega) j; omega)
  omega
 ·omega
theorem mag_length_le_iff {n k : Nat} : (mag n).length ≤ k ↔ n < 1000000000 ^ k := by
 constructor
 ·intro h
  have h1 := ar0 (B := 1000000000) zb n
  exact zZ h1 (yw zb h)
 ·intro h
  exact aeO zb h
theorem ac0 {m n : Nat} (h : m ≤ n) : (mag m).length ≤ (mag n).length := by
 rw [mag_length_le_iff]
 exact Nat.lt_of_le_of_lt h (mag_length_le_iff.1 (zj _))
theorem at8 (m n : Nat) : (mag (m + n)).length ≤ max (mag m).length (mag n).length + 1 := by
 rw [mag_length_le_iff]
 have h1 := mag_length_le_iff.1 (Nat.le_max_left (mag m).length (mag n).length)
 have h2 := mag_length_le_iff.1 (Nat.le_max_right (mag m).length (mag n).length)
 rw [yL]
 have := yd (1000000000 ^ max (mag m).length (mag n).length) (show 2 ≤ 1000000000 by omega)
 omega
theorem akX (m n : Nat) : (mag (m * n)).length ≤ (mag m).length + (mag n).length := by
 rw [mag_length_le_iff, Nat.pow_add]
 have h1 := mag_length_le_iff.1 (zj (mag m).length)
 have h2 := mag_length_le_iff.1 (zj (mag n).length)
 exact Nat.mul_lt_mul'' h1 h2
theorem mag_zero : mag 0 = [] := ac3 _
theorem mag_nil_iff {n : Nat} : mag n = [] ↔ n = 0 := by
 constructor
 ·intro h
  exact afU (h.trans mag_zero.symm)
 ·rintro rfl; exact mag_zero
theorem aAg {d : Nat} (h0 : d ≠ 0) (h1 : d < 1000000000) : mag d = [(d : Int)] := avV zb h0 h1
theorem ak1 {m n : Nat} (h : (mag m).length < (mag n).length) : m < n := by
 have h1 := mag_length_le_iff.1 (zj (mag m).length)
 rcases zD m n with h2 | h2
 ·exact h2
 ·have := ac0 h2; omega
theorem agS {p q : Nat × Nat} (h : (mag p.1, mag p.2, ()) = (mag q.1, mag q.2, ())) : p = q := by
 injection h with h1 h2
 injection h2 with h2 _
 exact Prod.ext (afU h1) (afU h2)
theorem ab5 {n : Nat} (h : n < 10) : ab1 n = [UInt8.ofNat (48 + n)] := by unfold ab1; rw [Lib.decDigits, dif_pos h]
theorem aeX {n : Nat} (h : 10 ≤ n) : ab1 n = ab1 (n / 10) ++ [UInt8.ofNat (48 + n % 10)] := by
 unfold ab1; conv => lhs; rw [Lib.decDigits, dif_neg zb]
theorem aiQ (n : Nat) : ab1 n ≠ [] := by
 rcases zD n 10 with h | h
 ·rw [ab5 h]; simp
 ·rw [aeX h]; simp
theorem aBG {α : Type} {P : List α → Prop} (nil : P []) (snoc : ∀ l a, P l → P (l ++ [a])) (l : List α) : P l := by
 have H : ∀ m : List α, P m.reverse := by
  intro m
  induction m with
  | nil => exact nil
  | cons a m ih => rw [List.reverse_cons]; exact snoc _ _ ih
 have := H l.reverse
 rwa [List.reverse_reverse] at this
theorem aqC {d : Nat} (h : d < 10) : (UInt8.ofNat (48 + d)).toNat = 48 + d := by simp [UInt8.toNat_ofNat]; omega
theorem isD_append {s t : List UInt8} : isD (s ++ t) ↔ isD s ∧ isD t := by
 constructor
 ·intro h
  exact ⟨fun c hc => h c (wP _ hc), fun c hc => h c (List.mem_append_right _ hc)⟩
 ·rintro ⟨h1, h2⟩ c hc
  rcases zE.1 hc with h | h
  ·exact h1 c h
  ·exact h2 c h
theorem aIm {d : Nat} (h : d < 10) : isD [UInt8.ofNat (48 + d)] := by
 intro c hc
 have := ye.1 hc
 subst this
 rw [aqC h]; omega
theorem afR (a : Nat) (c : UInt8) (s : List UInt8) : az8 a (c :: s) = az8 (a * 10 + dv c) s := List.foldl_cons ..
theorem aCq (s t : List UInt8) (a : Nat) : az8 a (s ++ t) = az8 (az8 a s) t := List.foldl_append ..
theorem aLn (s : List UInt8) : ∀ a : Nat, az8 a s = a * 10 ^ s.length + az8 0 s := by
 induction s with
 | nil => intro a; simp [az8]
 | cons c s ih =>
  intro a
  rw [afR, afR, xV, zp]
  generalize dv c = x
  rw [ih (a * 10 + x), ih x, yh, yL]
  generalize 10 ^ s.length = y
  rw [zX, xv y 10, Nat.mul_assoc, wG]
theorem avU {d : Nat} (h : d < 10) : dv (UInt8.ofNat (48 + d)) = d := by unfold dv; rw [aqC h]; omega
theorem aOi (s : List UInt8) (a : Nat) : az8 a s = a * 10 ^ s.length + num s := aLn s a
theorem aj8 (s t : List UInt8) : num (s ++ t) = num s * 10 ^ t.length + num t := by
 show az8 0 (s ++ t) = _
 rw [aCq, aOi]
 rfl
theorem aOg {d : Nat} (h : d < 10) : num [UInt8.ofNat (48 + d)] = d := by
 show az8 0 [_] = d
 rw [afR, avU h]; simp [az8]
theorem amM (s : List UInt8) (c : UInt8) : num (s ++ [c]) = num s * 10 + dv c := by
 rw [aj8]; simp [num, az8]
theorem aHY {s : List UInt8} : isD s → num s < 10 ^ s.length := by
 induction s using aBG with
 | nil => intro _; simp [num, az8]
 | snoc s c ih =>
  intro h
  rw [isD_append] at h
  have h1 := ih h.1
  have h2 := h.2 c zf
  have h3 : dv c = c.toNat - 48 := rfl
  rw [amM, zJ, yj, yL]
  omega
theorem aqA (n : Nat) : isD (ab1 n) := by
 induction n using Nat.strongRecOn with
 | _ n ih =>
  rcases zD n 10 with h | h
  ·rw [ab5 h]; exact aIm h
  ·rw [aeX h, isD_append]
   exact ⟨ih (n / 10) zb, aIm zb⟩
theorem ap4 (n : Nat) : num (ab1 n) = n := by
 induction n using Nat.strongRecOn with
 | _ n ih =>
  rcases zD n 10 with h | h
  ·rw [ab5 h, aOg h]
  ·rw [aeX h, amM, ih (n / 10) zb, avU zb]
   omega
theorem ax4 {m n : Nat} (h : ab1 m = ab1 n) : m = n := by rw [← ap4 m, ← ap4 n, h]
theorem aiH (n : Nat) : n < 10 ^ (ab1 n).length := by
 have := aHY (aqA n)
 rwa [ap4] at this
theorem ab9 : ∀ {k n : Nat}, n < 10 ^ (k + 1) → (ab1 n).length ≤ k + 1
 | 0, n, h => by rw [ab5 (by simpa using h)]; simp
 | k + 1, n, h => by
  rcases zD n 10 with h9 | h9
  ·rw [ab5 h9]; simp
  ·have := ab9 (k := k) (n := n / 10) (by rw [yQ zb]; rw [yL] at h; exact h)
   rw [aeX h9]; simp; omega
theorem ajV (n : Nat) : 1 ≤ (ab1 n).length := zN.2 (aiQ n)
theorem aeA {k n : Nat} (hk : 1 ≤ k) : (ab1 n).length ≤ k ↔ n < 10 ^ k := by
 constructor
 ·intro h
  exact zZ (aiH n) (yw zb h)
 ·intro h
  obtain ⟨j, rfl⟩ : ∃ j, k = j + 1 := ⟨k - 1, by omega⟩
  exact ab9 h
theorem auF {k n : Nat} (h1 : 10 ^ k ≤ n) (h2 : n < 10 ^ (k + 1)) : (ab1 n).length = k + 1 := by
 have h3 := ab9 h2
 rcases zD k (ab1 n).length with h | h
 ·omega
 ·have := aiH n
  have h4 := yw (n := 10) zb h
  omega
theorem aCa {n : Nat} (hn : n ≠ 0) : 10 ^ ((ab1 n).length - 1) ≤ n := by
 rcases zD n (10 ^ ((ab1 n).length - 1)) with h | h
 ·have h1 := ajV n
  rcases zD 1 (ab1 n).length with h2 | h2
  ·have := (aeA (k := (ab1 n).length - 1) zb).2 h
   omega
  ·have : (ab1 n).length - 1 = 0 := zb
   rw [this] at h; simp at h; omega
 ·exact h
theorem aAZ {s : List UInt8} : isD s → s ≠ [] → (s.head? ≠ some 48 ∨ s.length = 1) → s = ab1 (num s) := by
 induction s using aBG with
 | nil => intro _ h; exact absurd rfl h
 | snoc s c ih =>
  intro h _ hz
  rw [isD_append] at h
  have h2 := h.2 c zf
  have hdv : dv c = c.toNat - 48 := rfl
  have hc : c = UInt8.ofNat (48 + (c.toNat - 48)) := by
   rw [show 48 + (c.toNat - 48) = c.toNat by omega]; simp
  rw [amM]
  by_cases hs : s = []
  ·subst hs
   simp only [xb]
   rw [show num [] * 10 + dv c = c.toNat - 48 by simp [num, az8, hdv], ab5 zb, ← hc]
  ·have hz' : s.head? ≠ some 48 := by
    rcases hz with h0 | h0
    ·cases s with
     | nil => exact absurd rfl hs
     | cons a s => simpa using h0
    ·have := zN.2 hs
     rw [zJ, yj] at h0; omega
   have h3 := ih h.1 hs (Or.inl hz')
   have h4 : 1 ≤ num s := by
    rcases zL (num s) with h0 | h0
    ·rw [h0, ab5 zb] at h3
     rw [h3] at hz'
     simp at hz'
    ·exact h0
   rw [aeX (n := num s * 10 + dv c) zb]
   rw [show (num s * 10 + dv c) / 10 = num s by omega, show (num s * 10 + dv c) % 10 = c.toNat - 48 by omega, ← h3, ← hc]
theorem aJc {n : Nat} (h : n ≠ 0) : (ab1 n).head? ≠ some 48 := by
 induction n using Nat.strongRecOn with
 | _ n ih =>
  rcases zD n 10 with h9 | h9
  ·rw [ab5 h9]
   simp only [wQ]
   intro h0
   injection h0 with h0
   have := aqC h9
   rw [h0] at this
   simp at this; omega
  ·rw [aeX h9]
   have := ih (n / 10) zb zb
   cases hd : ab1 (n / 10) with
   | nil => exact absurd hd (aiQ _)
   | cons a l => rw [hd] at this; simpa using this
theorem aCT (n : Nat) : dec (n : Int) = ab1 n := by unfold dec; rw [if_neg zb]; simp
theorem aiP {z : Int} (h : z < 0) : dec z = 45 :: ab1 z.natAbs := by unfold dec; rw [if_pos h]
theorem ac9 {z : Int} (h : 0 ≤ z) : dec z = ab1 z.natAbs := by unfold dec; rw [if_neg zb]
theorem aeB (n : Nat) : (ab1 n).head? ≠ some 45 := by
 cases hd : ab1 n with
 | nil => simp
 | cons a l =>
  have := aqA n a (by rw [hd]; simp)
  simp only [wQ]
  intro h
  injection h with h
  rw [h] at this
  simp at this
theorem aCU {a b : Int} (h : dec a = dec b) : a = b := by
 rcases yi a 0 with ha | ha <;> rcases yi b 0 with hb | hb
 ·rw [aiP ha, aiP hb] at h
  injection h with _ h
  have := ax4 h
  omega
 ·rw [aiP ha, ac9 hb] at h
  have := aeB b.natAbs
  rw [← h] at this
  simp at this
 ·rw [aiP hb, ac9 ha] at h
  have := aeB a.natAbs
  rw [h] at this
  simp at this
 ·rw [ac9 ha, ac9 hb] at h
  have := ax4 h
  omega
theorem sd {p : Prop} (h : p := by first | omega | ((try simp only [zz, zO, yO, yU, beq_eq_false_iff_ne, bne_eq_false_iff_eq, zK, ym]) <;> (try simp only [aaB, inb, inc, ge_iff_le, gt_iff_lt, zn, asT, ne_eq]) <;> omega) | ((try simp only [zz, zO, yO, yU, beq_eq_false_iff_ne, bne_eq_false_iff_eq, zK, ym]) <;> (try simp only [aaB, inb, inc, ge_iff_le, gt_iff_lt, zn, asT, ne_eq]) <;> (simp (disch := omega) only [aaC, aaL, aa5, ad3, aaQ, zp, zn, aaB]; omega)) | fail) : p := h
theorem za {α : Type} {x y : TT α} {r : Option α} (k : y.toO = r) (h : x.toO = y.toO := by first | exact uV rfl | exact uB rfl | exact uN sd rfl | exact uT sd rfl | exact uF sd rfl | exact uN (by simp) rfl) : x.toO = r := h.trans k
theorem sn {p : Prop} (h : p := by (try simp only [aaB, inb, inc, ge_iff_le, gt_iff_lt, zn, asT, ne_eq]); omega) : p := h
def aCd (k n : Nat) : List UInt8 := List.replicate (k - (ab1 n).length) 48 ++ ab1 n
theorem aKG {r : Nat} (h : r < 10) : aCd 1 r = [UInt8.ofNat (48 + r)] := by
 unfold aCd; rw [ab5 h]; rfl
theorem aGS {k r : Nat} (hk : 1 ≤ k) : aCd (k + 1) r = aCd k (r / 10) ++ [UInt8.ofNat (48 + r % 10)] := by
 unfold aCd
 rcases zD r 10 with h | h
 ·rw [ab5 h, yW h, yo h, ab5 (by omega : 0 < 10)]
  obtain ⟨j, rfl⟩ : ∃ j, k = j + 1 := ⟨k - 1, by omega⟩
  have e1 : j + 1 + 1 - [UInt8.ofNat (48 + r)].length = j + 1 := zf
  have e2 : j + 1 - [UInt8.ofNat (48 + 0)].length = j := zf
  rw [e1, e2, List.replicate_succ']
  rfl
 ·rw [aeX h, zJ, yj, Nat.add_sub_add_right, xa]
theorem aFD {q : Nat} (hq : q ≠ 0) : ∀ {k r : Nat}, 1 ≤ k → r < 10 ^ k → ab1 (q * 10 ^ k + r) = ab1 q ++ aCd k r := by
 intro k
 induction k with
 | zero => intro r h; omega
 | succ k ih =>
  intro r _ hr
  have h10 : 10 ≤ q * 10 ^ (k + 1) + r := by
   have h1 : 10 ^ (k + 1) ≤ q * 10 ^ (k + 1) := Nat.le_mul_of_pos_left _ zb
   have h2 : 10 ≤ 10 ^ (k + 1) := by
    have := yw (show 1 ≤ 10 by omega) (show 1 ≤ k + 1 by omega)
    simpa using this
   omega
  rw [aeX h10]
  have e1 : q * 10 ^ (k + 1) + r = 10 * (q * 10 ^ k) + r := by rw [yL]; congr 1; rw [← Nat.mul_assoc, xv]
  have ed : (q * 10 ^ (k + 1) + r) / 10 = q * 10 ^ k + r / 10 := by rw [e1]; omega
  have em : (q * 10 ^ (k + 1) + r) % 10 = r % 10 := by rw [e1]; omega
  rw [ed, em]
  rcases zL k with h | h
  ·subst h
   have hr' : r < 10 := by simpa using hr
   rw [yW hr', yo hr', aKG hr']
   simp
  ·have hr2 : r / 10 < 10 ^ k := by rw [yQ zb]; rw [yL] at hr; exact hr
   rw [ih h hr2, aGS h, xa]
def aC6 : List Int → List UInt8
 | [] => []
 | d :: r => match r with
  | [] => ab1 d.toNat
  | _ :: _ => aC6 r ++ aCd 9 d.toNat
theorem aEg (n : Nat) (hn : n ≠ 0) : aC6 (mag n) = ab1 n := by
 induction n using Nat.strongRecOn with
 | _ n ih =>
  unfold mag
  rw [agT zb hn]
  by_cases hq : n / 1000000000 = 0
  ·rw [hq, ac3]
   have : n < 1000000000 := by
    rcases zD n 1000000000 with h | h
    ·exact h
    ·have := Nat.div_pos h zb; omega
   simp only [aC6, zn]
   rw [yo this]
  ·have h1 := ih (n / 1000000000) (wz zb zb) hq
   unfold mag at h1
   cases hd : apV 1000000000 (n / 1000000000) with
   | nil => exact absurd hd (alX zb hq)
   | cons e r =>
    rw [hd] at h1
    simp only [aC6, zn]
    have h2 := aFD hq (k := 9) (r := n % 1000000000) zb (xl _ zb)
    have e : n / 1000000000 * 10 ^ 9 + n % 1000000000 = n := by
     have := Nat.div_add_mod n 1000000000
     omega
    rw [e] at h2
    rw [h2, ← h1]
    rfl
theorem aJs {l : List Int} {k : Nat} (hk : k + 1 = l.length) : aC6 (l.drop k) = ab1 (l[k]'zb).toNat := by
 rw [yv zb, List.drop_eq_nil_of_le zb]
 rfl
theorem aFP {l : List Int} {k : Nat} (hk : k + 1 < l.length) : aC6 (l.drop k) = aC6 (l.drop (k + 1)) ++ aCd 9 (l[k]'zb).toNat := by
 rw [yv zb, yv (i := k + 1) hk]
 rfl
theorem aON {d : Nat} (h : d < 1000000000) : (ab1 d).length ≤ 9 := ab9 (k := 8) h
theorem aKH {d : Nat} (h : d < 1000000000) : (aCd 9 d).length = 9 := by
 have := aON h
 unfold aCd; simp; omega
theorem ayE : ∀ {l : List Int}, Dg 1000000000 l → (aC6 l).length ≤ 9 * l.length
 | [], _ => by simp [aC6]
 | [d], h => by
  have := (aoQ h).2
  have := aON (d := d.toNat) zb
  simp only [aC6, yj]; omega
 | d :: e :: r, h => by
  have h1 := ayE (al5 h)
  have := (aoQ h).2
  have h2 := aKH (d := d.toNat) zb
  rw [show aC6 (d :: e :: r) = aC6 (e :: r) ++ aCd 9 d.toNat from rfl, zJ]
  simp only [yh] at h1 ⊢
  omega
def Bd (k n : Nat) : Prop := (mag n).length ≤ 1000000 * 4 ^ k
theorem acE {k j n : Nat} (h : Bd k n) (hk : k ≤ j) : Bd j n := zt h (yd _ (yw zb hk))
theorem aqD {k m n : Nat} (h : Bd k n) (hm : m ≤ n) : Bd k m := zt (ac0 hm) h
theorem amZ {k m n : Nat} (h1 : Bd k m) (h2 : Bd k n) : Bd (k + 1) (m * n) := by
 have := akX m n
 unfold Bd at *
 rw [yL]
 omega
theorem am0 {k m n : Nat} (h1 : Bd k m) (h2 : Bd k n) : Bd (k + 1) (m + n) := by
 have := at8 m n
 have h3 : 1 ≤ 4 ^ k := Nat.pow_pos zb
 unfold Bd at *
 rw [yL]
 omega
theorem ae8 {k m : Nat} (n : Nat) (h1 : Bd k m) : Bd k (m / n) := aqD h1 (Nat.div_le_self _ _)
theorem apL {k m : Nat} (n : Nat) (h1 : Bd k m) : Bd k (m % n) := aqD h1 (Nat.mod_le _ _)
theorem apM {k m n : Nat} (h1 : Bd k m) (h2 : Bd k n) : Bd k (Nat.gcd m n) := by
 rcases zL m with h | h
 ·subst h; rw [Nat.gcd_zero_left]; exact h2
 ·exact aqD h1 (Nat.gcd_le_left _ h)
theorem af4 {k : Nat} {a b : Int} (h1 : Bd k a.natAbs) (h2 : Bd k b.natAbs) : Bd (k + 1) (a + b).natAbs := aqD (am0 h1 h2) (Int.natAbs_add_le a b)
theorem aeY {k : Nat} {a b : Int} (h1 : Bd k a.natAbs) (h2 : Bd k b.natAbs) : Bd (k + 1) (a * b).natAbs := by rw [xL]; exact amZ h1 h2
theorem ai3 {k : Nat} {a : Int} (h1 : Bd k a.natAbs) : Bd k (-a).natAbs := by rw [Int.natAbs_neg]; exact h1
theorem atF {k n : Nat} (h : Bd k n) : Bd k (n : Int).natAbs := h
theorem aeP {n : Nat} (h : n < 1000000000000000000000000000) : Bd 0 n := by
 unfold Bd
 have : (mag n).length ≤ 3 := mag_length_le_iff.2 zb
 omega
theorem zd {p : Prop} (h : p := by repeat (first | assumption | exact acE (by assumption) (by omega) | exact aeP (by omega) | refine apM ?_ ?_ | refine ae8 _ ?_ | refine apL _ ?_ | refine af4 ?_ ?_ | refine aeY ?_ ?_ | refine ai3 ?_ | refine amZ ?_ ?_ | refine am0 ?_ ?_ | refine atF ?_)) : p := h
theorem at9 {n k : Nat} (h : (ab1 n).length ≤ k) : (mag n).length ≤ k := by
 rw [mag_length_le_iff]
 have h1 := aiH n
 have h2 : (10 : Nat) ^ (ab1 n).length ≤ 10 ^ (9 * k) := yw zb zb
 have h3 : (10 : Nat) ^ (9 * k) = 1000000000 ^ k := by rw [Nat.pow_mul]
 omega
theorem ag3 {n k : Nat} (h : (mag n).length ≤ k) : (ab1 n).length ≤ 9 * k + 1 := by
 rw [mag_length_le_iff] at h
 have h3 : (10 : Nat) ^ (9 * k) = 1000000000 ^ k := by rw [Nat.pow_mul]
 have h4 : (10 : Nat) ^ (9 * k) ≤ 10 ^ (9 * k + 1) := yw zb zb
 exact ab9 zb
theorem aQA {n : Nat} (h : (ab1 n).length ≤ 1000000) : Bd 0 n := at9 h
@[reducible] def sg (z : Int) : List Int × Bool × Unit := (mag z.natAbs, decide (z < 0), ())
theorem aGm {a b : Int} (h : sg a = sg b) : a = b := by
 obtain ⟨h1, h2⟩ := Prod.mk.inj h
 obtain ⟨h2, -⟩ := Prod.mk.inj h2
 have := afU h1
 simp only [decide_eq_decide] at h2
 omega
@[reducible] def rt (q : Rat) : (List Int × Bool × Unit) × List Int × Unit := (sg q.num, mag q.den, ())
theorem aDt {a b : Rat} (h : rt a = rt b) : a = b := by
 obtain ⟨h1, h2⟩ := Prod.mk.inj h
 obtain ⟨h2, -⟩ := Prod.mk.inj h2
 exact Rat.ext (aGm h1) (afU h2)
@[reducible] def fx (q : Rat) : List UInt8 × List UInt8 × Unit := (dec q.num, ab1 q.den, ())
theorem aRV {a b : Rat} (h : fx a = fx b) : a = b := by
 obtain ⟨h1, h2⟩ := Prod.mk.inj h
 obtain ⟨h2, -⟩ := Prod.mk.inj h2
 exact Rat.ext (aCU h1) (ax4 h2)
def Fit (z : Int) : Prop := (ab1 z.natAbs).length ≤ 600
instance (z : Int) : Decidable (Fit z) := inferInstanceAs (Decidable (_ ≤ _))
def aNI (q : Rat) : Prop := Fit q.num ∧ Fit q.den
instance (q : Rat) : Decidable (aNI q) := inferInstanceAs (Decidable (_ ∧ _))
theorem aBc {z : Int} (h : Fit z) : Bd 0 z.natAbs := aQA (zt h zb)
noncomputable def rdW (s : List UInt8) : Option Int := open Classical in if h : ∃ z : Int, Fit z ∧ dec z = s then some h.choose else none
theorem aw1 {z : Int} (h : Fit z) : rdW (dec z) = some z := by
 have hex : ∃ w : Int, Fit w ∧ dec w = dec z := ⟨z, h, rfl⟩
 unfold rdW
 rw [dif_pos hex, aCU hex.choose_spec.2]
theorem aw0 {s : List UInt8} {z : Int} (h : rdW s = some z) : Fit z ∧ s = dec z := by
 unfold rdW at h
 split at h
 ·rename_i hex
  injection h with h
  subst h
  exact ⟨hex.choose_spec.1, hex.choose_spec.2.symm⟩
 ·cases h
theorem aKu {s : List UInt8} (h : ∀ z : Int, Fit z → dec z ≠ s) : rdW s = none := by
 unfold rdW
 rw [dif_neg (fun ⟨z, h1, h2⟩ => h z h1 h2)]
noncomputable def rdF (s : List UInt8 × List UInt8 × Unit) : Option Rat := open Classical in if h : ∃ q : Rat, aNI q ∧ fx q = s then some h.choose else none
theorem aKv {s : List UInt8 × List UInt8 × Unit} {q : Rat} (h : rdF s = some q) : aNI q ∧ s = fx q := by
 unfold rdF at h
 split at h
 ·rename_i hex
  injection h with h
  subst h
  exact ⟨hex.choose_spec.1, hex.choose_spec.2.symm⟩
 ·cases h
def wrW (z : Int) : List UInt8 × Int × Unit := if Fit z then (dec z, 0, ()) else ([], 6, ())
def wrF (q : Rat) : (List UInt8 × List UInt8 × Unit) × Int × Unit := if aNI q then (fx q, 0, ()) else (([], [], ()), 6, ())
def acR (x : List UInt8 × List UInt8 × Unit) : Option (List UInt8 × Bool × Unit) := some (if x.2.1.isPrefixOf x.1 then (x.1.drop x.2.1.length, true, ()) else (x.1, false, ()))
theorem aBp (n : Nat) : adO (mag n, ()) = some (decide (n = 0), ()) := by
 unfold adO
 rcases zL n with h | h
 ·subst h; simp [mag_zero, len]
 ·have : (mag n) ≠ [] := fun h2 => by have := mag_nil_iff.1 h2; omega
  have h3 : (mag n).length ≠ 0 := fun h2 => this (yk.1 h2)
  have : (len (mag n) == 0) = false := by rw [aaB, beq_eq_false_iff_ne]; omega
  rw [this, zk zb]
theorem aBq {a b : Nat} (h1 : Bd 8 a) (h2 : Bd 8 b) : ad0 (mag a, mag b, ()) = some (aBx a b, ()) := aa0 (enc := fun p : Nat × Nat => (mag p.1, mag p.2, ())) (a, b) ⟨zt h1 zc, zt h2 zc⟩ (fun b hb => agS hb)
theorem aJM {a b : Nat} (h1 : Bd 8 a) (h2 : Bd 8 b) : aBl (mag a, mag b, ()) = some (mag (a + b), ()) := aa0 (enc := fun p : Nat × Nat => (mag p.1, mag p.2, ())) (a, b) ⟨zt h1 zc, zt h2 zc⟩ (fun b hb => agS hb)
theorem awB {a b : Nat} (h1 : Bd 8 a) (h2 : b ≤ a) : aoN (mag a, mag b, ()) = some (mag (a - b), ()) := aa0 (enc := fun p : Nat × Nat => (mag p.1, mag p.2, ())) (a, b) ⟨zt h1 zc, h2⟩ (fun b hb => agS hb)
theorem aF0 {n : Nat} (h : Bd 8 n) : afM (ab1 n, ()) = some (mag n, ()) := by
 unfold afM
 have hl : (ab1 n).length ≤ 1000000000000 :=  zt (ag3 h) zc
 rw [if_pos ⟨aqA n, aiQ n, hl⟩]
 simp only [ap4]
theorem atU {n : Nat} (h : Bd 8 n) : af9 (mag n, ()) = some (((ab1 n).length : Int), ()) := aa0 (enc := fun n : Nat => (mag n, ())) n (zt h zc) (fun b hb => afU (Prod.mk.inj hb).1)
theorem al4 {n : Nat} (h : Bd 0 n) : agA (mag n, ()) = some (ab1 n, ()) := aa0 (enc := fun n : Nat => (mag n, ())) n (zt h zc) (fun b hb => afU (Prod.mk.inj hb).1)
theorem atV {a b : Nat} (h1 : Bd 8 a) (h2 : Bd 8 b) (h3 : b ≠ 0) : aeM (mag a, mag b, ()) = some (mag (a / b), mag (a % b), ()) := aa0 (enc := fun p : Nat × Nat => (mag p.1, mag p.2, ())) (a, b) ⟨zt h1 zc, zt h2 zc, h3⟩ (fun b hb => agS hb)
theorem aMb {a b : Nat} (h1 : Bd 8 a) (h2 : Bd 8 b) : aqJ (mag a, mag b, ()) = some (mag (Nat.gcd a b), ()) := aa0 (enc := fun p : Nat × Nat => (mag p.1, mag p.2, ())) (a, b) ⟨zt h1 zc, zt h2 zc⟩ (fun b hb => agS hb)
abbrev SgT := List Int × Bool × Unit
abbrev RtT := (List Int × Bool × Unit) × List Int × Unit
abbrev FxT := List UInt8 × List UInt8 × Unit
def BdQ (k : Nat) (q : Rat) : Prop := Bd k q.num.natAbs ∧ Bd k q.den
def fl (q : Rat) : Int := q.num / q.den
def ofQ (n d : Int) : FxT × Int × Unit := if d = 0 then (([], [], ()), 7, ()) else wrF (Rat.divInt n d)
def ae4 (z : Int) : Prop := -9223372036854775808 ≤ z ∧ z ≤ 9223372036854775807
instance (z : Int) : Decidable (ae4 z) := inferInstanceAs (Decidable (_ ∧ _))
def adC (x : List Int × Bool × Unit) : Option (SgT × Unit) := some ((x.1, x.2.1 && !(len x.1 == 0), ()), ())
noncomputable def aL5 : SgT × SgT × Unit → Option (SgT × Unit) := ai8 (fun x : Int × Int => (sg x.1, sg x.2, ())) (fun x => Bd 7 x.1.natAbs ∧ Bd 7 x.2.natAbs) (fun x => (sg (x.1 + x.2), ()))
noncomputable def am8 : SgT × Unit → Option (List UInt8 × Unit) := ai8 (fun x : Int => (sg x, ())) (fun x => Bd 0 x.natAbs) (fun x => (dec x, ()))
noncomputable def ahX : List UInt8 × Unit → Option (SgT × Unit) := ai8 (fun x : Int => (dec x, ())) (fun x => Bd 7 x.natAbs) (fun x => (sg x, ()))
noncomputable def aiU (x : List UInt8 × Unit) : Option (SgT × Bool × Unit) := some (match rdW x.1 with | some z => (sg z, true, ()) | none => (([], false, ()), false, ()))
noncomputable def ahP (x : List UInt8 × Unit) : Option (Int × Unit) := some (if (rdW x.1).isSome then 0 else 10, ())
noncomputable def aQX (x : List UInt8 × List UInt8 × Unit) : Option (SgT × SgT × Int × Unit) := some (match rdW x.1, rdW x.2.1 with | some z, some w => (sg z, sg w, 0, ()) | _, _ => (([], false, ()), ([], false, ()), 10, ()))
noncomputable def ahU : RtT × Unit → Option (FxT × Int × Unit) := ai8 (fun x : Rat => (rt x, ())) (fun x => BdQ 8 x) (fun x => wrF x)
noncomputable def aiY : SgT × List Int × Unit → Option (RtT × Unit) := ai8 (fun x : Int × Nat => (sg x.1, mag x.2, ())) (fun x => Bd 7 x.1.natAbs ∧ Bd 7 x.2 ∧ x.2 ≠ 0) (fun x => (rt (mkRat x.1 x.2), ()))
noncomputable def apO : RtT × Unit → Option (RtT × Unit) := ai8 (fun x : Rat => (rt x, ())) (fun x => BdQ 7 x ∧ x ≠ 0) (fun x => (rt x⁻¹, ()))
noncomputable def aEk : RtT × RtT × Unit → Option (RtT × Unit) := ai8 (fun x : Rat × Rat => (rt x.1, rt x.2, ())) (fun x => BdQ 3 x.1 ∧ BdQ 3 x.2) (fun x => (rt (x.1 * x.2), ()))
noncomputable def akO (x : FxT × Unit) : Option (RtT × Bool × Unit) := some (match rdF x.1 with | some q => (rt q, true, ()) | none => ((([], false, ()), [], ()), false, ()))
noncomputable def am9 (x : List UInt8 × List UInt8 × Unit) : Option (FxT × Int × Unit) := some (match rdW x.1, rdW x.2.1 with | some n, some d => ofQ n d | _, _ => (([], [], ()), 10, ()))
noncomputable def ahY (x : Int × Int × Unit) : Option (FxT × Int × Unit) := if ae4 x.1 ∧ ae4 x.2.1 then some (ofQ x.1 x.2.1) else none
noncomputable def aJI (x : FxT × FxT × Unit) : Option (FxT × Int × Unit) := some (match rdF x.1, rdF x.2.1 with | some p, some q => if q = 0 then (([], [], ()), 7, ()) else wrF (p / q) | _, _ => (([], [], ()), 20, ()))
noncomputable def atO (x : Int × Unit) : Option (List UInt8 × Unit) := if ae4 x.1 then some (dec x.1, ()) else none
theorem aLC (z : Int) : Lib.itoa z = dec z := by
 unfold Lib.itoa dec ab1
 by_cases hz : z < 0
 ·rw [if_pos hz, if_pos hz]
 ·rw [if_neg hz, if_neg hz]
  congr 1
  omega
theorem aPm {q : Rat} {n : Int} {D : Nat} (nz : D ≠ 0) (c : n.natAbs.Coprime D) (h : q = mkRat n D) : q.num = n ∧ q.den = D := by
 rw [h, ← Rat.mk_eq_mkRat n D nz c]; exact ⟨rfl, rfl⟩
theorem aH5 (p q : Rat) : ∃ g h : Nat, ∃ s t : Int, g = Nat.gcd p.num.natAbs q.den ∧ h = Nat.gcd q.num.natAbs p.den ∧ g ≠ 0 ∧ h ≠ 0 ∧ p.num = g * s ∧ q.num = h * t ∧ (p * q).num = s * t ∧ (p * q).den = (p.den / h) * (q.den / g) := by
 obtain ⟨g, hg⟩ : ∃ g, g = Nat.gcd p.num.natAbs q.den := ⟨_, rfl⟩
 obtain ⟨h, hh⟩ : ∃ h, h = Nat.gcd q.num.natAbs p.den := ⟨_, rfl⟩
 have g0 : 0 < g := by rw [hg]; exact wC _ q.den_pos
 have h0 : 0 < h := by rw [hh]; exact wC _ p.den_pos
 obtain ⟨s, hs⟩ : (g : Int) ∣ p.num := Int.ofNat_dvd_left.2 (hg ▸ Nat.gcd_dvd_left _ _)
 obtain ⟨t, ht⟩ : (h : Int) ∣ q.num := Int.ofNat_dvd_left.2 (hh ▸ Nat.gcd_dvd_left _ _)
 obtain ⟨d', hd⟩ : g ∣ q.den := hg ▸ Nat.gcd_dvd_right _ _
 obtain ⟨b', hb⟩ : h ∣ p.den := hh ▸ Nat.gcd_dvd_right _ _
 have hb' : p.den / h = b' := by rw [hb, xq _ h0]
 have hd' : q.den / g = d' := by rw [hd, xq _ g0]
 have as1 : p.num.natAbs / g = s.natAbs := by rw [hs, xL, xf, xq _ g0]
 have at' : q.num.natAbs / h = t.natAbs := by rw [ht, xL, xf, xq _ h0]
 have ds : s.natAbs ∣ p.num.natAbs := by rw [hs, xL]; exact Nat.dvd_mul_left _ _
 have dt : t.natAbs ∣ q.num.natAbs := by rw [ht, xL]; exact Nat.dvd_mul_left _ _
 have db : b' ∣ p.den := ⟨h, by rw [hb, xv]⟩
 have dd : d' ∣ q.den := ⟨g, by rw [hd, xv]⟩
 have c1 : s.natAbs.Coprime b' := Nat.Coprime.coprime_dvd_left ds (Nat.Coprime.coprime_dvd_right db p.reduced)
 have c2 : s.natAbs.Coprime d' := by
  have := Nat.coprime_div_gcd_div_gcd (m := p.num.natAbs) (n := q.den) (by rw [← hg]; exact g0)
  rwa [← hg, as1, hd'] at this
 have c3 : t.natAbs.Coprime d' := Nat.Coprime.coprime_dvd_left dt (Nat.Coprime.coprime_dvd_right dd q.reduced)
 have c4 : t.natAbs.Coprime b' := by
  have := Nat.coprime_div_gcd_div_gcd (m := q.num.natAbs) (n := p.den) (by rw [← hh]; exact h0)
  rwa [← hh, at', hb'] at this
 have hc : (s * t).natAbs.Coprime (b' * d') := by
  rw [xL]
  exact Nat.Coprime.mul_left (Nat.Coprime.mul_right c1 c2) (Nat.Coprime.mul_right c4 c3)
 have nb : b' ≠ 0 := by rintro rfl; exact p.den_nz (by rw [hb]; simp)
 have nd : d' ≠ 0 := by rintro rfl; exact q.den_nz (by rw [hd]; simp)
 have nz : b' * d' ≠ 0 := Nat.mul_ne_zero nb nd
 have hv : p * q = mkRat (s * t) (b' * d') := by
  rw [Rat.mul_def', Rat.mkRat_eq_iff (Nat.mul_ne_zero p.den_nz q.den_nz) nz, hs, ht]
  conv => lhs; rw [xA]
  rw [hb, hd]
  simp only [xA]
  grind
 obtain ⟨r1, r2⟩ := aPm nz hc hv
 exact ⟨g, h, s, t, hg, hh, by omega, by omega, hs, ht, r1, by rw [r2, hb', hd']⟩
theorem afS (n : Int) {d : Nat} (hd : d ≠ 0) : ∃ g : Nat, ∃ t : Int, g = Nat.gcd n.natAbs d ∧ g ≠ 0 ∧ n = g * t ∧ (mkRat n d).num = t ∧ (mkRat n d).den = d / g := by
 obtain ⟨g, hg⟩ : ∃ g, g = Nat.gcd n.natAbs d := ⟨_, rfl⟩
 have g0 : 0 < g := by rw [hg]; exact wC _ zb
 obtain ⟨t, ht⟩ : (g : Int) ∣ n := Int.ofNat_dvd_left.2 (hg ▸ Nat.gcd_dvd_left _ _)
 refine ⟨g, t, hg, by omega, ht, ?_, ?_⟩
 ·rw [Rat.num_mkRat, if_neg hd, xP, ← hg, ht, Int.mul_ediv_cancel_left _ zb]
 ·rw [Rat.den_mkRat, if_neg hd, xP, ← hg]
abbrev BdT := Int × Int × Unit
def okB (lo hi : Int) : Prop := -1000000000000000000 ≤ lo ∧ lo ≤ hi ∧ hi ≤ 1000000000000000000
instance (lo hi : Int) : Decidable (okB lo hi) := inferInstanceAs (Decidable (_ ∧ _))
def mkB (e lo hi : Int) : BdT × Int × Unit := if okB lo hi then ((lo, hi, ()), 0, ()) else ((0, 0, ()), e, ())
def aQW (a b : BdT) : BdT × Int × Unit := if okB a.1 a.2.1 ∧ okB b.1 b.2.1 then mkB 6 (a.1 + b.1) (a.2.1 + b.2.1) else ((0, 0, ()), 30, ())
def okE (p q : Int) : Prop := 1 ≤ p ∧ p ≤ 36 ∧ 1 ≤ q ∧ q ≤ 12
instance (p q : Int) : Decidable (okE p q) := inferInstanceAs (Decidable (_ ∧ _))
abbrev aJG := Int × Int × Int × Int × Int × Int × Unit
abbrev CvT := Int × List Int × List aJG × Unit
def inR (n a b : Int) : Prop := a ≤ n ∧ n ≤ b
instance (n a b : Int) : Decidable (inR n a b) := inferInstanceAs (Decidable (_ ∧ _))
def aNj (s : aJG) : Prop := inR s.2.1 (-100000000) 100000000 ∧ inR s.2.2.1 (-100000000) 100000000 ∧ inR s.2.2.2.2.2.1 (-100000000) 100000000 ∧ inR s.2.2.2.1 1 36 ∧ inR s.2.2.2.2.1 1 12 ∧ Nat.gcd s.2.2.2.1.natAbs s.2.2.2.2.1.natAbs = 1
instance (s : aJG) : Decidable (aNj s) := inferInstanceAs (Decidable (_ ∧ _))
def aNV (last : Int) (s : aJG) : Prop := aNj s ∧ inR s.1 (last + 1) 1000000
instance (last : Int) (s : aJG) : Decidable (aNV last s) := inferInstanceAs (Decidable (_ ∧ _))
def aDs : Int → List aJG → Prop
 | last, [] => last = 1000000
 | last, s :: r => aNV last s ∧ aDs s.1 r
def aGo : (last : Int) → (l : List aJG) → Decidable (aDs last l)
 | last, [] => inferInstanceAs (Decidable (last = 1000000))
 | last, s :: r => @instDecidableAnd _ _ (inferInstanceAs (Decidable (aNV last s))) (aGo s.1 r)
instance (last : Int) (l : List aJG) : Decidable (aDs last l) := aGo last l
def aPb (l : List Int) : Prop := 2 ≤ l.length ∧ l.length ≤ 17 ∧ ∀ v ∈ l, inR v 0 65535
instance (l : List Int) : Decidable (aPb l) := inferInstanceAs (Decidable (_ ∧ _ ∧ _))
def aMi (l : List aJG) : Prop := 1 ≤ l.length ∧ l.length ≤ 4 ∧ aDs 0 l
instance (l : List aJG) : Decidable (aMi l) := inferInstanceAs (Decidable (_ ∧ _ ∧ _))
def aMl (c : CvT) : Prop := (c.1 = 1 ∧ c.2.1 = [] ∧ c.2.2.1 = []) ∨ (c.1 = 2 ∧ aPb c.2.1 ∧ c.2.2.1 = []) ∨ (c.1 = 3 ∧ c.2.1 = [] ∧ aMi c.2.2.1)
instance (c : CvT) : Decidable (aMl c) := inferInstanceAs (Decidable (_ ∨ _ ∨ _))
noncomputable def eqb {α : Type} (a b : α) : Bool := open Classical in if a = b then true else false
theorem ap9 {α : Type} {a b : α} (h : a = b) : eqb a b = true := if_pos h
def aQu (q : Rat) : Rat := if q < 0 then 0 else if q > 1 then 1 else q
def aQn (c : CvT) : Prop := aMl c ∧ ∀ s ∈ c.2.2.1, s.2.2.2.2.1 = 1
instance (c : CvT) : Decidable (aQn c) := inferInstanceAs (Decidable (_ ∧ _))
def dig (n : Nat) : List Int := apV 10000 n
theorem adE (n : Nat) : Dg 10000 (dig n) := aCS (B := 10000) zb n
theorem aEb (n : Nat) : Cn (dig n) := aI4 (B := 10000) zb n
theorem ag5 (n : Nat) : V 10000 (dig n) = n := aBj (B := 10000) zb n
theorem asY {m n : Nat} (h : dig m = dig n) : m = n := aEa (B := 10000) zb h
theorem ax0 {l : List Int} {n : Nat} (h1 : Dg 10000 l) (h2 : Cn l) (h3 : V 10000 l = n) : l = dig n := asX (B := 10000) zb h1 h2 h3
theorem dig_length_le_iff {n k : Nat} : (dig n).length ≤ k ↔ n < 10000 ^ k := by
 constructor
 ·intro h
  have h1 := ar0 (B := 10000) zb n
  exact zZ h1 (yw zb h)
 ·intro h
  exact aeO zb h
theorem abX {m n : Nat} (h : m ≤ n) : (dig m).length ≤ (dig n).length := by
 rw [dig_length_le_iff]
 exact Nat.lt_of_le_of_lt h (dig_length_le_iff.1 (zj _))
theorem dig_zero : dig 0 = [] := ac3 _
theorem dig_nil_iff {n : Nat} : dig n = [] ↔ n = 0 := by
 constructor
 ·intro h
  exact asY (h.trans dig_zero.symm)
 ·rintro rfl; exact dig_zero
theorem aI5 {d : Nat} (h0 : d ≠ 0) (h1 : d < 10000) : dig d = [(d : Int)] := avV zb h0 h1
theorem akZ {m n : Nat} (h : (dig m).length < (dig n).length) : m < n := by
 rcases zD m n with h2 | h2
 ·exact h2
 ·have := abX h2; omega
theorem avX {n k : Nat} (h : (mag n).length ≤ k) : (dig n).length ≤ 3 * k := by
 rw [mag_length_le_iff] at h
 rw [dig_length_le_iff, Nat.pow_mul]
 exact zZ h (Nat.pow_le_pow_left zb _)
theorem aBd {k n : Nat} (h : Bd k n) (hk : k ≤ 8) : (dig n).length ≤ 200000000000 := by
 have h1 : Bd 8 n := acE h hk
 have h2 := avX (k := 1000000 * 4 ^ 8) h1
 omega
@[reducible] def pl (z : Int) : Bool × List Int × Unit := (decide (z < 0), dig z.natAbs, ())
theorem arK {a b : Int} (h : pl a = pl b) : a = b := by
 obtain ⟨h1, h2⟩ := Prod.mk.inj h
 obtain ⟨h2, -⟩ := Prod.mk.inj h2
 have := asY h2
 simp only [decide_eq_decide] at h1
 omega
abbrev PlT := Bool × List Int × Unit
abbrev RaT := PlT × PlT × Unit
@[reducible] def ra (q : Rat) : RaT := (pl q.num, pl q.den, ())
theorem aPn {a b : Rat} (h : ra a = ra b) : a = b := by
 obtain ⟨h1, h2⟩ := Prod.mk.inj h
 obtain ⟨h2, -⟩ := Prod.mk.inj h2
 have := arK h2
 exact Rat.ext (arK h1) zb
def aKa (a b : List Int) : Nat → Int
 | 0 => 0
 | k + 1 => if a.getD k 0 ≠ b.getD k 0 then a.getD k 0 - b.getD k 0 else aKa a b k
def aNf (a b : List Int) : Int := if a.length ≠ b.length then (a.length : Int) - b.length else aKa a b a.length
open Classical in
noncomputable def abM (x : List Int × Unit) : Option (List Int × Unit) := if Dg 10000 x.1 ∧ x.1.length ≤ 1000000000000 then some (dig (V 10000 x.1).toNat, ()) else none
open Classical in
noncomputable def abY (x : Bool × List Int × Unit) : Option (PlT × Unit) := if Dg 10000 x.2.1 ∧ x.2.1.length ≤ 1000000000000 then some ((x.1 && decide (V 10000 x.2.1 ≠ 0), dig (V 10000 x.2.1).toNat, ()), ()) else none
noncomputable def abP (x : Int × Unit) : Option (PlT × Unit) := if ae4 x.1 then some (pl x.1, ()) else none
def auB (n : Nat) : List UInt8 := [UInt8.ofNat (48 + n / 1000), UInt8.ofNat (48 + n / 100 % 10), UInt8.ofNat (48 + n / 10 % 10), UInt8.ofNat (48 + n % 10)]
noncomputable def am6 : Int × Unit → Option (List UInt8 × Unit) := ai8 (fun n : Nat => ((n : Int), ())) (fun n => n < 10000) (fun n => (auB n, ()))
noncomputable def am7 : PlT × Unit → Option (List UInt8 × Unit) := ai8 (fun z : Int => (pl z, ())) (fun z => Bd 6 z.natAbs) (fun z => (dec z, ()))
noncomputable def akK : PlT × Unit → Option (List UInt8 × Int × Unit) := ai8 (fun z : Int => (pl z, ())) (fun z => Bd 6 z.natAbs) (fun z => wrW z)
noncomputable def adZ (x : List Int × List Int × Unit) : Option (Int × Unit) := open Classical in if Dg 10000 x.1 ∧ Dg 10000 x.2.1 ∧ x.1.length ≤ 1000000000000 ∧ x.2.1.length ≤ 1000000000000 then some (aNf x.1 x.2.1, ()) else none
noncomputable def aqI : List Int × List Int × Unit → Option (List Int × Unit) := ai8 (fun p : Nat × Nat => (dig p.1, dig p.2, ())) (fun p => (dig p.1).length ≤ 1000000000000 ∧ (dig p.2).length ≤ 1000000000000) (fun p => (dig (p.1 + p.2), ()))
open Classical in
noncomputable def aaY (x : List Int × List Int × Unit) : Option (List Int × Unit) := if Dg 10000 x.1 ∧ Dg 10000 x.2.1 ∧ x.1.length ≤ 1000000000000 ∧ x.2.1.length ≤ x.1.length ∧ V 10000 x.2.1 ≤ V 10000 x.1 then some (dig (V 10000 x.1 - V 10000 x.2.1).toNat, ()) else none
open Classical in
noncomputable def abF (x : List Int × List Int × Unit) : Option (List Int × Unit) := if Dg 10000 x.1 ∧ (Dg 10000 x.2.1 ∨ x.2.1 = [10000]) ∧ x.1.length ≤ 400000000000 ∧ x.2.1.length ≤ 400000000000 then some (dig (V 10000 x.1 * V 10000 x.2.1).toNat, ()) else none
noncomputable def am5 : List Int × Int × Unit → Option (List Int × Int × Unit) := ai8 (fun p : Nat × Nat => (dig p.1, (p.2 : Int), ())) (fun p => (dig p.1).length ≤ 1000000000000 ∧ 0 < p.2 ∧ p.2 < 10000) (fun p => (dig (p.1 / p.2), ((p.1 % p.2 : Nat) : Int), ()))
noncomputable def ahR : List Int × List Int × Unit → Option (List Int × List Int × Unit) := ai8 (fun p : Nat × Nat => (dig p.1, dig p.2, ())) (fun p => (dig p.1).length ≤ 200000000000 ∧ (dig p.2).length ≤ 200000000000 ∧ p.2 ≠ 0) (fun p => (dig (p.1 / p.2), dig (p.1 % p.2), ()))
noncomputable def ahS : PlT × Unit → Option (PlT × Unit) := ai8 (fun z : Int => (pl z, ())) (fun z => Bd 8 z.natAbs) (fun z => (pl (-z), ()))
noncomputable def af8 : PlT × PlT × Unit → Option (PlT × Unit) := ai8 (fun p : Int × Int => (pl p.1, pl p.2, ())) (fun p => Bd 7 p.1.natAbs ∧ Bd 7 p.2.natAbs) (fun p => (pl (p.1 + p.2), ()))
noncomputable def akL : PlT × PlT × Unit → Option (PlT × Unit) := ai8 (fun p : Int × Int => (pl p.1, pl p.2, ())) (fun p => Bd 7 p.1.natAbs ∧ Bd 7 p.2.natAbs) (fun p => (pl (p.1 - p.2), ()))
noncomputable def aeK : PlT × PlT × Unit → Option (PlT × PlT × Unit) := ai8 (fun p : Int × Int => (pl p.1, pl p.2, ())) (fun p => Bd 6 p.1.natAbs ∧ Bd 6 p.2.natAbs ∧ p.2 ≠ 0) (fun p => (pl (p.1 / p.2), pl (p.1 % p.2), ()))
noncomputable def ae0 : PlT × PlT × Unit → Option (PlT × Unit) := ai8 (fun p : Int × Int => (pl p.1, pl p.2, ())) (fun p => Bd 8 p.1.natAbs ∧ Bd 8 p.2.natAbs) (fun p => (pl (Nat.gcd p.1.natAbs p.2.natAbs), ()))
def shF (x : FxT) : Prop := x.1.length ≤ 1000000000000 ∧ x.2.1.length ≤ 1000000000000
instance (x : FxT) : Decidable (shF x) := inferInstanceAs (Decidable (_ ∧ _))
noncomputable def aiW : PlT × PlT × Unit → Option (RaT × Unit) := ai8 (fun x : Int × Int => (pl x.1, pl x.2, ())) (fun x => Bd 6 x.1.natAbs ∧ Bd 6 x.2.natAbs ∧ x.2 ≠ 0) (fun x => (ra (Rat.divInt x.1 x.2), ()))
noncomputable def akJ : Int × Int × Unit → Option (RaT × Unit) := ai8 (fun x : Int × Int => (x.1, x.2, ())) (fun x => ae4 x.1 ∧ ae4 x.2 ∧ x.2 ≠ 0) (fun x => (ra (Rat.divInt x.1 x.2), ()))
noncomputable def aqH : RaT × Unit → Option (FxT × Int × Unit) := ai8 (fun x : Rat => (ra x, ())) (fun x => BdQ 6 x) (fun x => wrF x)
noncomputable def atP (x : Int × Int × Unit) : Option (FxT × Int × Unit) := ahY x
def shC (c : CvT) : Prop := c.2.1.length ≤ 1000000000000 ∧ c.2.2.1.length ≤ 1000000000000
instance (c : CvT) : Decidable (shC c) := inferInstanceAs (Decidable (_ ∧ _))
noncomputable def aQ6 (q : Rat) : Option Rat := if aNI q then some q else none
end Go.Vs
namespace Go.Vg
abbrev TT.tt {α : Type} (x : TT α) : TT α := .triv (true = true) rfl x
abbrev TT.tr {α : Type} (x : TT α) : TT α := .triv True trivial x
abbrev TT.wV {α : Type} (p : Prop) (x : TT α) (h : p := by repeat' constructor) : TT α := .triv p h x
end Go.Vg
namespace Go.Vs
open Go Go.Vg
abbrev Qq {α : Sort _} (x : α) : Prop := x = x
theorem tv {p : Prop} (h : p := by repeat' constructor) : p := h
abbrev wZ {α₁ : Sort _} (a : α₁) : Prop := Qq a ∧ True
abbrev vu {α₁ α₂ : Sort _} (a : α₁) (b : α₂) : Prop := Qq a ∧ Qq b ∧ True
abbrev vj {α₁ α₂ α₃ : Sort _} (a : α₁) (b : α₂) (c : α₃) : Prop := Qq a ∧ Qq b ∧ Qq c ∧ True
abbrev vh {α₁ α₂ α₃ α₄ : Sort _} (a : α₁) (b : α₂) (c : α₃) (d : α₄) : Prop := Qq a ∧ Qq b ∧ Qq c ∧ Qq d ∧ True
abbrev vB {α₁ α₂ α₃ α₄ α₅ : Sort _} (a : α₁) (b : α₂) (c : α₃) (d : α₄) (e : α₅) : Prop := Qq a ∧ Qq b ∧ Qq c ∧ Qq d ∧ Qq e ∧ True
abbrev vA {α₁ α₂ α₃ α₄ α₅ α₆ : Sort _} (a : α₁) (b : α₂) (c : α₃) (d : α₄) (e : α₅) (f : α₆) : Prop := Qq a ∧ Qq b ∧ Qq c ∧ Qq d ∧ Qq e ∧ Qq f ∧ True
abbrev vq {α₁ α₂ : Sort _} (a : α₁) (b : α₂) : Prop := Qq a ∧ Qq b
abbrev wX {α₁ α₂ α₃ : Sort _} (a : α₁) (b : α₂) (c : α₃) : Prop := Qq a ∧ Qq b ∧ Qq c
abbrev vo {α₁ α₂ α₃ α₄ : Sort _} (a : α₁) (b : α₂) (c : α₃) (d : α₄) : Prop := Qq a ∧ Qq b ∧ Qq c ∧ Qq d
abbrev wY {α₁ : Sort _} (a : α₁) (R : Prop) : Prop := Qq a ∧ R
abbrev vt {α₁ α₂ : Sort _} (a : α₁) (b : α₂) (R : Prop) : Prop := Qq a ∧ Qq b ∧ R
abbrev ve {α₁ α₂ α₃ : Sort _} (a : α₁) (b : α₂) (c : α₃) (R : Prop) : Prop := Qq a ∧ Qq b ∧ Qq c ∧ R
abbrev wW {α₁ α₂ α₃ α₄ : Sort _} (a : α₁) (b : α₂) (c : α₃) (d : α₄) (R : Prop) : Prop := Qq a ∧ Qq b ∧ Qq c ∧ Qq d ∧ R
abbrev vl {α₁ α₂ α₃ α₄ α₅ : Sort _} (a : α₁) (b : α₂) (c : α₃) (d : α₄) (e : α₅) (R : Prop) : Prop := Qq a ∧ Qq b ∧ Qq c ∧ Qq d ∧ Qq e ∧ R
abbrev vz {α₁ α₂ α₃ α₄ α₅ α₆ : Sort _} (a : α₁) (b : α₂) (c : α₃) (d : α₄) (e : α₅) (f : α₆) (R : Prop) : Prop := Qq a ∧ Qq b ∧ Qq c ∧ Qq d ∧ Qq e ∧ Qq f ∧ R
abbrev vw {α₁ α₂ α₃ α₄ α₅ α₆ α₇ : Sort _} (a : α₁) (b : α₂) (c : α₃) (d : α₄) (e : α₅) (f : α₆) (g : α₇) (R : Prop) : Prop := Qq a ∧ Qq b ∧ Qq c ∧ Qq d ∧ Qq e ∧ Qq f ∧ Qq g ∧ R
abbrev vk {α₁ α₂ α₃ α₄ α₅ α₆ α₇ α₈ : Sort _} (a : α₁) (b : α₂) (c : α₃) (d : α₄) (e : α₅) (f : α₆) (g : α₇) (h : α₈) (R : Prop) : Prop := Qq a ∧ Qq b ∧ Qq c ∧ Qq d ∧ Qq e ∧ Qq f ∧ Qq g ∧ Qq h ∧ R
abbrev wU (a R : Prop) : Prop := a ∧ Qq true ∧ R
abbrev vM : Prop := wX 0 0 true
abbrev vO : Prop := wX 1 0 true
abbrev vQ : Prop := wX 22 0 true
abbrev vR : Prop := wX 16 0 true
abbrev vY : Prop := vt 129 false <| True ∧ True
abbrev ud : Prop := wY 33 <| True ∧ True
abbrev ul : Prop := vu 3 (0 : Int)
abbrev uo : Prop := vo 4 0 1 true
abbrev ut : Prop := wX 29 0 true
abbrev uv : Prop := wU (wY 199 <| True ∧ wZ false) True
abbrev uw : Prop := vo 50 0 1 true
abbrev uz : Prop := wY 40 <| True ∧ True
abbrev uA : Prop := wY 68 <| True ∧ True
abbrev uD : Prop := vq 14 true
abbrev uE : Prop := vq 13 true
abbrev uG : Prop := vq 18 true
abbrev uH : Prop := vq 17 true
abbrev Dd0 := Ty.dflt uK
abbrev Dd1 := Ty.dflt vT
abbrev Dd2 := Ty.dflt (Ty.pair Ty.str Ty.unit)
abbrev Dd3 := Ty.dflt (Ty.pair vU Ty.unit)
abbrev Dd4 := Ty.dflt (Ty.pair uk uK)
abbrev Dd5 := Ty.dflt (Ty.pair (Ty.pair uk vT) Ty.unit)
abbrev Dd6 := Ty.dflt vV
abbrev Dd7 := Ty.dflt (Ty.pair Ty.str vT)
abbrev Dd8 := Ty.dflt (Ty.pair (Ty.pair (Ty.pair uk vT) uK) Ty.unit)
abbrev Dd9 := Ty.dflt (Ty.pair (Ty.pair uk vT) vT)
abbrev aSa := Ty.dflt (Ty.pair Ty.str vV)
abbrev aR9 := Ty.dflt (Ty.pair uk (Ty.pair vH Ty.unit))
abbrev aR8 := Ty.dflt (Ty.pair (Ty.pair (Ty.pair uk vT) uK) vT)
abbrev aQ0 := Ty.dflt (Ty.pair vG vV)
abbrev auM := Ty.dflt (Ty.pair uI Ty.unit)
abbrev auL := Ty.dflt uM
abbrev aSl := Ty.dflt (Ty.pair uI vV)
abbrev aR7 := Ty.dflt (Ty.pair uI (Ty.pair uI Ty.unit))
abbrev aQZ := Ty.dflt (Ty.pair vS uM)
abbrev aR6 := Ty.dflt (Ty.pair (Ty.pair vS uM) Ty.unit)
def WP {α : Type} (t : TT α) (P : α → Prop) : Prop := ∃ y, t.toO = some y ∧ P y
section
variable {α β ι : Type} {P : α → Prop}
theorem agD {a : α} (h : P a) : WP (.ok a) P := ⟨a, rfl, h⟩
theorem ad4 {b : Bool} {x y : TT α} (h1 : b = true → WP x P) (h2 : b = false → WP y P) : WP (.ite b x y) P := by
 cases b
 ·obtain ⟨r, e, q⟩ := h2 rfl; exact ⟨r, uF rfl e, q⟩
 ·obtain ⟨r, e, q⟩ := h1 rfl; exact ⟨r, uT rfl e, q⟩
theorem acG {p : Prop} {x : TT α} (hp : p) (h : WP x P) : WP (.need p x) P := by obtain ⟨r, e, q⟩ := h; exact ⟨r, uN hp e, q⟩
theorem aaI {p : Prop} {hp : p} {x : TT α} (h : WP x P) : WP (.triv p hp x) P := by obtain ⟨r, e, q⟩ := h; exact ⟨r, uV e, q⟩
theorem ag9 {b : β} {x : β → TT α} (h : WP (x b) P) : WP (.lt b x) P := by obtain ⟨r, e, q⟩ := h; exact ⟨r, uB e, q⟩
theorem aqL {o : Option β} {d : β} {x : β → TT α} (y : β) (ho : o = some y) (h : WP (x y) P) : WP (.call o d x) P := by obtain ⟨r, e, q⟩ := h; exact ⟨r, uC y ho e, q⟩
theorem anE {t : Nat} {H : TT (ι ⊕ α)} {R : ι → TT α} (Q : ι → Prop) (h : WP H fun s => match s with | .inl i => Q i | .inr a => P a) (hR : ∀ i, Q i → WP (R i) P) : WP (.join t H R) P := by
 obtain ⟨s, e, q⟩ := h
 cases s with
 | inl i => obtain ⟨r, e', q'⟩ := hR i q; exact ⟨r, uL i e e', q'⟩
 | inr a => exact ⟨a, uR a e, q⟩
theorem aBA {t : Nat} {H : TT ι} {R : ι → TT (ι ⊕ α)} (I : ι → Prop) (μ : ι → Nat) (h : WP H I) (hR : ∀ i, I i → WP (R i) fun s => match s with | .inl j => I j ∧ μ j < μ i | .inr a => P a) : WP (.loop t H R) P := by
 obtain ⟨i, e, q⟩ := h
 obtain ⟨a, h1, h2⟩ := afV (R := fun i => (R i).toO) I μ P (fun i hi => by
  obtain ⟨s, e, q⟩ := hR i hi
  cases s with
  | inl j => exact Or.inl ⟨j, e, q⟩
  | inr a => exact Or.inr ⟨a, e, q⟩) i q
 exact ⟨a, uO i e h1, h2⟩
end
theorem aqF {α : Type} (l : List α) (d : α) (q : α → Bool) : (List.range l.length).all (fun k => q (l.getD k d)) = l.all q := by
 rw [xR, yq, yq]
 constructor
 ·intro h x hx
  obtain ⟨k, hk, rfl⟩ := List.getElem_of_mem hx
  have := h k (yn.2 hk)
  simpa [hk] using this
 ·intro h k hk
  have hk := yn.1 hk
  have : l.getD k d = l[k] := by simp [hk]
  show q (l.getD k d) = true
  rw [this]; exact h _ (yC hk)
theorem aOH {α : Type} {s t : List α} (d : α) (h : s.length = t.length) : (List.range s.length).all (fun k => eqb (s.getD k d) (t.getD k d)) = eqb s t := by
 rw [xR, yq]
 constructor
 ·intro hall
  refine ap9 (List.ext_getElem h fun k h1 h2 => ?_)
  have := hall k (yn.2 h1)
  unfold eqb at this
  split at this
  ·rename_i e; simpa [h1, h2] using e
  ·cases this
 ·intro he k hk
  unfold eqb at he
  split at he
  ·rename_i e; subst e; exact ap9 rfl
  ·cases he
theorem aeN {ι β : Type} {R : ι → Option (ι ⊕ β)} {bad good : β} {n : Nat} (st : Nat → ι) (p : Nat → Bool)
  (hs : ∀ k : Nat, k < n → (∀ j, j < k → p j = true) → R (st k) = some (if p k then .inl (st (k + 1)) else .inr bad))
  (he : (∀ j, j < n → p j = true) → R (st n) = some (.inr good)) : acD R (st 0) = some (if (List.range n).all p then good else bad) := by
 suffices H : ∀ m k, k + m = n → (∀ j, j < k → p j = true) → acD R (st k) = some (if (List.range n).all p then good else bad) from H n 0 (zp _) (fun _ h => absurd h (wO _))
 intro m
 induction m with
 | zero =>
  intro k hk hp
  have hk : k = n := hk
  subst hk
  rw [if_pos (yq.2 fun j hj => hp j (yn.1 hj))]
  exact ahG (he hp)
 | succ m ih =>
  intro k hk hp
  have h := hs k zb hp
  cases hb : p k with
  | true =>
   rw [hb] at h
   rw [afJ h]
   exact ih (k + 1) zb fun j hj => by
    rcases Nat.lt_succ_iff_lt_or_eq.1 hj with h3 | h3
    ·exact hp j h3
    ·subst h3; exact hb
  | false =>
   rw [hb] at h
   rw [ahG h, if_neg]
   intro hall
   have := yq.1 hall k (yn.2 zb)
   rw [hb] at this; cases this
theorem acO {ι β : Type} {R : ι → Option (ι ⊕ β)} {good : β} {n : Nat} (st : Nat → ι) (hs : ∀ k : Nat, k < n → R (st k) = some (.inl (st (k + 1)))) (he : R (st n) = some (.inr good)) : acD R (st 0) = some good := by
 have := aeN (bad := good) st (fun _ => true) (fun k hk _ => by simpa using hs k hk) (fun _ => he)
 simpa using this
theorem aqY {α : Type} {b : Bool} {x y : TT α} {r : Option α} (h1 : b = true → x.toO = r) (h2 : b = false → y.toO = r) : (TT.ite b x y).toO = r := by
 cases b
 ·exact uF rfl (h2 rfl)
 ·exact uT rfl (h1 rfl)
section
variable {α ι : Type} {t : Nat} {R : ι → TT α} {r : Option α}
theorem adF {b : Bool} {x y : TT (ι ⊕ α)} (h1 : b = true → (TT.join t x R).toO = r) (h2 : b = false → (TT.join t y R).toO = r) : (TT.join t (.ite b x y) R).toO = r := by
 cases b
 ·rw [← h2 rfl]; simp only [TT.toO]
 ·rw [← h1 rfl]; simp only [TT.toO]
theorem aAm {p : Prop} {x : TT (ι ⊕ α)} (hp : p) (h : (TT.join t x R).toO = r) : (TT.join t (.need p x) R).toO = r := by rw [← h]; simp only [TT.toO, if_pos hp]
theorem abO {p : Prop} {hp : p} {x : TT (ι ⊕ α)} (h : (TT.join t x R).toO = r) : (TT.join t (.triv p hp x) R).toO = r := by rw [← h]; simp only [TT.toO]
theorem aJZ {β : Type} {b : β} {x : β → TT (ι ⊕ α)} (h : (TT.join t (x b) R).toO = r) : (TT.join t (.lt b x) R).toO = r := by rw [← h]; simp only [TT.toO]
theorem aNq {β : Type} {o : Option β} {d : β} {x : β → TT (ι ⊕ α)} (y : β) (ho : o = some y) (h : (TT.join t (x y) R).toO = r) : (TT.join t (.call o d x) R).toO = r := by subst ho; rw [← h]; simp only [TT.toO]
theorem akS {i : ι} (h : (R i).toO = r) : (TT.join t (.ok (.inl i)) R).toO = r := by rw [← h]; simp only [TT.toO]
theorem ar5 {a : α} (h : some a = r) : (TT.join t (.ok (.inr a)) R).toO = r := by rw [← h]; simp only [TT.toO]
end
end Go.Vs
namespace Go.Vg
open Go
def opn (P : Program) : Nat → TypeId → Ty → Bool
 | 0, _, _ => false
 | n + 1, t, u => Nat.beq (P.cellsOf t) u.size && (match P.underlying t, u with
  | some (.int k), .int k' => decide (k = k')
  | some .bool, .bool => true
  | some .string, .str => true
  | some (.slice e), .sl v => opn P n e v && Nat.ble 1 v.size && Nat.ble 1 (P.bytesOf e)
  | some (.array m e), .arr m' v => Nat.beq m m' && opn P n e v
  | some (.struct fs), u => opFs (opn P n) fs.toList 0 u
  | _, _ => false)
where opFs (f : TypeId → Ty → Bool) : List Field → Nat → Ty → Bool
 | [], _, u => match u with | .unit => true | _ => false
 | x :: r, off, u => match u with
  | .pair t v => Nat.beq x.offset off && f x.type t && opFs f r (off + t.size) v
  | _ => false
theorem aGB {α : Type} {R : α → List Value → Prop} {n : Nat} : ∀ (len : Nat) (cs : List Value), cs.length = len * n → (∀ i, i < len → ∃ x, R x ((cs.drop (i * n)).take n)) → ∃ xs, xs.length = len ∧ RdL R xs cs
 | 0, cs, hl, _ => ⟨[], rfl, by rw [xV] at hl; exact yu hl⟩
 | len + 1, cs, hl, h => by
  obtain ⟨x, hx⟩ := h 0 (Nat.succ_pos _)
  rw [xV, yz] at hx
  have hl' : (cs.drop n).length = len * n := by rw [yf, hl, zV]; omega
  obtain ⟨xs, h1, h2⟩ := aGB len (cs.drop n) hl' (fun i hi => by
   have := h (i + 1) (Nat.succ_lt_succ hi)
   rw [zT]
   rwa [zV, xj] at this)
  exact ⟨x :: xs, by rw [yh, h1], cs.take n, cs.drop n, (xn n cs).symm, hx, h2⟩
section
variable {H : Type} {enc : TypeId × Value → H} {P : Program} {w : World} {spare : Nat → Bool} {held : Bool}
abbrev akR (l : List Nat) : Prop := l.all (· ≤ reachBytes) = true
theorem ajO {a b : List Nat} (h : akR (a ++ b)) : akR a ∧ akR b := by
 simp only [akR, List.all_append, zl] at h
 exact h
theorem ar1 {e : TypeId} : ∀ {ds : List (DataW H)}, akR (DataW.weightsAll P e ds) → ∀ d ∈ ds, akR (d.weights P e)
 | [], _, _, h => by cases h
 | d :: r, h, x, hx => by
  rw [DataW.weightsAll] at h
  obtain ⟨h1, h2⟩ := ajO h
  rcases zq.1 hx with rfl | hx
  ·exact h1
  ·exact ar1 h2 x hx
theorem avF : ∀ {ts : List TypeId} {ds : List (DataW H)}, akR (DataW.weightsEach P ts ds) → ∀ (i : Nat) t d, ts[i]? = some t → ds[i]? = some d → akR (d.weights P t)
 | [], _, _, i, t, d, h, _ => by simp at h
 | _ :: _, [], _, i, t, d, _, h => by simp at h
 | t :: ts, d :: ds, h, i, t', d', h1, h2 => by
  rw [DataW.weightsEach] at h
  obtain ⟨h3, h4⟩ := ajO h
  cases i with
  | zero => simp at h1 h2; subst h1; subst h2; exact h3
  | succ i => exact avF h4 i t' d' (by simpa using h1) (by simpa using h2)
theorem akH {a : Addr} {n : Nat} {l : List Value} (h : w.cells? 0 a n = some l) : l.length = n ∧ ∀ i (hi : i < n), w.cell? (a.add i) = l[i]? := by
 unfold World.cells? at h
 rw [if_pos (ya _)] at h
 refine ⟨by simpa using mapM_some_length h, fun i hi => ?_⟩
 have := mapM_some_get h i i (by simp [hi])
 exact this
theorem aFF {a : Addr} {v : Value} (h : w.cell? a = some v) : ∃ c e fr, w.heap[a.block]? = some (.cells c e fr) ∧ a.spot = none ∧ c[a.off]? = some v := by
 unfold World.cell? at h
 split at h
 ·rename_i c e fr hc
  split at h
  ·cases h
  ·rename_i hs
   exact ⟨c, e, fr, hc, by simpa using hs, h⟩
 ·cases h
theorem azA : reachBytes ≤ lim := zc
theorem aGU {n : Nat} {f : TypeId → Ty → Bool} {cs : List Value} (hf : ∀ t u cs d ps, f t u = true → DataW.trod enc P w 0 spare held n t cs = some (d, ps) → akR (d.weights P t) → ∃ x, Rd (· < w.heap.size) w u x cs)
  (hsz : ∀ t u, f t u = true → P.cellsOf t = u.size) :
  ∀ (fs : List Field) (off : Nat) (u : Ty) (xs : List (DataW H × List MemPlace)), opn.opFs f fs off u = true → cs.length = off + u.size → xs.length = fs.length →
   (∀ (i : Nat) (g : Field), fs[i]? = some g → DataW.trod enc P w 0 spare held n g.type ((cs.drop g.offset).take (P.cellsOf g.type)) = xs[i]?) →
   (∀ (i : Nat) (g : Field) y, fs[i]? = some g → xs[i]? = some y → akR (y.1.weights P g.type)) → ∃ x, Rd (· < w.heap.size) w u x (cs.drop off)
 | [], off, u, xs, h, hl, _, _, _ => by
  cases u <;> first | (cases h; done) | skip
  exact ⟨(), by
   have : cs.length = off := by simpa [Ty.size] using hl
   show cs.drop off = []
   exact List.drop_eq_nil_of_le zb⟩
 | g :: r, off, u, xs, h, hl, hx, ht, hw => by
  cases u <;> first | (cases h; done) | skip
  rename_i t v
  simp only [opn.opFs, zl] at h
  obtain ⟨⟨h1, h2⟩, h3⟩ := h
  have h1 := Nat.eq_of_beq_eq_true h1
  subst h1
  have hs := hsz _ _ h2
  cases xs with
  | nil => simp at hx
  | cons y ys =>
   have h4 := ht 0 g rfl
   rw [hs] at h4
   obtain ⟨a, ha⟩ := hf _ _ _ y.1 y.2 h2 h4 (hw 0 g y rfl rfl)
   obtain ⟨b, hb⟩ := aGU hf hsz r (g.offset + t.size) v ys h3 (by rw [hl]; simp only [Ty.size]; omega) (by simpa using hx) (fun i k hk => by have := ht (i + 1) k (by simpa using hk); simpa using this) (fun i k z hk hz => hw (i + 1) k z (by simpa using hk) (by simpa using hz))
   refine ⟨(a, b), _, _, (xn t.size (cs.drop g.offset)).symm, ha, ?_⟩
   rw [zT]
   exact hb
theorem ap3 {n : Nat} {t : TypeId} {u : Ty} (h : opn P n t u = true) : P.cellsOf t = u.size := by
 cases n with
 | zero => cases h
 | succ n =>
  simp only [opn, zl] at h
  exact Nat.eq_of_beq_eq_true h.1
theorem amC : ∀ (n : Nat) (t : TypeId) (u : Ty) (fuel : Nat) (cs : List Value) (d : DataW H) (ps : List MemPlace), opn P n t u = true → DataW.trod enc P w 0 spare held fuel t cs = some (d, ps) → akR (d.weights P t) →
  ∃ x, Rd (· < w.heap.size) w u x cs
 | 0, _, _, _, _, _, _, h, _, _ => by cases h
 | n + 1, t, u, fuel, cs, d, ps, h, hd, hw => by
  have hsz := ap3 h
  simp only [opn, zl] at h
  obtain ⟨-, h⟩ := h
  split at h
  ·rename_i k k' hu
   have := of_decide_eq_true h
   subst this
   obtain ⟨m, rfl, _, hwf⟩ := DataW.trod_int hu hd
   refine ⟨m, rfl, ?_⟩
   simpa [Lit.wf] using hwf
  ·rename_i hu
   obtain ⟨b, rfl, _⟩ := DataW.trod_bool hu hd
   exact ⟨b, rfl⟩
  ·rename_i hu
   obtain ⟨s, rfl, hx, _⟩ := DataW.trod_string hu hd
   injection hx with hx _
   subst hx
   have : s.data.toList.length ≤ reachBytes := by simpa [akR, DataW.weights] using hw
   exact ⟨s.data.toList, rfl, zt this azA⟩
  ·rename_i e v hu
   simp only [zl] at h
   obtain ⟨⟨h1, h2⟩, h3⟩ := h
   have h2 := Nat.le_of_ble_eq_true h2
   have h3 := Nat.le_of_ble_eq_true h3
   have hse := ap3 h1
   rcases DataW.trod_slice hu hd with ⟨rfl, hx⟩ | ⟨a, len, cap, elems, rest, m, rfl, rfl, hx, _, hlc, _, hle, hel, _, _⟩
   ·exact ⟨[], none, 0, rfl, zj _, ya _, Or.inl rfl⟩
   ·injection hx with hx _
    subst hx
    simp only [DataW.weights, hu, akR, List.all_cons, zl, zz, List.all_append] at hw
    obtain ⟨hw1, hw2, _⟩ := hw
    have hlim : len ≤ lim := by
     have : len * 1 ≤ (List.map (·.1) elems).length * P.bytesOf e := Nat.mul_le_mul (by simp [hle]) h3
     have h4 : (List.map (·.1) elems).length * P.bytesOf e ≤ ((List.map (·.1) elems).length + (List.map (·.1) rest).length) * P.bytesOf e := zC _ (yB _ _)
     exact zt zb (zt hw1 azA)
    rcases zL len with h0 | h0
    ·subst h0
     exact ⟨[], some a, cap, rfl, hlc, ya _, Or.inl rfl⟩
    ·-- the cells of an element
     have key : ∀ i, i < len → ∃ l y, w.cells? 0 (a.add (i * v.size)) v.size = some l ∧ DataW.trod enc P w 0 spare held m e l = some y ∧ elems[i]? = some y := by
      intro i hi
      have := hel i hi
      rw [zx zb, hse] at this
      obtain ⟨l, hl1, hl2⟩ := Option.bind_eq_some_iff.1 this
      exact ⟨l, _, hl1, hl2, by rw [zx zb]⟩
     obtain ⟨l0, y0, hl0, -, -⟩ := key 0 h0
     obtain ⟨hn0, hc0⟩ := akH hl0
     have hc00 := hc0 0 h2
     rw [zx zb] at hc00
     obtain ⟨c, et, fr, hb, hsp, _⟩ := aFF hc00
     have e0 : a.add (0 * v.size) = a := by simp [Addr.add]
     rw [e0] at hb hsp
     have e00 : a.add 0 = a := by simp [Addr.add]
     rw [e00] at hb hsp
     obtain ⟨b, o, sp⟩ := a
     dsimp only at hb hsp
     subst hsp
     -- each cell
     have cell : ∀ i, i < len → ∀ j, j < v.size → ∀ l, w.cells? 0 (Addr.add ⟨b, o, none⟩ (i * v.size)) v.size = some l → c[o + i * v.size + j]? = l[j]? := by
      intro i hi j hj l hl
      obtain ⟨q1, q2⟩ := akH hl
      have := q2 j hj
      rw [← this]
      have ea : ((Addr.add ⟨b, o, none⟩ (i * v.size)).add j) = ⟨b, o + i * v.size + j, none⟩ := by
       unfold Addr.add
       by_cases c1 : i * v.size = 0 <;> by_cases c2 : j = 0 <;> simp [c1, c2]
      rw [ea]
      unfold World.cell?
      dsimp only
      rw [hb]
      rfl
     have part : ∀ i, i < len → ∀ l, w.cells? 0 (Addr.add ⟨b, o, none⟩ (i * v.size)) v.size = some l → (c.toList.drop (o + i * v.size)).take v.size = l := by
      intro i hi l hl
      obtain ⟨q1, q2⟩ := akH hl
      apply List.ext_getElem?
      intro j
      rcases zD j v.size with hj | hj
      ·rw [List.getElem?_take_of_lt hj, yJ, ← cell i hi j hj l hl]
       simp
      ·rw [xX (by rw [zY]; omega), xX zb]
     have hlen : o + len * v.size ≤ c.size := by
      obtain ⟨l, y, hl, -, -⟩ := key (len - 1) zb
      obtain ⟨q1, q2⟩ := akH hl
      have := cell (len - 1) zb (v.size - 1) zb l hl
      rw [zx zb] at this
      have hlt := (yX.1 this).1
      have e1 : len * v.size = (len - 1) * v.size + v.size := by
       conv => lhs; rw [show len = (len - 1) + 1 by omega]
       rw [zV]
      omega
     obtain ⟨xs, hx1, hx2⟩ := aGB (R := Rd (· < w.heap.size) w v) (n := v.size) len ((c.toList.drop o).take (len * v.size)) (by rw [zY, yf]; simp; omega) (fun i hi => by
      obtain ⟨l, y, hl, hl2, hy⟩ := key i hi
      have hm : y.1 ∈ elems.map (·.1) := zH.2 ⟨y, List.mem_of_getElem? hy, rfl⟩
      obtain ⟨x, hx⟩ := amC n e v m l y.1 y.2 h1 hl2 (ar1 hw2 _ hm)
      refine ⟨x, ?_⟩
      have e2 : ((((c.toList.drop o).take (len * v.size)).drop (i * v.size)).take v.size) = l := by
       rw [← part i hi l hl, xJ, yP, zT]
       congr 1
       have : i * v.size + v.size ≤ len * v.size := by rw [← zV]; exact zC _ hi
       omega
      rw [e2]
      exact hx)
     subst hx1
     exact ⟨xs, some ⟨b, o, none⟩, cap, rfl, hlc, hlim, Or.inr ⟨b, o, c, et, fr, rfl, (yX.1 hb).1, hb, hlen, hx2⟩⟩
  ·rename_i m e m' v hu
   simp only [zl] at h
   obtain ⟨h1, h2⟩ := h
   have h1 := Nat.eq_of_beq_eq_true h1
   subst h1
   have hse := ap3 h2
   obtain ⟨xs, k, rfl, hx, hlen, hxl, hel⟩ := DataW.trod_array hu hd
   injection hx with hx _
   subst hx
   rw [hsz] at hlen
   have hlen' : cs.length = m * v.size := hlen
   simp only [DataW.weights, hu] at hw
   obtain ⟨ys, hy1, hy2⟩ := aGB (R := Rd (· < w.heap.size) w v) (n := v.size) m cs hlen' (fun i hi => by
    have := hel i hi
    rw [zx zb, hse] at this
    exact amC n e v k _ _ _ h2 this (ar1 hw _ (zH.2 ⟨_, yC zb, rfl⟩)))
   exact ⟨ys, hy1, hy2⟩
  ·rename_i _ fs hu
   obtain ⟨xs, k, rfl, hx, hlen, hxl, hel⟩ := DataW.trod_struct hu hd
   injection hx with hx _
   subst hx
   simp only [DataW.weights, hu] at hw
   obtain ⟨x, hx⟩ := aGU (n := k) (f := opn P n) (cs := cs) (fun t u cs d ps h1 h2 h3 => amC n t u k cs d ps h1 h2 h3) (fun t u h => ap3 h) fs.toList 0 _ xs h (by rw [hlen, hsz]; omega) (by simpa using hxl) (fun i g hg => hel i g (by simpa using hg))
    (fun i g y hg hy => avF hw i g.type y.1 (by simp [hg]) (by simp [hy]))
   exact ⟨x, by simpa using hx⟩
  ·cases h
theorem aKJ {f : TypeId → Ty → Bool} : ∀ {fs : List Field} {off : Nat} {u : Ty}, opn.opFs f fs off u = true → u.agg = true
 | [], _, u, h => by cases u <;> first | rfl | (cases h; done)
 | _ :: _, _, u, h => by cases u <;> first | rfl | (cases h; done)
theorem aEU {n : Nat} {t : TypeId} {u : Ty} {r : _root_.Go.Reach} {b0 : Nat} {v : Value} {d : DataW H} {ps : List MemPlace} (ho : opn P n t u = true) (hne : u ≠ .unit) (hval : Value.okWide P w r b0 t v) (hd : DataW.Trod enc P w 0 spare held t v d ps) (hw : akR (d.weights P t)) :
  ∃ x, RdV (· < w.heap.size) w u x v := by
 obtain ⟨fuel, hf⟩ := hd
 obtain ⟨x, hx⟩ := amC n t u fuel _ _ _ ho hf hw
 refine ⟨x, _, hx, ?_⟩
 cases n with
 | zero => cases ho
 | succ n =>
  simp only [opn, zl] at ho
  obtain ⟨-, h⟩ := ho
  split at h
  ·rename_i k k' hu
   obtain ⟨m, rfl⟩ := WideShapes.okWide_int hu hval
   rfl
  ·rename_i hu
   obtain ⟨m, rfl⟩ := WideShapes.okWide_bool hu hval
   rfl
  ·rename_i hu
   obtain ⟨m, rfl⟩ := WideShapes.okWide_string hu hval
   rfl
  ·rename_i e v' hu
   obtain ⟨a, len, cap, rfl⟩ := WideShapes.okWide_slice hu hval
   rfl
  ·rename_i ha
   unfold Value.okWide at hval
   rw [ha] at hval
   obtain ⟨cs, rfl, _⟩ := hval
   rfl
  ·rename_i fs hu'
   obtain ⟨cs, rfl, _⟩ := WideShapes.okWide_struct hu' hval
   unfold vOf
   rw [if_pos (aKJ h)]
   rfl
  ·cases h
def aDG (P : Program) : List TypeId → Ty → Bool
 | [], u => match u with | .unit => true | _ => false
 | t :: ts, u => match u with
  | .pair a b => opn P 8 t a && (match a with | .unit => false | _ => true) && aDG P ts b
  | _ => false
theorem aDH : ∀ (ts : List TypeId) (u : Ty) (vs : List Value) (ds : List (DataW H)) (ps : List MemPlace) {r : _root_.Go.Reach} {b0 : Nat}, aDG P ts u = true → (∀ (j : Nat) t v, ts[j]? = some t → vs[j]? = some v → Value.okWide P w r b0 t v) →
  DataW.TrodAll enc P w 0 spare held ts vs ds ps → akR (DataW.weightsEach P ts ds) → ∃ x, RdVs (· < w.heap.size) w u x vs
 | [], u, vs, ds, ps, _, _, ho, _, hd, _ => by
  cases u <;> first | (cases ho; done) | skip
  cases vs with
  | nil => exact ⟨(), rfl⟩
  | cons v vs => cases ds <;> exact hd.elim
 | t :: ts, u, vs, ds, ps, r, b0, ho, hv, hd, hw => by
  cases u <;> first | (cases ho; done) | skip
  rename_i a b
  simp only [aDG, zl] at ho
  obtain ⟨⟨h1, h2⟩, h3⟩ := ho
  cases vs with
  | nil => exact hd.elim
  | cons v vs =>
   cases ds with
   | nil => exact hd.elim
   | cons d ds =>
    obtain ⟨p, q, hd1, hd2, _⟩ := hd
    rw [DataW.weightsEach] at hw
    obtain ⟨hw1, hw2⟩ := ajO hw
    obtain ⟨x, hx⟩ := aEU h1 (fun e => by subst e; cases h2) (hv 0 t v rfl rfl) hd1 hw1
    obtain ⟨y, hy⟩ := aDH ts b vs ds q h3 (fun j t' v' e1 e2 => hv (j + 1) t' v' (by simpa using e1) (by simpa using e2)) hd2 hw2
    exact ⟨(x, y), v, vs, rfl, hx, hy⟩
theorem aDq (hl : laidOutB P = true) {W W' : World} (hb : RowKit.Below W.heap.size W W') : ∀ (ts : List TypeId) (vs : List Value) (ds : List (DataW H)) (ps : List MemPlace), (ts.all fun t => P.readableRec t && decide (t < P.types.size)) = true →
  DataW.TrodAll enc P W 0 (fun _ => true) true ts vs ds ps → (∀ x ∈ ps, x.block < W.heap.size) → DataW.TrodAll enc P W' 0 (fun b => decide (b < W.heap.size)) true ts vs ds ps
 | [], [], [], _, _, hd, _ => hd
 | [], _ :: _, [], _, _, hd, _ | [], _, _ :: _, _, _, hd, _ => by cases ‹List Value› <;> exact hd.elim
 | t :: ts, [], ds, _, _, hd, _ => by cases ds <;> exact hd.elim
 | t :: ts, v :: vs, [], _, _, hd, _ => hd.elim
 | t :: ts, v :: vs, d :: ds, ps, hr, ⟨p, q, h1, h2, e⟩, hlt => by
  simp only [List.all_cons, zl, zz] at hr
  obtain ⟨⟨r1, r2⟩, r3⟩ := hr
  subst e
  exact ⟨p, q, RowKit.Below.trod hl r1 r2 h1 hb (fun x hx => hlt x (wP _ hx)), aDq hl hb ts vs ds q r3 h2 (fun x hx => hlt x (List.mem_append_right _ hx)), rfl⟩
end
end Go.Vg
