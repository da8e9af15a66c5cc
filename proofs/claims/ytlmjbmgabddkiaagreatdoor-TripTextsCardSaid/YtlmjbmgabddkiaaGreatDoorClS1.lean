/-
  Functions of plain data that the Go functions compute, and their laws. Own work; no condition.
-/
import Derived.Test.YtlmjbmgabddkiaaGreatDoorClR7
import Derived.Lib.ItoaMem
import Derived.Lib.AtoiAllCases
import Derived.Lib.ParseIntBTie
import Derived.Lib.Repeat
import Derived.OpenShut
import Derived.Carry
set_option linter.unusedVariables false
set_option linter.unusedSimpArgs false
namespace Go.Vs
open Go Go.Vg
theorem aaA {x : Int} (h0 : -9223372036854775808 ≤ x ∧ x ≤ 9223372036854775807) : w64 x = x := by
 obtain ⟨h0, h1⟩ := h0
 unfold w64 IntKind.wrap
 simp only [IntKind.bits, IntKind.signed, wu]
 have e1 : (2 : Int) ^ 64 = 18446744073709551616 := ze
 have e2 : (2 : Int) ^ (64 - 1) = 9223372036854775808 := ze
 simp only [e1, e2, ge_iff_le, zV]
 split <;> omega
theorem aaG {x : Int} (h0 : 0 ≤ x ∧ x ≤ 18446744073709551615) : abI x = x := by
 obtain ⟨h0, h1⟩ := h0
 unfold abI IntKind.wrap
 simp only [IntKind.bits, IntKind.signed, we]
 have e1 : (2 : Int) ^ 64 = 18446744073709551616 := ze
 simp only [e1]
 simp only [yl, if_false]
 omega
theorem aaQ {x : Int} (h0 : 0 ≤ x ∧ x ≤ 4294967295) : adH x = x := by
 obtain ⟨h0, h1⟩ := h0
 unfold adH IntKind.wrap
 simp only [IntKind.bits, IntKind.signed, we]
 have e1 : (2 : Int) ^ 32 = 4294967296 := ze
 simp only [e1]
 simp only [yl, if_false]
 omega
theorem abR {x : Int} (h0 : 0 ≤ x ∧ x ≤ 255) : wu8 x = x := by
 obtain ⟨h0, h1⟩ := h0
 unfold wu8 IntKind.wrap
 simp only [IntKind.bits, IntKind.signed, we]
 have e1 : (2 : Int) ^ 8 = 256 := ze
 simp only [e1]
 simp only [yl, if_false]
 omega
def V (B : Int) : List Int → Int
 | [] => 0
 | d :: l => d + B * V B l
def Dg (B : Int) (l : List Int) : Prop := ∀ d ∈ l, 0 ≤ d ∧ d < B
def Cn (l : List Int) : Prop := l.getLast? ≠ some 0
theorem adA (B : Int) : ∀ (l m : List Int), V B (l ++ m) = V B l + B ^ l.length * V B m
 | [], m => by simp [V]
 | d :: l, m => by
  simp only [yU, V, adA B l m, zE, yp]
  grind
theorem asZ (B d : Int) : V B [d] = d := by simp [V]
theorem ahU (B : Int) {l : List Int} {i : Nat} (h : i < l.length) : V B (l.take (i + 1)) = V B (l.take i) + B ^ i * l[i] := by
 rw [yf h, adA, asZ, zR, yu zb]
theorem aMG (B : Int) (l : List Int) (i : Nat) (h : i ≤ l.length) : V B l = V B (l.take i) + B ^ i * V B (l.drop i) := by
 conv => lhs; rw [← xj i l]
 rw [adA, zR, yu h]
theorem aIe (B : Int) {l : List Int} {i : Nat} (h : i < l.length) : V B (l.drop i) = l[i] + B * V B (l.drop (i + 1)) := by
 rw [yy h]; rfl
theorem aoF (B : Int) : Dg B [] := fun _ h => by cases h
theorem adS {B : Int} {l m : List Int} (hl : Dg B l) (hm : Dg B m) : Dg B (l ++ m) := by
 intro d hd
 rcases zD.1 hd with h | h
 ·exact hl d h
 ·exact hm d h
theorem aiV {B d : Int} (h0 : 0 ≤ d) (h1 : d < B) : Dg B [d] := by
 intro x hx
 have := zL.1 hx
 subst this
 exact ⟨h0, h1⟩
theorem ak0 {B d : Int} {l : List Int} (h : Dg B (d :: l)) : Dg B l := fun x hx => h x (zt _ hx)
theorem anL {B d : Int} {l : List Int} (h : Dg B (d :: l)) : 0 ≤ d ∧ d < B := h d zx
theorem axC {B d : Int} {l : List Int} (h0 : 0 ≤ d ∧ d < B) (h : Dg B l) : Dg B (d :: l) := by
 intro x hx
 rcases zm.1 hx with rfl | h1
 ·exact h0
 ·exact h x h1
theorem ab0 {B : Int} {l : List Int} (h : Dg B l) (i : Nat) : Dg B (l.take i) := fun x hx => h x (yL hx)
theorem acC {B : Int} {l : List Int} (h : Dg B l) (i : Nat) : Dg B (l.drop i) := fun x hx => h x (xb hx)
theorem aIt {B : Int} {l : List Int} (h : Dg B l) {i : Nat} (hi : i < l.length) : 0 ≤ l[i] ∧ l[i] < B := h _ (yw hi)
theorem ahC {B d : Int} {l : List Int} (h : Dg B l) (h0 : 0 ≤ d ∧ d < B) (i : Nat) : Dg B (l.set i d) := by
 intro x hx
 rcases List.mem_or_eq_of_mem_set hx with h1 | h1
 ·exact h x h1
 ·rw [h1]; exact h0
theorem afD {B : Int} (hB : 0 < B) (n : Nat) : Dg B (List.replicate n 0) := by
 intro x hx
 have := (List.mem_replicate.1 hx).2
 omega
theorem ar2 (B : Int) : ∀ n, V B (List.replicate n 0) = 0
 | 0 => rfl
 | n + 1 => by simp [xf, V, ar2 B n]
theorem aaH {B : Int} (hB : 0 ≤ B) : ∀ {l : List Int}, Dg B l → 0 ≤ V B l
 | [], _ => Int.le_refl 0
 | d :: l, h => by
  have h1 := aaH hB (ak0 h)
  have h2 := anL h
  have := xn hB h1
  simp only [V]; omega
theorem aEI {B : Int} (hB : 0 < B) : ∀ {l : List Int}, Dg B l → V B l < B ^ l.length
 | [], _ => by simp [V]
 | d :: l, h => by
  have h1 := aEI hB (ak0 h)
  have h2 := anL h
  simp only [V, zE, yp]
  have h3 : B * (V B l + 1) ≤ B * B ^ l.length := zy zb zb
  rw [yZ (B ^ l.length) B]
  rw [xU] at h3
  omega
def aoK (B n : Nat) : List Int := if _h : n = 0 ∨ B < 2 then [] else ((n % B : Nat) : Int) :: aoK B (n / B)
termination_by n
decreasing_by exact wB zb zb
theorem ac2 (B : Nat) : aoK B 0 = [] := by rw [aoK]; simp
theorem agD {B n : Nat} (hB : 2 ≤ B) (hn : n ≠ 0) : aoK B n = ((n % B : Nat) : Int) :: aoK B (n / B) := by
 rw [aoK, dif_neg zb]
theorem az9 {B : Nat} (hB : 2 ≤ B) (n : Nat) : V B (aoK B n) = n := by
 induction n using Nat.strongRecOn with
 | _ n ih =>
  by_cases hn : n = 0
  ·subst hn; rw [ac2]; rfl
  ·rw [agD hB hn]
   simp only [V]
   rw [ih (n / B) (wB zb zb)]
   have := wR n B
   have h2 : ((n % B : Nat) : Int) + (B : Int) * ((n / B : Nat) : Int) = ((n % B + B * (n / B) : Nat) : Int) := zg
   rw [h2, this]
theorem aBt {B : Nat} (hB : 2 ≤ B) (n : Nat) : Dg B (aoK B n) := by
 induction n using Nat.strongRecOn with
 | _ n ih =>
  by_cases hn : n = 0
  ·subst hn; rw [ac2]; exact aoF _
  ·rw [agD hB hn]
   refine axC ⟨by omega, ?_⟩ (ih (n / B) (wB zb zb))
   have := yz n (show 0 < B by omega)
   omega
theorem akK {B : Nat} (hB : 2 ≤ B) {n : Nat} (hn : n ≠ 0) : aoK B n ≠ [] := by rw [agD hB hn]; simp
theorem aoG : Cn [] := by simp [Cn]
theorem aBP {d : Int} {l : List Int} : Cn (d :: l) ↔ (if l = [] then d ≠ 0 else Cn l) := by
 cases l with
 | nil => simp [Cn]
 | cons e l => simp [Cn, List.getLast?_cons_cons]
theorem aHz {B : Nat} (hB : 2 ≤ B) (n : Nat) : Cn (aoK B n) := by
 induction n using Nat.strongRecOn with
 | _ n ih =>
  by_cases hn : n = 0
  ·subst hn; rw [ac2]; exact aoG
  ·rw [agD hB hn, aBP]
   split
   ·rename_i h
    by_cases h2 : n / B = 0
    ·have := wR n B
     rw [h2, Nat.mul_zero] at this
     omega
    ·exact absurd h (akK hB h2)
   ·exact ih (n / B) (wB zb zb)
theorem az8 {B : Int} (hB : 0 < B) : ∀ {l : List Int}, Dg B l → Cn l → V B l = 0 → l = []
 | [], _, _, _ => rfl
 | d :: l, hd, hc, h => by
  have h1 := aaH zb (ak0 hd)
  have h2 := anL hd
  simp only [V] at h
  have h3 := xn (show 0 ≤ B by omega) h1
  have h4 : B * V B l = 0 := zb
  have h5 : V B l = 0 := by
   rcases Int.mul_eq_zero.1 h4 with h | h
   ·omega
   ·exact h
  rw [aBP] at hc
  split at hc
  ·omega
  ·rename_i hl; exact absurd (az8 hB (ak0 hd) hc h5) hl
theorem arG {B : Nat} (hB : 2 ≤ B) : ∀ {l : List Int} {n : Nat}, Dg B l → Cn l → V B l = n → l = aoK B n
 | [], n, _, _, h => by
  have : n = 0 := by simp [V] at h; omega
  subst this; rw [ac2]
 | d :: l, n, hd, hc, h => by
  have h1 := aaH zb (ak0 hd)
  have h2 := anL hd
  have hn : n ≠ 0 := by
   intro h0
   have := az8 zb hd hc (by rw [h, h0]; rfl)
   cases this
  rw [agD hB hn]
  simp only [V] at h
  obtain ⟨v, hv⟩ := zG h1
  obtain ⟨e, he⟩ := zG h2.1
  rw [hv, he] at h
  have h3 : e + B * v = n := by
   have : ((e + B * v : Nat) : Int) = (n : Int) := by simpa using h
   exact Int.ofNat.inj this
  have h4 : e < B := zb
  have h5 : n % B = e := by rw [← h3, Nat.add_mul_mod_self_left, yr h4]
  have h6 : n / B = v := by rw [← h3, Nat.add_mul_div_left _ _ zb, yN h4, zo]
  rw [h5, h6, he]
  congr 1
  refine arG hB (ak0 hd) ?_ hv
  rw [aBP] at hc
  split at hc
  ·rename_i hl; rw [hl]; exact aoG
  ·exact hc
theorem aeQ {B : Nat} (hB : 2 ≤ B) : ∀ {k n : Nat}, n < B ^ k → (aoK B n).length ≤ k
 | 0, n, h => by
  have : n = 0 := by simpa using h
  subst this; rw [ac2]; simp
 | k + 1, n, h => by
  by_cases hn : n = 0
  ·subst hn; rw [ac2]; simp
  ·rw [agD hB hn, zE]
   have := aeQ (k := k) hB (n := n / B) (by rw [yS zb]; rw [yH] at h; exact h)
   omega
theorem aqF {B : Nat} (hB : 2 ≤ B) (n : Nat) : n < B ^ (aoK B n).length := by
 have h := aEI (B := B) zb (aBt hB n)
 rw [az9 hB] at h
 have : ((B : Int) ^ (aoK B n).length) = ((B ^ (aoK B n).length : Nat) : Int) := zg
 rw [this] at h
 omega
theorem apY {B : Nat} (hB : 2 ≤ B) {n : Nat} (hn : n ≠ 0) : B ^ ((aoK B n).length - 1) ≤ n := by
 rcases zv n (B ^ ((aoK B n).length - 1)) with h | h
 ·have := aeQ hB h
  have h2 : (aoK B n).length ≠ 0 := by
   intro h3; exact akK hB hn (zT.1 h3)
  omega
 ·exact h
theorem aCN {B : Nat} (hB : 2 ≤ B) {m n : Nat} (h : aoK B m = aoK B n) : m = n := by
 have h1 := az9 hB m
 have h2 := az9 hB n
 rw [h] at h1
 omega
theorem auJ {B : Nat} (hB : 2 ≤ B) {d : Nat} (h0 : d ≠ 0) (h1 : d < B) : aoK B d = [(d : Int)] := by
 rw [agD hB h0, yr h1, yN h1, ac2]
noncomputable def afE {α A R : Type} (enc : α → A) (pre : α → Prop) (f : α → R) (x : A) : Option R :=
 open Classical in if h : ∃ a, pre a ∧ enc a = x then some (f h.choose) else none
theorem aaN {α A R : Type} {enc : α → A} {pre : α → Prop} {f : α → R} (a : α) (h : pre a) (hinj : ∀ b, enc b = enc a → b = a) : afE enc pre f (enc a) = some (f a) := by
 have hex : ∃ b, pre b ∧ enc b = enc a := ⟨a, h, rfl⟩
 unfold afE
 rw [dif_pos hex, hinj _ hex.choose_spec.2]
theorem aaF {α A R : Type} {enc : α → A} {pre : α → Prop} {f : α → R} {x : A} {y : R} (h : afE enc pre f x = some y) : ∃ a, pre a ∧ x = enc a ∧ y = f a := by
 unfold afE at h
 split at h
 ·rename_i hex
  injection h with h
  exact ⟨_, hex.choose_spec.1, hex.choose_spec.2.symm, h.symm⟩
 ·cases h
theorem aGY {a b : Int} (h0 : 0 ≤ a) (h1 : a < b) : inb a b := ⟨h0, h1⟩
theorem aNP {a b : Int} (h0 : 0 ≤ a) (h1 : a ≤ b) : inc a b := ⟨h0, h1⟩
theorem aaD {α : Type} (l : List α) : len l = (l.length : Int) := rfl
theorem aNR {α : Type} {l : List α} {i : Int} {d : α} {k : Nat} (h : i = k) (hk : k < l.length) : gi l i d = l[k] := by
 subst h; unfold gi; simp [hk]
theorem uT {α : Type} {b : Bool} {x y : TT α} {r : Option α} (h : b = true) (hx : x.toO = r) : (TT.ite b x y).toO = r := by subst h; exact hx
theorem uF {α : Type} {b : Bool} {x y : TT α} {r : Option α} (h : b = false) (hy : y.toO = r) : (TT.ite b x y).toO = r := by subst h; exact hy
theorem uN {α : Type} {p : Prop} {x : TT α} {r : Option α} (h : p) (hx : x.toO = r) : (TT.need p x).toO = r := by rw [aIN _ _ h]; exact hx
theorem uV {α : Type} {p : Prop} {h : p} {x : TT α} {r : Option α} (hx : x.toO = r) : (TT.triv p h x).toO = r := hx
theorem uB {α β : Type} {b : β} {x : β → TT α} {r : Option α} (hx : (x b).toO = r) : (TT.lt b x).toO = r := hx
theorem uC {α β : Type} {o : Option β} {d : β} {x : β → TT α} {r : Option α} (y : β) (h : o = some y) (hx : (x y).toO = r) : (TT.call o d x).toO = r := by subst h; exact hx
theorem uO {α ι : Type} {t : Nat} {H : TT ι} {R : ι → TT (ι ⊕ α)} {r : Option α} (i : ι) (h : H.toO = some i) (hx : ac0 (fun i => (R i).toO) i = r) : (TT.loop t H R).toO = r := by rw [aIO h]; exact hx
theorem uL {α ι : Type} {t : Nat} {H : TT (ι ⊕ α)} {R : ι → TT α} {r : Option α} (i : ι) (h : H.toO = some (.inl i)) (hx : (R i).toO = r) : (TT.join t H R).toO = r := by rw [aE8 h]; exact hx
theorem uR {α ι : Type} {t : Nat} {H : TT (ι ⊕ α)} {R : ι → TT α} (a : α) (h : H.toO = some (.inr a)) : (TT.join t H R).toO = some a := by rw [aE7 h]
def aaY (n : Nat) : List UInt8 := Lib.decDigits n
def dec (z : Int) : List UInt8 := if z < 0 then 45 :: aaY z.natAbs else aaY z.natAbs
def isD (s : List UInt8) : Prop := ∀ c ∈ s, 48 ≤ c.toNat ∧ c.toNat ≤ 57
def dv (c : UInt8) : Nat := c.toNat - 48
def ayO (a : Nat) (s : List UInt8) : Nat := s.foldl (fun a c => a * 10 + dv c) a
def num (s : List UInt8) : Nat := ayO 0 s
def mag (n : Nat) : List Int := aoK 1000000000 n
def asV (a b : Int) : Int := if a < b then -1 else if a = b then 0 else 1
theorem afQ (n : Nat) : Dg 1000000000 (mag n) := aBt (B := 1000000000) zb n
theorem aNJ (n : Nat) : Cn (mag n) := aHz (B := 1000000000) zb n
theorem akT (n : Nat) : V 1000000000 (mag n) = n := az9 (B := 1000000000) zb n
theorem afP {m n : Nat} (h : mag m = mag n) : m = n := aCN (B := 1000000000) zb h
theorem aoR {l : List Int} {n : Nat} (h1 : Dg 1000000000 l) (h2 : Cn l) (h3 : V 1000000000 l = n) : l = mag n := arG (B := 1000000000) zb h1 h2 h3
noncomputable def ar5 (x : Int × Unit) : Option (List UInt8 × Unit) := if -9223372036854775808 ≤ x.1 ∧ x.1 ≤ 9223372036854775807 then some (dec x.1, ()) else none
noncomputable def auV (x : List UInt8 × Int × Unit) : Option (List UInt8 × Unit) := if 0 ≤ x.2.1 ∧ x.2.1 ≤ 100000 ∧ x.1.length ≤ 1000 then some ((List.replicate x.2.1.toNat x.1).flatten, ()) else none
noncomputable def adQ (x : List Int × Unit) : Option (Bool × Unit) := some (len x.1 == 0, ())
open Classical in
noncomputable def ab9 (x : List Int × Unit) : Option (List Int × Unit) := if Dg 1000000000 x.1 ∧ x.1.length ≤ 2000000000000 then some (mag (V 1000000000 x.1).toNat, ()) else none
noncomputable def ajJ : List Int × Unit → Option (Int × Unit) := afE (fun n : Nat => (mag n, ())) (fun n => n < 1000000000000000000) (fun n => ((n : Int), ()))
noncomputable def ac5 : List Int × List Int × Unit → Option (Int × Unit) := afE (fun p : Nat × Nat => (mag p.1, mag p.2, ())) (fun p => (mag p.1).length ≤ 1000000000000 ∧ (mag p.2).length ≤ 1000000000000) (fun p => (asV p.1 p.2, ()))
noncomputable def aiQ : List Int × List Int × Unit → Option (List Int × Unit) := afE (fun p : Nat × Nat => (mag p.1, mag p.2, ())) (fun p => (mag p.1).length ≤ 1000000000000 ∧ (mag p.2).length ≤ 1000000000000) (fun p => (mag (p.1 + p.2), ()))
noncomputable def ag8 : List Int × List Int × Unit → Option (List Int × Unit) := afE (fun p : Nat × Nat => (mag p.1, mag p.2, ())) (fun p => (mag p.1).length ≤ 1000000000000 ∧ p.2 ≤ p.1) (fun p => (mag (p.1 - p.2), ()))
noncomputable def adC : List Int × List Int × Unit → Option (List Int × Unit) := afE (fun p : Nat × Nat => (mag p.1, mag p.2, ())) (fun p => (mag p.1).length ≤ 1000000000000 ∧ (mag p.2).length ≤ 1000000000000) (fun p => (mag (p.1 * p.2), ()))
noncomputable def ag7 : List Int × Int × Unit → Option (List Int × Int × Unit) := afE (fun p : Nat × Nat => (mag p.1, (p.2 : Int), ())) (fun p => (mag p.1).length ≤ 1000000000000 ∧ 0 < p.2 ∧ p.2 < 4294967296) (fun p => (mag (p.1 / p.2), ((p.1 % p.2 : Nat) : Int), ()))
noncomputable def acM (x : Int × Unit) : Option (List Int × Unit) := if 0 ≤ x.1 ∧ x.1 < 18446744073709551616 then some (mag x.1.toNat, ()) else none
open Classical in
noncomputable def aeM (x : List UInt8 × Unit) : Option (List Int × Unit) := if isD x.1 ∧ x.1 ≠ [] ∧ x.1.length ≤ 1000000000000 then some (mag (num x.1), ()) else none
noncomputable def aBM : List Int × Unit → Option (Int × Unit) := afE (fun n : Nat => (mag n, ())) (fun n => (mag n).length ≤ 1000000000000) (fun n => (((aaY n).length : Int), ()))
noncomputable def af3 : List Int × Unit → Option (List UInt8 × Unit) := afE (fun n : Nat => (mag n, ())) (fun n => (mag n).length ≤ 1000000) (fun n => (aaY n, ()))
noncomputable def af2 : List Int × List Int × Unit → Option (List Int × List Int × Unit) := afE (fun p : Nat × Nat => (mag p.1, mag p.2, ())) (fun p => (mag p.1).length ≤ 100000000000 ∧ (mag p.2).length ≤ 100000000000 ∧ p.2 ≠ 0) (fun p => (mag (p.1 / p.2), mag (p.1 % p.2), ()))
noncomputable def ao2 : List Int × List Int × Unit → Option (List Int × Unit) := afE (fun p : Nat × Nat => (mag p.1, mag p.2, ())) (fun p => (mag p.1).length ≤ 100000000000 ∧ (mag p.2).length ≤ 100000000000) (fun p => (mag (Nat.gcd p.1 p.2), ()))
open Classical in
noncomputable def aIg (x : List Int × Unit) : Option (List Int × Unit) := if Dg 1000000000 x.1 ∧ x.1.length ≤ 2000000000000 then some (mag (V 1000000000 x.1).toNat, ()) else none
open Classical in
noncomputable def ag2 (x : List UInt8 × Unit) : Option (List Int × Unit) := if isD x.1 ∧ x.1 ≠ [] ∧ x.1.length ≤ 1000000000000 then some (mag (num x.1), ()) else none
theorem aAR {B : Int} (hB : 0 < B) {i j : Nat} (h : i ≤ j) : B ^ i ≤ B ^ j := by
 obtain ⟨k, rfl⟩ := Nat.exists_eq_add_of_le h
 rw [xJ]
 have h1 : 1 ≤ B ^ k := yI hB
 have h2 : 0 < B ^ i := yI hB
 have := zy h1 (wC h2)
 omega
theorem aaK {α : Type} (l : List α) (k : Nat) (d : α) : gi l (k : Int) d = l.getD k d := by unfold gi; rw [zj]
theorem ahK {l : List Int} {k : Nat} (h : k < l.length) (d : Int) : l.getD k d = l[k] := by simp [h]
theorem afT {l : List Int} {k : Nat} (h : l.length ≤ k) (d : Int) : l.getD k d = d := by simp [h]
theorem aaR {B : Int} (hB : 0 < B) {l : List Int} (h : Dg B l) (k : Nat) : 0 ≤ l.getD k 0 ∧ l.getD k 0 < B := by
 rcases zv k l.length with hk | hk
 ·rw [ahK hk]; exact aIt h hk
 ·rw [afT hk]; omega
theorem aaT (B : Int) (l : List Int) (k : Nat) : V B (l.take (k + 1)) = V B (l.take k) + B ^ k * l.getD k 0 := by
 rcases zv k l.length with hk | hk
 ·rw [ahK hk]; exact ahU B hk
 ·rw [afT hk, zq zb, zq hk]; omega
theorem aaI (B : Int) (l : List Int) (k : Nat) : V B (l.drop k) = l.getD k 0 + B * V B (l.drop (k + 1)) := by
 rcases zv k l.length with hk | hk
 ·rw [ahK hk]; exact aIe B hk
 ·rw [afT hk, yj hk, yj zb]; simp [V]
theorem acH (B : Int) {l : List Int} {k : Nat} (h : l.length ≤ k) : V B (l.drop k) = 0 := by rw [yj h]; rfl
theorem aa6 (B : Int) {l : List Int} {k : Nat} (h : l.length ≤ k) : V B (l.take k) = V B l := by rw [zq h]
theorem ab1 (B : Int) (l : List Int) (k : Nat) : V B l = V B (l.take k) + B ^ k * V B (l.drop k) := by
 rcases zv k l.length with hk | hk
 ·exact aMG B l k zb
 ·rw [acH B hk, aa6 B hk]; omega
theorem acO {B : Int} (hB : 0 < B) {l : List Int} (h : Dg B l) (k : Nat) : V B (l.take k) < B ^ k := by
 rcases zv k l.length with hk | hk
 ·have := aEI hB (ab0 h k)
  rwa [zR, yu zb] at this
 ·rw [aa6 B hk]
  have h1 := aEI hB h
  have h2 : B ^ l.length ≤ B ^ k := aAR hB hk
  omega
theorem aId {B : Int} (hB : 1 ≤ B) {l : List Int} (h : Dg B l) (k : Nat) : V B (l.drop k) ≤ V B l := by
 have h1 := ab1 B l k
 have h2 := aaH zb (ab0 h k)
 have h3 := aaH zb (acC h k)
 have h4 : 1 * V B (l.drop k) ≤ B ^ k * V B (l.drop k) := zH (yI zb) h3
 omega
theorem avU {B : Int} (hB : 1 ≤ B) (k : Nat) : 1 ≤ B ^ k := yI zb
theorem avC (l : List Int) (k : Nat) (x : Int) : (l.set k x).take k = l.take k := by
 rw [List.take_set_of_le (zi k)]
theorem aEH (B : Int) {l : List Int} {k : Nat} (hk : k < l.length) (x : Int) : V B ((l.set k x).take (k + 1)) = V B (l.take k) + B ^ k * x := by
 rw [aaT, avC, ahK (by simpa using hk)]
 simp
theorem afW (l : List Int) {k j : Nat} (h : k < j) (x : Int) : (l.set k x).drop j = l.drop j := by
 rw [List.drop_set_of_lt h]
theorem asY (B : Int) : ∀ {l : List Int} {k : Nat}, k < l.length → ∀ x, V B (l.set k x) = V B l + B ^ k * (x - l.getD k 0)
 | [], k, h, _ => by simp at h
 | d :: l, 0, _, x => by simp [V]; omega
 | d :: l, k + 1, h, x => by
  simp only [List.set_cons_succ, V, List.getD_cons_succ]
  rw [asY B (by simpa using h) x, yp]
  grind
theorem akC (l : List Int) {k j : Nat} (h : k ≠ j) (x : Int) : (l.set k x).getD j 0 = l.getD j 0 := by
 simp [yx, List.getElem?_set_ne h]
theorem akD {l : List Int} {k : Nat} (h : k < l.length) (x : Int) : (l.set k x).getD k 0 = x := by
 simp [yx, h]
theorem aiF {B : Int} (hB : 1 < B) {l : List Int} (h : Dg B l) {k : Nat} (hv : V B l < B ^ k) : ∀ j, k ≤ j → l.getD j 0 = 0 := by
 intro j hj
 have h1 := ab1 B l j
 have h2 := aaH zb (ab0 h j)
 have h3 := aaH zb (acC h j)
 have h4 := aaI B l j
 have h5 := aaH zb (acC h (j + 1))
 have h6 := aaR zb h j
 have h7 : B ^ k ≤ B ^ j := aAR zb hj
 have h8 := xn (show 0 ≤ B by omega) h5
 rcases zS 0 (V B (l.drop j)) with h9 | h9
 ·have : B ^ j * 1 ≤ B ^ j * V B (l.drop j) := zy zb (by have := avU (show 1 ≤ B by omega) j; omega)
  omega
 ·omega
theorem aKC {B : Int} (hB : 0 < B) {l : List Int} (h : Dg B l) (hv : l = [] ∨ B ^ (l.length - 1) ≤ V B l) : Cn l := by
 rcases hv with rfl | hv
 ·exact aoG
 ·rcases zF l.length with hl | hl
  ·rw [zT.1 hl]; exact aoG
  ·unfold Cn
   rw [yO, zJ zb]
   intro h0
   injection h0 with h0
   have h1 := ahU B (l := l) (i := l.length - 1) zb
   rw [h0, show l.length - 1 + 1 = l.length by omega, zp] at h1
   have h2 := acO hB h (l.length - 1)
   omega
theorem mag_length_le_iff {n k : Nat} : (mag n).length ≤ k ↔ n < 1000000000 ^ k := by
 constructor
 ·intro h
  have h1 := aqF (B := 1000000000) zb n
  exact zO h1 (zP zb h)
 ·intro h
  exact aeQ zb h
theorem abG {m n : Nat} (h : m ≤ n) : (mag m).length ≤ (mag n).length := by
 rw [mag_length_le_iff]
 exact xT h (mag_length_le_iff.1 (zi _))
theorem agN (m n : Nat) : (mag (m + n)).length ≤ max (mag m).length (mag n).length + 1 := by
 rw [mag_length_le_iff]
 have h1 := mag_length_le_iff.1 (Nat.le_max_left (mag m).length (mag n).length)
 have h2 := mag_length_le_iff.1 (Nat.le_max_right (mag m).length (mag n).length)
 rw [yH]
 have := ya (1000000000 ^ max (mag m).length (mag n).length) (show 2 ≤ 1000000000 by omega)
 omega
theorem agM (m n : Nat) : (mag (m * n)).length ≤ (mag m).length + (mag n).length := by
 rw [mag_length_le_iff, wJ]
 have h1 := mag_length_le_iff.1 (zi (mag m).length)
 have h2 := mag_length_le_iff.1 (zi (mag n).length)
 exact Nat.mul_lt_mul'' h1 h2
theorem mag_zero : mag 0 = [] := ac2 _
theorem mag_nil_iff {n : Nat} : mag n = [] ↔ n = 0 := by
 constructor
 ·intro h
  exact afP (h.trans mag_zero.symm)
 ·rintro rfl; exact mag_zero
theorem alM {d : Nat} (h0 : d ≠ 0) (h1 : d < 1000000000) : mag d = [(d : Int)] := auJ zb h0 h1
theorem ajW {m n : Nat} (h : (mag m).length < (mag n).length) : m < n := by
 have h1 := mag_length_le_iff.1 (zi (mag m).length)
 rcases zv m n with h2 | h2
 ·exact h2
 ·have := abG h2; omega
theorem ae7 {p q : Nat × Nat} (h : (mag p.1, mag p.2, ()) = (mag q.1, mag q.2, ())) : p = q := by
 injection h with h1 h2
 injection h2 with h2 _
 exact Prod.ext (afP h1) (afP h2)
theorem abK {n : Nat} (h : n < 10) : aaY n = [UInt8.ofNat (48 + n)] := by unfold aaY; rw [Lib.decDigits, dif_pos h]
theorem ad9 {n : Nat} (h : 10 ≤ n) : aaY n = aaY (n / 10) ++ [UInt8.ofNat (48 + n % 10)] := by
 unfold aaY; conv => lhs; rw [Lib.decDigits, dif_neg zb]
theorem aeF (n : Nat) : aaY n ≠ [] := by
 rcases zv n 10 with h | h
 ·rw [abK h]; simp
 ·rw [ad9 h]; simp
theorem aAx {α : Type} {P : List α → Prop} (nil : P []) (snoc : ∀ l a, P l → P (l ++ [a])) (l : List α) : P l := by
 have H : ∀ m : List α, P m.reverse := by
  intro m
  induction m with
  | nil => exact nil
  | cons a m ih => rw [List.reverse_cons]; exact snoc _ _ ih
 have := H l.reverse
 rwa [List.reverse_reverse] at this
theorem aoW {d : Nat} (h : d < 10) : (UInt8.ofNat (48 + d)).toNat = 48 + d := by simp [UInt8.toNat_ofNat]; omega
theorem isD_append {s t : List UInt8} : isD (s ++ t) ↔ isD s ∧ isD t := by
 constructor
 ·intro h
  exact ⟨fun c hc => h c (wS _ hc), fun c hc => h c (List.mem_append_right _ hc)⟩
 ·rintro ⟨h1, h2⟩ c hc
  rcases zD.1 hc with h | h
  ·exact h1 c h
  ·exact h2 c h
theorem aGV {d : Nat} (h : d < 10) : isD [UInt8.ofNat (48 + d)] := by
 intro c hc
 have := zL.1 hc
 subst this
 rw [aoW h]; omega
theorem afM (a : Nat) (c : UInt8) (s : List UInt8) : ayO a (c :: s) = ayO (a * 10 + dv c) s := List.foldl_cons ..
theorem aAX (s t : List UInt8) (a : Nat) : ayO a (s ++ t) = ayO (ayO a s) t := List.foldl_append ..
theorem aJL (s : List UInt8) : ∀ a : Nat, ayO a s = a * 10 ^ s.length + ayO 0 s := by
 induction s with
 | nil => intro a; simp [ayO]
 | cons c s ih =>
  intro a
  rw [afM, afM, wD, zo]
  generalize dv c = x
  rw [ih (a * 10 + x), ih x, zE, yH]
  generalize 10 ^ s.length = y
  rw [yn, yV y 10, wM, wK]
theorem auI {d : Nat} (h : d < 10) : dv (UInt8.ofNat (48 + d)) = d := by unfold dv; rw [aoW h]; omega
theorem aL6 (s : List UInt8) (a : Nat) : ayO a s = a * 10 ^ s.length + num s := aJL s a
theorem ai2 (s t : List UInt8) : num (s ++ t) = num s * 10 ^ t.length + num t := by
 show ayO 0 (s ++ t) = _
 rw [aAX, aL6]
 rfl
theorem aL5 {d : Nat} (h : d < 10) : num [UInt8.ofNat (48 + d)] = d := by
 show ayO 0 [_] = d
 rw [afM, auI h]; simp [ayO]
theorem ai1 (s : List UInt8) (c : UInt8) : num (s ++ [c]) = num s * 10 + dv c := by
 rw [ai2]; simp [num, ayO]
theorem ayN {s : List UInt8} : isD s → num s < 10 ^ s.length := by
 induction s using aAx with
 | nil => intro _; simp [num, ayO]
 | snoc s c ih =>
  intro h
  rw [isD_append] at h
  have h1 := ih h.1
  have h2 := h.2 c zg
  have h3 : dv c = c.toNat - 48 := rfl
  rw [ai1, zu, yh, yH]
  omega
theorem agE (n : Nat) : isD (aaY n) := by
 induction n using Nat.strongRecOn with
 | _ n ih =>
  rcases zv n 10 with h | h
  ·rw [abK h]; exact aGV h
  ·rw [ad9 h, isD_append]
   exact ⟨ih (n / 10) zb, aGV zb⟩
theorem alJ (n : Nat) : num (aaY n) = n := by
 induction n using Nat.strongRecOn with
 | _ n ih =>
  rcases zv n 10 with h | h
  ·rw [abK h, aL5 h]
  ·rw [ad9 h, ai1, ih (n / 10) zb, auI zb]
   omega
theorem aoV {m n : Nat} (h : aaY m = aaY n) : m = n := by rw [← alJ m, ← alJ n, h]
theorem afR (n : Nat) : n < 10 ^ (aaY n).length := by
 have := ayN (agE n)
 rwa [alJ] at this
theorem abT : ∀ {k n : Nat}, n < 10 ^ (k + 1) → (aaY n).length ≤ k + 1
 | 0, n, h => by rw [abK (by simpa using h)]; simp
 | k + 1, n, h => by
  rcases zv n 10 with h9 | h9
  ·rw [abK h9]; simp
  ·have := abT (k := k) (n := n / 10) (by rw [yS zb]; rw [yH] at h; exact h)
   rw [ad9 h9]; simp; omega
theorem aeA (n : Nat) : 1 ≤ (aaY n).length := zK.2 (aeF n)
theorem aa2 {k n : Nat} (hk : 1 ≤ k) : (aaY n).length ≤ k ↔ n < 10 ^ k := by
 constructor
 ·intro h
  exact zO (afR n) (zP zb h)
 ·intro h
  obtain ⟨j, rfl⟩ : ∃ j, k = j + 1 := ⟨k - 1, by omega⟩
  exact abT h
theorem asU {k n : Nat} (h1 : 10 ^ k ≤ n) (h2 : n < 10 ^ (k + 1)) : (aaY n).length = k + 1 := by
 have h3 := abT h2
 rcases zv k (aaY n).length with h | h
 ·omega
 ·have := afR n
  have h4 := zP (n := 10) zb h
  omega
theorem aAQ {n : Nat} (hn : n ≠ 0) : 10 ^ ((aaY n).length - 1) ≤ n := by
 rcases zv n (10 ^ ((aaY n).length - 1)) with h | h
 ·have h1 := aeA n
  rcases zv 1 (aaY n).length with h2 | h2
  ·have := (aa2 (k := (aaY n).length - 1) zb).2 h
   omega
  ·have : (aaY n).length - 1 = 0 := zb
   rw [this] at h; simp at h; omega
 ·exact h
theorem azT {s : List UInt8} : isD s → s ≠ [] → (s.head? ≠ some 48 ∨ s.length = 1) → s = aaY (num s) := by
 induction s using aAx with
 | nil => intro _ h; exact absurd rfl h
 | snoc s c ih =>
  intro h _ hz
  rw [isD_append] at h
  have h2 := h.2 c zg
  have hdv : dv c = c.toNat - 48 := rfl
  have hc : c = UInt8.ofNat (48 + (c.toNat - 48)) := by
   rw [show 48 + (c.toNat - 48) = c.toNat by omega]; simp
  rw [ai1]
  by_cases hs : s = []
  ·subst hs
   simp only [yk]
   rw [show num [] * 10 + dv c = c.toNat - 48 by simp [num, ayO, hdv], abK zb, ← hc]
  ·have hz' : s.head? ≠ some 48 := by
    rcases hz with h0 | h0
    ·cases s with
     | nil => exact absurd rfl hs
     | cons a s => simpa using h0
    ·have := zK.2 hs
     rw [zu, yh] at h0; omega
   have h3 := ih h.1 hs (Or.inl hz')
   have h4 : 1 ≤ num s := by
    rcases zF (num s) with h0 | h0
    ·rw [h0, abK zb] at h3
     rw [h3] at hz'
     simp at hz'
    ·exact h0
   rw [ad9 (n := num s * 10 + dv c) zb]
   rw [show (num s * 10 + dv c) / 10 = num s by omega, show (num s * 10 + dv c) % 10 = c.toNat - 48 by omega, ← h3, ← hc]
theorem aHH {n : Nat} (h : n ≠ 0) : (aaY n).head? ≠ some 48 := by
 induction n using Nat.strongRecOn with
 | _ n ih =>
  rcases zv n 10 with h9 | h9
  ·rw [abK h9]
   simp only [wT]
   intro h0
   injection h0 with h0
   have := aoW h9
   rw [h0] at this
   simp at this; omega
  ·rw [ad9 h9]
   have := ih (n / 10) zb zb
   cases hd : aaY (n / 10) with
   | nil => exact absurd hd (aeF _)
   | cons a l => rw [hd] at this; simpa using this
theorem akL (n : Nat) : dec (n : Int) = aaY n := by unfold dec; rw [if_neg zb]; simp
theorem agO {z : Int} (h : z < 0) : dec z = 45 :: aaY z.natAbs := by unfold dec; rw [if_pos h]
theorem ab4 {z : Int} (h : 0 ≤ z) : dec z = aaY z.natAbs := by unfold dec; rw [if_neg zb]
theorem acT (n : Nat) : (aaY n).head? ≠ some 45 := by
 cases hd : aaY n with
 | nil => simp
 | cons a l =>
  have := agE n a (by rw [hd]; simp)
  simp only [wT]
  intro h
  injection h with h
  rw [h] at this
  simp at this
theorem anA {a b : Int} (h : dec a = dec b) : a = b := by
 rcases zS a 0 with ha | ha <;> rcases zS b 0 with hb | hb
 ·rw [agO ha, agO hb] at h
  injection h with _ h
  have := aoV h
  omega
 ·rw [agO ha, ab4 hb] at h
  have := acT b.natAbs
  rw [← h] at this
  simp at this
 ·rw [agO hb, ab4 ha] at h
  have := acT a.natAbs
  rw [h] at this
  simp at this
 ·rw [ab4 ha, ab4 hb] at h
  have := aoV h
  omega
theorem ahR (z : Int) : (dec z).length ≤ (aaY z.natAbs).length + 1 := by unfold dec; split <;> simp
theorem sd {p : Prop} (h : p := by first | omega | ((try simp only [zV, xc, xi, xo, beq_eq_false_iff_ne, bne_eq_false_iff_eq, yc, xr]) <;> (try simp only [aaD, inb, inc, ge_iff_le, gt_iff_lt, zj, asT, ne_eq]) <;> omega) | ((try simp only [zV, xc, xi, xo, beq_eq_false_iff_ne, bne_eq_false_iff_eq, yc, xr]) <;> (try simp only [aaD, inb, inc, ge_iff_le, gt_iff_lt, zj, asT, ne_eq]) <;> (simp (disch := omega) only [aaA, aaG, aaQ, abR, aaK, zo, zj, aaD]; omega)) | fail) : p := h
theorem za {α : Type} {x y : TT α} {r : Option α} (k : y.toO = r) (h : x.toO = y.toO := by first | exact uV rfl | exact uB rfl | exact uN sd rfl | exact uT sd rfl | exact uF sd rfl | exact uN (by simp) rfl) : x.toO = r := h.trans k
theorem sn {p : Prop} (h : p := by (try simp only [aaD, inb, inc, ge_iff_le, gt_iff_lt, zj, asT, ne_eq]); omega) : p := h
def asB (k n : Nat) : List UInt8 := List.replicate (k - (aaY n).length) 48 ++ aaY n
theorem aJg {r : Nat} (h : r < 10) : asB 1 r = [UInt8.ofNat (48 + r)] := by
 unfold asB; rw [abK h]; rfl
theorem aFL {k r : Nat} (hk : 1 ≤ k) : asB (k + 1) r = asB k (r / 10) ++ [UInt8.ofNat (48 + r % 10)] := by
 unfold asB
 rcases zv r 10 with h | h
 ·rw [abK h, yN h, yr h, abK (by omega : 0 < 10)]
  obtain ⟨j, rfl⟩ : ∃ j, k = j + 1 := ⟨k - 1, by omega⟩
  have e1 : j + 1 + 1 - [UInt8.ofNat (48 + r)].length = j + 1 := zg
  have e2 : j + 1 - [UInt8.ofNat (48 + 0)].length = j := zg
  rw [e1, e2, wU]
  rfl
 ·rw [ad9 h, zu, yh, Nat.add_sub_add_right, zW]
theorem auM {q : Nat} (hq : q ≠ 0) : ∀ {k r : Nat}, 1 ≤ k → r < 10 ^ k → aaY (q * 10 ^ k + r) = aaY q ++ asB k r := by
 intro k
 induction k with
 | zero => intro r h; omega
 | succ k ih =>
  intro r _ hr
  have h10 : 10 ≤ q * 10 ^ (k + 1) + r := by
   have h1 : 10 ^ (k + 1) ≤ q * 10 ^ (k + 1) := Nat.le_mul_of_pos_left _ zb
   have h2 : 10 ≤ 10 ^ (k + 1) := by
    have := zP (show 1 ≤ 10 by omega) (show 1 ≤ k + 1 by omega)
    simpa using this
   omega
  rw [ad9 h10]
  have e1 : q * 10 ^ (k + 1) + r = 10 * (q * 10 ^ k) + r := by rw [yH]; congr 1; rw [← wM, yV]
  have ed : (q * 10 ^ (k + 1) + r) / 10 = q * 10 ^ k + r / 10 := by rw [e1]; omega
  have em : (q * 10 ^ (k + 1) + r) % 10 = r % 10 := by rw [e1]; omega
  rw [ed, em]
  rcases zF k with h | h
  ·subst h
   have hr' : r < 10 := by simpa using hr
   rw [yN hr', yr hr', aJg hr']
   simp
  ·have hr2 : r / 10 < 10 ^ k := by rw [yS zb]; rw [yH] at hr; exact hr
   rw [ih h hr2, aFL h, zW]
def aBG : List Int → List UInt8
 | [] => []
 | d :: r => match r with
  | [] => aaY d.toNat
  | _ :: _ => aBG r ++ asB 9 d.toNat
theorem aCU (n : Nat) (hn : n ≠ 0) : aBG (mag n) = aaY n := by
 induction n using Nat.strongRecOn with
 | _ n ih =>
  unfold mag
  rw [agD zb hn]
  by_cases hq : n / 1000000000 = 0
  ·rw [hq, ac2]
   have : n < 1000000000 := by
    rcases zv n 1000000000 with h | h
    ·exact h
    ·have := Nat.div_pos h zb; omega
   simp only [aBG, zj]
   rw [yr this]
  ·have h1 := ih (n / 1000000000) (wB zb zb) hq
   unfold mag at h1
   cases hd : aoK 1000000000 (n / 1000000000) with
   | nil => exact absurd hd (akK zb hq)
   | cons e r =>
    rw [hd] at h1
    simp only [aBG, zj]
    have h2 := auM hq (k := 9) (r := n % 1000000000) zb (yz _ zb)
    have e : n / 1000000000 * 10 ^ 9 + n % 1000000000 = n := by
     have := Nat.div_add_mod n 1000000000
     omega
    rw [e] at h2
    rw [h2, ← h1]
    rfl
theorem aH0 {l : List Int} {k : Nat} (hk : k + 1 = l.length) : aBG (l.drop k) = aaY (l[k]'zb).toNat := by
 rw [yy zb, List.drop_eq_nil_of_le zb]
 rfl
theorem aEz {l : List Int} {k : Nat} (hk : k + 1 < l.length) : aBG (l.drop k) = aBG (l.drop (k + 1)) ++ asB 9 (l[k]'zb).toNat := by
 rw [yy zb, yy (i := k + 1) hk]
 rfl
theorem aMy {d : Nat} (h : d < 1000000000) : (aaY d).length ≤ 9 := abT (k := 8) h
theorem aJh {d : Nat} (h : d < 1000000000) : (asB 9 d).length = 9 := by
 have := aMy h
 unfold asB; simp; omega
theorem awT : ∀ {l : List Int}, Dg 1000000000 l → (aBG l).length ≤ 9 * l.length
 | [], _ => by simp [aBG]
 | [d], h => by
  have := (anL h).2
  have := aMy (d := d.toNat) zb
  simp only [aBG, yh]; omega
 | d :: e :: r, h => by
  have h1 := awT (ak0 h)
  have := (anL h).2
  have h2 := aJh (d := d.toNat) zb
  rw [show aBG (d :: e :: r) = aBG (e :: r) ++ asB 9 d.toNat from rfl, zu]
  simp only [zE] at h1 ⊢
  omega
def Bd (k n : Nat) : Prop := (mag n).length ≤ 1000000 * 4 ^ k
theorem aaO {k j n : Nat} (h : Bd k n) (hk : k ≤ j) : Bd j n := zw h (ya _ (zP zb hk))
theorem aoX {k m n : Nat} (h : Bd k n) (hm : m ≤ n) : Bd k m := zw (abG hm) h
theorem aeC {k m n : Nat} (h1 : Bd k m) (h2 : Bd k n) : Bd (k + 1) (m * n) := by
 have := agM m n
 unfold Bd at *
 rw [yH]
 omega
theorem af0 {k m n : Nat} (h1 : Bd k m) (h2 : Bd k n) : Bd (k + 1) (m + n) := by
 have := agN m n
 have h3 : 1 ≤ 4 ^ k := Nat.pow_pos zb
 unfold Bd at *
 rw [yH]
 omega
theorem acI {k m : Nat} (n : Nat) (h1 : Bd k m) : Bd k (m / n) := aoX h1 (xk _ _)
theorem agF {k m : Nat} (n : Nat) (h1 : Bd k m) : Bd k (m % n) := aoX h1 (Nat.mod_le _ _)
theorem ae6 {k m n : Nat} (h1 : Bd k m) (h2 : Bd k n) : Bd k (Nat.gcd m n) := by
 rcases zF m with h | h
 ·subst h; rw [Nat.gcd_zero_left]; exact h2
 ·exact aoX h1 (Nat.gcd_le_left _ h)
theorem abQ {k : Nat} {a b : Int} (h1 : Bd k a.natAbs) (h2 : Bd k b.natAbs) : Bd (k + 1) (a + b).natAbs := aoX (af0 h1 h2) (Int.natAbs_add_le a b)
theorem aaP {k : Nat} {a b : Int} (h1 : Bd k a.natAbs) (h2 : Bd k b.natAbs) : Bd (k + 1) (a * b).natAbs := by rw [yB]; exact aeC h1 h2
theorem adP {k : Nat} {a : Int} (h1 : Bd k a.natAbs) : Bd k (-a).natAbs := by rw [wI]; exact h1
theorem abP {k n : Nat} (h : Bd k n) : Bd k (n : Int).natAbs := h
theorem abL {n : Nat} (h : n < 1000000000000000000000000000) : Bd 0 n := by
 unfold Bd
 have : (mag n).length ≤ 3 := mag_length_le_iff.2 zb
 omega
theorem zc {p : Prop} (h : p := by repeat (first | assumption | exact aaO (by assumption) (by omega) | exact abL (by omega) | refine ae6 ?_ ?_ | refine acI _ ?_ | refine agF _ ?_ | refine abQ ?_ ?_ | refine aaP ?_ ?_ | refine adP ?_ | refine aeC ?_ ?_ | refine af0 ?_ ?_ | refine abP ?_)) : p := h
theorem asN {n k : Nat} (h : (aaY n).length ≤ k) : (mag n).length ≤ k := by
 rw [mag_length_le_iff]
 have h1 := afR n
 have h2 : (10 : Nat) ^ (aaY n).length ≤ 10 ^ (9 * k) := zP zb zb
 have h3 : (10 : Nat) ^ (9 * k) = 1000000000 ^ k := by rw [Nat.pow_mul]
 omega
theorem adO {n k : Nat} (h : (mag n).length ≤ k) : (aaY n).length ≤ 9 * k + 1 := by
 rw [mag_length_le_iff] at h
 have h3 : (10 : Nat) ^ (9 * k) = 1000000000 ^ k := by rw [Nat.pow_mul]
 have h4 : (10 : Nat) ^ (9 * k) ≤ 10 ^ (9 * k + 1) := zP zb zb
 exact abT zb
theorem aOd {n : Nat} (h : (aaY n).length ≤ 1000000) : Bd 0 n := asN h
@[reducible] def sg (z : Int) : List Int × Bool × Unit := (mag z.natAbs, decide (z < 0), ())
theorem apG {a b : Int} (h : sg a = sg b) : a = b := by
 obtain ⟨h1, h2⟩ := Prod.mk.inj h
 obtain ⟨h2, -⟩ := Prod.mk.inj h2
 have := afP h1
 simp only [decide_eq_decide] at h2
 omega
@[reducible] def rt (q : Rat) : (List Int × Bool × Unit) × List Int × Unit := (sg q.num, mag q.den, ())
theorem axS {a b : Rat} (h : rt a = rt b) : a = b := by
 obtain ⟨h1, h2⟩ := Prod.mk.inj h
 obtain ⟨h2, -⟩ := Prod.mk.inj h2
 exact Rat.ext (apG h1) (afP h2)
@[reducible] def fx (q : Rat) : List UInt8 × List UInt8 × Unit := (dec q.num, aaY q.den, ())
theorem aLm {a b : Rat} (h : fx a = fx b) : a = b := by
 obtain ⟨h1, h2⟩ := Prod.mk.inj h
 obtain ⟨h2, -⟩ := Prod.mk.inj h2
 exact Rat.ext (anA h1) (aoV h2)
def Fit (z : Int) : Prop := (aaY z.natAbs).length ≤ 600
instance (z : Int) : Decidable (Fit z) := inferInstanceAs (Decidable (_ ≤ _))
def al4 (q : Rat) : Prop := Fit q.num ∧ Fit q.den
instance (q : Rat) : Decidable (al4 q) := inferInstanceAs (Decidable (_ ∧ _))
theorem az3 {z : Int} (h : Fit z) : Bd 0 z.natAbs := aOd (zw h zb)
noncomputable def rdW (s : List UInt8) : Option Int := open Classical in if h : ∃ z : Int, Fit z ∧ dec z = s then some h.choose else none
theorem avN {z : Int} (h : Fit z) : rdW (dec z) = some z := by
 have hex : ∃ w : Int, Fit w ∧ dec w = dec z := ⟨z, h, rfl⟩
 unfold rdW
 rw [dif_pos hex, anA hex.choose_spec.2]
theorem ahD {s : List UInt8} {z : Int} (h : rdW s = some z) : Fit z ∧ s = dec z := by
 unfold rdW at h
 split at h
 ·rename_i hex
  injection h with h
  subst h
  exact ⟨hex.choose_spec.1, hex.choose_spec.2.symm⟩
 ·cases h
theorem aI2 {s : List UInt8} (h : ∀ z : Int, Fit z → dec z ≠ s) : rdW s = none := by
 unfold rdW
 rw [dif_neg (fun ⟨z, h1, h2⟩ => h z h1 h2)]
noncomputable def rdF (s : List UInt8 × List UInt8 × Unit) : Option Rat := open Classical in if h : ∃ q : Rat, al4 q ∧ fx q = s then some h.choose else none
theorem atG {q : Rat} (h : al4 q) : rdF (fx q) = some q := by
 have hex : ∃ w : Rat, al4 w ∧ fx w = fx q := ⟨q, h, rfl⟩
 unfold rdF
 rw [dif_pos hex, aLm hex.choose_spec.2]
theorem ahE {s : List UInt8 × List UInt8 × Unit} {q : Rat} (h : rdF s = some q) : al4 q ∧ s = fx q := by
 unfold rdF at h
 split at h
 ·rename_i hex
  injection h with h
  subst h
  exact ⟨hex.choose_spec.1, hex.choose_spec.2.symm⟩
 ·cases h
theorem avO {s : List UInt8 × List UInt8 × Unit} (h : ∀ q : Rat, al4 q → fx q ≠ s) : rdF s = none := by
 unfold rdF
 rw [dif_neg (fun ⟨z, h1, h2⟩ => h z h1 h2)]
def wrW (z : Int) : List UInt8 × Int × Unit := if Fit z then (dec z, 0, ()) else ([], 6, ())
def wrF (q : Rat) : (List UInt8 × List UInt8 × Unit) × Int × Unit := if al4 q then (fx q, 0, ()) else (([], [], ()), 6, ())
def abN (x : List UInt8 × List UInt8 × Unit) : Option (List UInt8 × Bool × Unit) := some (if x.2.1.isPrefixOf x.1 then (x.1.drop x.2.1.length, true, ()) else (x.1, false, ()))
theorem aAg (n : Nat) : adQ (mag n, ()) = some (decide (n = 0), ()) := by
 unfold adQ
 rcases zF n with h | h
 ·subst h; simp [mag_zero, len]
 ·have : (mag n) ≠ [] := fun h2 => by have := mag_nil_iff.1 h2; omega
  have h3 : (mag n).length ≠ 0 := fun h2 => this (zT.1 h2)
  have : (len (mag n) == 0) = false := by rw [aaD, beq_eq_false_iff_ne]; omega
  rw [this, zl zb]
theorem aoE {a b : Nat} (h1 : Bd 8 a) (h2 : Bd 8 b) : ac5 (mag a, mag b, ()) = some (asV a b, ()) := aaN (enc := fun p : Nat × Nat => (mag p.1, mag p.2, ())) (a, b) ⟨zw h1 ze, zw h2 ze⟩ (fun b hb => ae7 hb)
theorem aAh {a b : Nat} (h1 : Bd 8 a) (h2 : Bd 8 b) : aiQ (mag a, mag b, ()) = some (mag (a + b), ()) := aaN (enc := fun p : Nat × Nat => (mag p.1, mag p.2, ())) (a, b) ⟨zw h1 ze, zw h2 ze⟩ (fun b hb => ae7 hb)
theorem au0 {a b : Nat} (h1 : Bd 8 a) (h2 : b ≤ a) : ag8 (mag a, mag b, ()) = some (mag (a - b), ()) := aaN (enc := fun p : Nat × Nat => (mag p.1, mag p.2, ())) (a, b) ⟨zw h1 ze, h2⟩ (fun b hb => ae7 hb)
theorem anK {a b : Nat} (h1 : Bd 8 a) (h2 : Bd 8 b) : adC (mag a, mag b, ()) = some (mag (a * b), ()) := aaN (enc := fun p : Nat × Nat => (mag p.1, mag p.2, ())) (a, b) ⟨zw h1 ze, zw h2 ze⟩ (fun b hb => ae7 hb)
theorem au2 {n : Nat} (h : Bd 8 n) : aeM (aaY n, ()) = some (mag n, ()) := by
 unfold aeM
 have hl : (aaY n).length ≤ 1000000000000 :=  zw (adO h) ze
 rw [if_pos ⟨agE n, aeF n, hl⟩]
 simp only [alJ]
theorem akY {n : Nat} (h : Bd 0 n) : af3 (mag n, ()) = some (aaY n, ()) := aaN (enc := fun n : Nat => (mag n, ())) n (zw h ze) (fun b hb => afP (Prod.mk.inj hb).1)
theorem aBO {a b : Nat} (h1 : Bd 8 a) (h2 : Bd 8 b) (h3 : b ≠ 0) : af2 (mag a, mag b, ()) = some (mag (a / b), mag (a % b), ()) := aaN (enc := fun p : Nat × Nat => (mag p.1, mag p.2, ())) (a, b) ⟨zw h1 ze, zw h2 ze, h3⟩ (fun b hb => ae7 hb)
theorem aKx {a b : Nat} (h1 : Bd 8 a) (h2 : Bd 8 b) : ao2 (mag a, mag b, ()) = some (mag (Nat.gcd a b), ()) := aaN (enc := fun p : Nat × Nat => (mag p.1, mag p.2, ())) (a, b) ⟨zw h1 ze, zw h2 ze⟩ (fun b hb => ae7 hb)
abbrev SgT := List Int × Bool × Unit
abbrev RtT := (List Int × Bool × Unit) × List Int × Unit
abbrev FxT := List UInt8 × List UInt8 × Unit
def BdQ (k : Nat) (q : Rat) : Prop := Bd k q.num.natAbs ∧ Bd k q.den
def aLd (p q : Rat) : Int := if p < q then -1 else if p = q then 0 else 1
def fl (q : Rat) : Int := q.num / q.den
def ajO (q : Rat) (s : Nat) : Int := fl (q * (s : Rat) + mkRat 1 2)
def ofQ (n d : Int) : FxT × Int × Unit := if d = 0 then (([], [], ()), 7, ()) else wrF (Rat.divInt n d)
def ad7 (z : Int) : Prop := -9223372036854775808 ≤ z ∧ z ≤ 9223372036854775807
instance (z : Int) : Decidable (ad7 z) := inferInstanceAs (Decidable (_ ∧ _))
def abW (x : List Int × Bool × Unit) : Option (SgT × Unit) := some ((x.1, x.2.1 && !(len x.1 == 0), ()), ())
noncomputable def afB : SgT × Unit → Option (SgT × Unit) := afE (fun x : Int => (sg x, ())) (fun x => Bd 8 x.natAbs) (fun x => (sg (-x), ()))
noncomputable def ag9 : SgT × Unit → Option (Int × Unit) := afE (fun x : Int => (sg x, ())) (fun x => Bd 8 x.natAbs) (fun x => (x.sign, ()))
noncomputable def al2 : SgT × SgT × Unit → Option (SgT × Unit) := afE (fun x : Int × Int => (sg x.1, sg x.2, ())) (fun x => Bd 7 x.1.natAbs ∧ Bd 7 x.2.natAbs) (fun x => (sg (x.1 + x.2), ()))
noncomputable def aoC : SgT × SgT × Unit → Option (SgT × Unit) := afE (fun x : Int × Int => (sg x.1, sg x.2, ())) (fun x => Bd 7 x.1.natAbs ∧ Bd 7 x.2.natAbs) (fun x => (sg (x.1 * x.2), ()))
noncomputable def aIj : SgT × Unit → Option (List UInt8 × Unit) := afE (fun x : Int => (sg x, ())) (fun x => Bd 0 x.natAbs) (fun x => (dec x, ()))
noncomputable def aeL : SgT × List Int × Unit → Option (SgT × Unit) := afE (fun x : Int × Nat => (sg x.1, mag x.2, ())) (fun x => Bd 7 x.1.natAbs ∧ Bd 7 x.2) (fun x => (sg (x.1 * x.2), ()))
noncomputable def ajK : SgT × List Int × Unit → Option (SgT × Unit) := afE (fun x : Int × Nat => (sg x.1, mag x.2, ())) (fun x => Bd 7 x.1.natAbs ∧ Bd 7 x.2 ∧ x.2 ≠ 0) (fun x => (sg (x.1 / x.2), ()))
noncomputable def ahA : List UInt8 × Unit → Option (SgT × Unit) := afE (fun x : Int => (dec x, ())) (fun x => Bd 7 x.natAbs) (fun x => (sg x, ()))
noncomputable def ahW (x : List UInt8 × Unit) : Option (SgT × Bool × Unit) := some (match rdW x.1 with | some z => (sg z, true, ()) | none => (([], false, ()), false, ()))
noncomputable def ag3 (x : List UInt8 × Unit) : Option (Int × Unit) := some (if (rdW x.1).isSome then 0 else 10, ())
noncomputable def ao0 (x : List UInt8 × List UInt8 × Unit) : Option (SgT × SgT × Int × Unit) := some (match rdW x.1, rdW x.2.1 with | some z, some w => (sg z, sg w, 0, ()) | _, _ => (([], false, ()), ([], false, ()), 10, ()))
noncomputable def aAb : SgT × Unit → Option (List UInt8 × Int × Unit) := afE (fun x : Int => (sg x, ())) (fun x => Bd 8 x.natAbs) (fun x => wrW x)
noncomputable def auW : RtT × Unit → Option (FxT × Int × Unit) := afE (fun x : Rat => (rt x, ())) (fun x => BdQ 8 x) (fun x => wrF x)
noncomputable def aoD : RtT × Unit → Option (RtT × Unit) := afE (fun x : Rat => (rt x, ())) (fun x => BdQ 7 x) (fun x => (rt (-x), ()))
noncomputable def aw1 : RtT × RtT × Unit → Option (RtT × Unit) := afE (fun x : Rat × Rat => (rt x.1, rt x.2, ())) (fun x => BdQ 3 x.1 ∧ BdQ 3 x.2) (fun x => (rt (x.1 + x.2), ()))
noncomputable def aKv : RtT × RtT × Unit → Option (RtT × Unit) := afE (fun x : Rat × Rat => (rt x.1, rt x.2, ())) (fun x => BdQ 3 x.1 ∧ BdQ 3 x.2) (fun x => (rt (x.1 - x.2), ()))
noncomputable def ajI : RtT × RtT × Unit → Option (Int × Unit) := afE (fun x : Rat × Rat => (rt x.1, rt x.2, ())) (fun x => BdQ 3 x.1 ∧ BdQ 3 x.2) (fun x => (aLd x.1 x.2, ()))
noncomputable def al0 : RtT × List Int × Unit → Option (SgT × Unit) := afE (fun x : Rat × Nat => (rt x.1, mag x.2, ())) (fun x => BdQ 1 x.1 ∧ Bd 1 x.2) (fun x => (sg (ajO x.1 x.2), ()))
noncomputable def acU (x : FxT × Unit) : Option (RtT × Bool × Unit) := some (match rdF x.1 with | some q => (rt q, true, ()) | none => ((([], false, ()), [], ()), false, ()))
noncomputable def ae3 (x : FxT × Unit) : Option (Int × Unit) := some (if (rdF x.1).isSome then 0 else 20, ())
noncomputable def aAc (x : Int × Int × Unit) : Option (FxT × Int × Unit) := if ad7 x.1 ∧ ad7 x.2.1 then some (ofQ x.1 x.2.1) else none
noncomputable def afC (x : FxT × Unit) : Option (Int × Int × Unit) := some (match rdF x.1 with | some q => (q.num.sign, 0, ()) | none => (0, 20, ()))
noncomputable def anI (x : FxT × FxT × Unit) : Option (Int × Int × Unit) := some (match rdF x.1, rdF x.2.1 with | some p, some q => (aLd p q, 0, ()) | _, _ => (0, 20, ()))
noncomputable def aMQ (f : Rat → Rat → Rat) (x : FxT × FxT × Unit) : FxT × Int × Unit := match rdF x.1, rdF x.2.1 with | some p, some q => wrF (f p q) | _, _ => (([], [], ()), 20, ())
noncomputable def aw3 (x : FxT × FxT × Unit) : Option (FxT × Int × Unit) := some (aMQ (· + ·) x)
noncomputable def aw2 (x : FxT × FxT × Unit) : Option (FxT × Int × Unit) := some (aMQ (· * ·) x)
noncomputable def aIh (x : List UInt8 × List UInt8 × Unit) : Option (List UInt8 × Int × Unit) := some (match rdW x.1, rdW x.2.1 with | some z, some w => wrW (z * w) | _, _ => ([], 10, ()))
theorem aJU (z : Int) : Lib.itoa z = dec z := by
 unfold Lib.itoa dec aaY
 by_cases hz : z < 0
 ·rw [if_pos hz, if_pos hz]
 ·rw [if_neg hz, if_neg hz]
  congr 1
  omega
theorem apK (s : List UInt8) : ∀ n, Lib.repeatL s n = (List.replicate n s).flatten
 | 0 => rfl
 | n + 1 => by rw [Lib.repeatL, apK s n, xf, xH]
theorem aKL {q : Rat} {n : Int} {D : Nat} (nz : D ≠ 0) (c : n.natAbs.Coprime D) (h : q = mkRat n D) : q.num = n ∧ q.den = D := by
 rw [h, ← Rat.mk_eq_mkRat n D nz c]; exact ⟨rfl, rfl⟩
theorem aEm {a b : Nat} (h : ∀ k, k ∣ a → k ∣ b → k = 1) : a.Coprime b := h _ (xM a b) (xI a b)
theorem aHJ {n1 n2 : Int} {b' d' b : Nat} (h1 : n1.natAbs.Coprime b) (hb : b' ∣ b) (h3 : b'.Coprime d') : (n1 * d' + n2 * b').natAbs.Coprime b' := by
 refine aEm fun k hk hkb => ?_
 have e1 : (k : Int) ∣ n1 * d' + n2 * b' := xu.2 hk
 have e2 : (k : Int) ∣ n2 * b' := Int.dvd_trans (Int.natCast_dvd_natCast.2 hkb) (Int.dvd_mul_left _ _)
 have e3 : (k : Int) ∣ n1 * d' := by
  have := Int.dvd_sub e1 e2
  rwa [Int.add_sub_cancel] at this
 have e4 : k ∣ n1.natAbs * d' := by
  have := xu.1 e3
  rwa [yB] at this
 have e5 : k.Coprime d' := Nat.Coprime.coprime_dvd_left hkb h3
 have e6 := Nat.Coprime.dvd_of_dvd_mul_right e5 e4
 exact Nat.Coprime.eq_one_of_dvd (Nat.Coprime.coprime_dvd_left e6 h1) (Nat.dvd_trans hkb hb)
theorem aIb (p q : Rat) : ∃ g h : Nat, ∃ top t : Int, g = Nat.gcd p.den q.den ∧ top = p.num * (q.den / g : Nat) + q.num * (p.den / g : Nat) ∧ h = Nat.gcd top.natAbs g ∧ g ≠ 0 ∧ h ≠ 0 ∧ top = h * t ∧ (p + q).num = t ∧ (p + q).den = (p.den / g) * (q.den / h) := by
 obtain ⟨g, hg⟩ : ∃ g, g = Nat.gcd p.den q.den := ⟨_, rfl⟩
 have g0 : 0 < g := by rw [hg]; exact Nat.gcd_pos_of_pos_left _ p.den_pos
 obtain ⟨b', hb⟩ : g ∣ p.den := hg ▸ xM _ _
 obtain ⟨d', hd⟩ : g ∣ q.den := hg ▸ xI _ _
 have hb' : p.den / g = b' := by rw [hb, yg _ g0]
 have hd' : q.den / g = d' := by rw [hd, yg _ g0]
 have hbd : b'.Coprime d' := by
  have := xv (m := p.den) (n := q.den) (by rw [← hg]; exact g0)
  rwa [← hg, hb', hd'] at this
 obtain ⟨top, ht⟩ : ∃ top : Int, top = p.num * (q.den / g : Nat) + q.num * (p.den / g : Nat) := ⟨_, rfl⟩
 obtain ⟨h, hh⟩ : ∃ h, h = Nat.gcd top.natAbs g := ⟨_, rfl⟩
 have h0 : 0 < h := by rw [hh]; exact xN _ g0
 obtain ⟨t, htt⟩ : (h : Int) ∣ top := xu.2 (hh ▸ xM _ _)
 obtain ⟨g', hg'⟩ : h ∣ g := hh ▸ xI _ _
 have c1 : top.natAbs.Coprime b' := by rw [ht, hb', hd']; exact aHJ p.reduced ⟨g, by rw [hb, yV]⟩ hbd
 have c2 : top.natAbs.Coprime d' := by rw [ht, hb', hd', Int.add_comm]; exact aHJ q.reduced ⟨g, by rw [hd, yV]⟩ hbd.symm
 have c3 : t.natAbs.Coprime g' := by
  have := xv (m := top.natAbs) (n := g) (by rw [← hh]; exact h0)
  rw [← hh, htt, yB, ym, yg _ h0] at this
  conv at this => rhs; rw [hg']
  rwa [yg _ h0] at this
 have ct : t.natAbs ∣ top.natAbs := by rw [htt, yB]; exact Nat.dvd_mul_left _ _
 have e : q.den / h = g' * d' := by rw [hd, hg', wM, yg _ h0]
 have hc : t.natAbs.Coprime (b' * (g' * d')) := Nat.Coprime.mul_right (Nat.Coprime.coprime_dvd_left ct c1) (Nat.Coprime.mul_right c3 (Nat.Coprime.coprime_dvd_left ct c2))
 have nb : b' ≠ 0 := by rintro rfl; exact p.den_nz (by rw [hb]; simp)
 have nd : d' ≠ 0 := by rintro rfl; exact q.den_nz (by rw [hd]; simp)
 have ng : g' ≠ 0 := by rintro rfl; simp at hg'; omega
 have nz : b' * (g' * d') ≠ 0 := yX nb (yX ng nd)
 have hv : p + q = mkRat t (b' * (g' * d')) := by
  rw [Rat.add_def', Rat.mkRat_eq_iff (yX p.den_nz q.den_nz) nz, hb, hd]
  rw [hb', hd', htt] at ht
  simp only [yE]
  have hgz : (g : Int) = h * g' := by rw [hg']; simp
  have e1 : (p.num * ((g : Int) * d') + q.num * ((g : Int) * b')) = (g : Int) * (h * t) := by rw [ht]; grind
  rw [e1, hgz]
  grind
 obtain ⟨r1, r2⟩ := aKL nz hc hv
 exact ⟨g, h, top, t, hg, ht, hh, by omega, by omega, htt, r1, by rw [r2, hb', e]⟩
theorem aGD (p q : Rat) : ∃ g h : Nat, ∃ s t : Int, g = Nat.gcd p.num.natAbs q.den ∧ h = Nat.gcd q.num.natAbs p.den ∧ g ≠ 0 ∧ h ≠ 0 ∧ p.num = g * s ∧ q.num = h * t ∧ (p * q).num = s * t ∧ (p * q).den = (p.den / h) * (q.den / g) := by
 obtain ⟨g, hg⟩ : ∃ g, g = Nat.gcd p.num.natAbs q.den := ⟨_, rfl⟩
 obtain ⟨h, hh⟩ : ∃ h, h = Nat.gcd q.num.natAbs p.den := ⟨_, rfl⟩
 have g0 : 0 < g := by rw [hg]; exact xN _ q.den_pos
 have h0 : 0 < h := by rw [hh]; exact xN _ p.den_pos
 obtain ⟨s, hs⟩ : (g : Int) ∣ p.num := xu.2 (hg ▸ xM _ _)
 obtain ⟨t, ht⟩ : (h : Int) ∣ q.num := xu.2 (hh ▸ xM _ _)
 obtain ⟨d', hd⟩ : g ∣ q.den := hg ▸ xI _ _
 obtain ⟨b', hb⟩ : h ∣ p.den := hh ▸ xI _ _
 have hb' : p.den / h = b' := by rw [hb, yg _ h0]
 have hd' : q.den / g = d' := by rw [hd, yg _ g0]
 have as1 : p.num.natAbs / g = s.natAbs := by rw [hs, yB, ym, yg _ g0]
 have at' : q.num.natAbs / h = t.natAbs := by rw [ht, yB, ym, yg _ h0]
 have ds : s.natAbs ∣ p.num.natAbs := by rw [hs, yB]; exact Nat.dvd_mul_left _ _
 have dt : t.natAbs ∣ q.num.natAbs := by rw [ht, yB]; exact Nat.dvd_mul_left _ _
 have db : b' ∣ p.den := ⟨h, by rw [hb, yV]⟩
 have dd : d' ∣ q.den := ⟨g, by rw [hd, yV]⟩
 have c1 : s.natAbs.Coprime b' := Nat.Coprime.coprime_dvd_left ds (Nat.Coprime.coprime_dvd_right db p.reduced)
 have c2 : s.natAbs.Coprime d' := by
  have := xv (m := p.num.natAbs) (n := q.den) (by rw [← hg]; exact g0)
  rwa [← hg, as1, hd'] at this
 have c3 : t.natAbs.Coprime d' := Nat.Coprime.coprime_dvd_left dt (Nat.Coprime.coprime_dvd_right dd q.reduced)
 have c4 : t.natAbs.Coprime b' := by
  have := xv (m := q.num.natAbs) (n := p.den) (by rw [← hh]; exact h0)
  rwa [← hh, at', hb'] at this
 have hc : (s * t).natAbs.Coprime (b' * d') := by
  rw [yB]
  exact Nat.Coprime.mul_left (Nat.Coprime.mul_right c1 c2) (Nat.Coprime.mul_right c4 c3)
 have nb : b' ≠ 0 := by rintro rfl; exact p.den_nz (by rw [hb]; simp)
 have nd : d' ≠ 0 := by rintro rfl; exact q.den_nz (by rw [hd]; simp)
 have nz : b' * d' ≠ 0 := yX nb nd
 have hv : p * q = mkRat (s * t) (b' * d') := by
  rw [Rat.mul_def', Rat.mkRat_eq_iff (yX p.den_nz q.den_nz) nz, hs, ht]
  conv => lhs; rw [yE]
  rw [hb, hd]
  simp only [yE]
  grind
 obtain ⟨r1, r2⟩ := aKL nz hc hv
 exact ⟨g, h, s, t, hg, hh, by omega, by omega, hs, ht, r1, by rw [r2, hb', hd']⟩
theorem afN (n : Int) {d : Nat} (hd : d ≠ 0) : ∃ g : Nat, ∃ t : Int, g = Nat.gcd n.natAbs d ∧ g ≠ 0 ∧ n = g * t ∧ (mkRat n d).num = t ∧ (mkRat n d).den = d / g := by
 obtain ⟨g, hg⟩ : ∃ g, g = Nat.gcd n.natAbs d := ⟨_, rfl⟩
 have g0 : 0 < g := by rw [hg]; exact xN _ zb
 obtain ⟨t, ht⟩ : (g : Int) ∣ n := xu.2 (hg ▸ xM _ _)
 refine ⟨g, t, hg, by omega, ht, ?_, ?_⟩
 ·rw [Rat.num_mkRat, if_neg hd, xO, ← hg, ht, Int.mul_ediv_cancel_left _ zb]
 ·rw [Rat.den_mkRat, if_neg hd, xO, ← hg]
theorem aJ7 (n : Int) {d : Nat} (hd : d ≠ 0) : fl (mkRat n d) = n / d := by
 obtain ⟨g, t, hg, g0, hn, h1, h2⟩ := afN n hd
 obtain ⟨d', hd'⟩ : g ∣ d := hg ▸ xI _ _
 have : d / g = d' := by rw [hd', yg _ zb]
 unfold fl
 rw [h1, h2, this, hn, hd', yE, Int.mul_ediv_mul_of_pos _ _ zb]
theorem aGC (q : Rat) (s : Nat) : ajO q s = (q.num * (s * 2 : Nat) + q.den) / (q.den * 2 : Nat) := by
 unfold ajO
 have h1 : (s : Rat) = mkRat s 1 := by
  have := Rat.mkRat_self (s : Rat)
  rw [Rat.num_natCast, Rat.den_natCast] at this
  exact this.symm
 have h2 : q * (s : Rat) + mkRat 1 2 = mkRat (q.num * (s * 2 : Nat) + q.den) (q.den * 2) := by
  conv => lhs; rw [h1, ← Rat.mkRat_self q]
  rw [Rat.mkRat_mul_mkRat, Rat.mkRat_add_mkRat _ _ (by have := q.den_nz; omega) zb, wy, Int.one_mul]
  congr 1
  simp only [yE]
  grind
 rw [h2, aJ7 _ (yX q.den_nz zb)]
theorem aLX (p q : Rat) : aLd p q = (p.num * q.den + -(q.num * p.den)).sign := by
 unfold aLd
 simp only [Rat.lt_iff, Rat.eq_iff_mul_eq_mul]
 split
 ·rename_i h; exact (xE zb).symm
 ·split
  ·rename_i h; rw [h, Int.add_right_neg]; rfl
  ·exact (xV zb).symm
theorem aKK (a b : List UInt8) : rdF (a, b, ()) = match rdW a, rdW b with
  | some n, some d => if h : 0 < d ∧ n.natAbs.Coprime d.natAbs then some ⟨n, d.natAbs, by omega, h.2⟩ else none
  | _, _ => none := by
 cases ha : rdW a with
 | none =>
  refine avO fun q hq he => ?_
  obtain ⟨h1, -⟩ := Prod.mk.inj he
  rw [← h1, avN hq.1] at ha
  cases ha
 | some n =>
  obtain ⟨fa, rfl⟩ := ahD ha
  cases hb : rdW b with
  | none =>
   refine avO fun q hq he => ?_
   obtain ⟨-, h1⟩ := Prod.mk.inj he
   obtain ⟨h1, -⟩ := Prod.mk.inj h1
   rw [← h1, ← akL, avN hq.2] at hb
   cases hb
  | some d =>
   obtain ⟨fb, rfl⟩ := ahD hb
   simp only
   split
   ·rename_i h
    have e : (dec n, dec d, ()) = fx ⟨n, d.natAbs, by omega, h.2⟩ := by
     unfold fx
     rw [ab4 (z := d) zb]
    rw [e, atG ⟨fa, ?_⟩]
    unfold Fit at *
    simpa using fb
   ·rename_i h
    refine avO fun q hq he => h ?_
    obtain ⟨h1, h2⟩ := Prod.mk.inj he
    obtain ⟨h2, -⟩ := Prod.mk.inj h2
    have e1 := anA h1
    have e2 : (q.den : Int) = d := anA (by rw [akL]; exact h2)
    rw [← e1, ← e2]
    exact ⟨by have := q.den_pos; omega, q.reduced⟩
abbrev BdT := Int × Int × Unit
def okB (lo hi : Int) : Prop := -1000000000000000000 ≤ lo ∧ lo ≤ hi ∧ hi ≤ 1000000000000000000
instance (lo hi : Int) : Decidable (okB lo hi) := inferInstanceAs (Decidable (_ ∧ _))
def mkB (e lo hi : Int) : BdT × Int × Unit := if okB lo hi then ((lo, hi, ()), 0, ()) else ((0, 0, ()), e, ())
def aOA (a b : BdT) : BdT × Int × Unit := if okB a.1 a.2.1 ∧ okB b.1 b.2.1 then mkB 6 (a.1 + b.1) (a.2.1 + b.2.1) else ((0, 0, ()), 30, ())
def okE (p q : Int) : Prop := 1 ≤ p ∧ p ≤ 36 ∧ 1 ≤ q ∧ q ≤ 12
instance (p q : Int) : Decidable (okE p q) := inferInstanceAs (Decidable (_ ∧ _))
abbrev aIf := Int × Int × Int × Int × Int × Int × Unit
abbrev CvT := Int × List Int × List aIf × Unit
def inR (n a b : Int) : Prop := a ≤ n ∧ n ≤ b
instance (n a b : Int) : Decidable (inR n a b) := inferInstanceAs (Decidable (_ ∧ _))
def aLg (s : aIf) : Prop := inR s.2.1 (-100000000) 100000000 ∧ inR s.2.2.1 (-100000000) 100000000 ∧ inR s.2.2.2.2.2.1 (-100000000) 100000000 ∧ inR s.2.2.2.1 1 36 ∧ inR s.2.2.2.2.1 1 12 ∧ Nat.gcd s.2.2.2.1.natAbs s.2.2.2.2.1.natAbs = 1
instance (s : aIf) : Decidable (aLg s) := inferInstanceAs (Decidable (_ ∧ _))
def aLH (last : Int) (s : aIf) : Prop := aLg s ∧ inR s.1 (last + 1) 1000000
instance (last : Int) (s : aIf) : Decidable (aLH last s) := inferInstanceAs (Decidable (_ ∧ _))
def aB2 : Int → List aIf → Prop
 | last, [] => last = 1000000
 | last, s :: r => aLH last s ∧ aB2 s.1 r
def aFf : (last : Int) → (l : List aIf) → Decidable (aB2 last l)
 | last, [] => inferInstanceAs (Decidable (last = 1000000))
 | last, s :: r => @instDecidableAnd _ _ (inferInstanceAs (Decidable (aLH last s))) (aFf s.1 r)
instance (last : Int) (l : List aIf) : Decidable (aB2 last l) := aFf last l
def aM2 (l : List Int) : Prop := 2 ≤ l.length ∧ l.length ≤ 17 ∧ ∀ v ∈ l, inR v 0 65535
instance (l : List Int) : Decidable (aM2 l) := inferInstanceAs (Decidable (_ ∧ _ ∧ _))
def aKG (l : List aIf) : Prop := 1 ≤ l.length ∧ l.length ≤ 4 ∧ aB2 0 l
instance (l : List aIf) : Decidable (aKG l) := inferInstanceAs (Decidable (_ ∧ _ ∧ _))
def aKJ (c : CvT) : Prop := (c.1 = 1 ∧ c.2.1 = [] ∧ c.2.2.1 = []) ∨ (c.1 = 2 ∧ aM2 c.2.1 ∧ c.2.2.1 = []) ∨ (c.1 = 3 ∧ c.2.1 = [] ∧ aKG c.2.2.1)
instance (c : CvT) : Decidable (aKJ c) := inferInstanceAs (Decidable (_ ∨ _ ∨ _))
noncomputable def eqb {α : Type} (a b : α) : Bool := open Classical in if a = b then true else false
def aw4 (x : Int × Int × Unit) : Option (FxT × Unit) := if ad7 x.1 ∧ ad7 x.2.1 then some ((ofQ x.1 x.2.1).1, ()) else none
def ar6 (x : Int × Unit) : Option (FxT × Unit) := if ad7 x.1 then some (fx (mkRat x.1 1), ()) else none
def aN7 (q : Rat) : Rat := if q < 0 then 0 else if q > 1 then 1 else q
def aN2 (c : CvT) : Prop := aKJ c ∧ ∀ s ∈ c.2.2.1, s.2.2.2.2.1 = 1
instance (c : CvT) : Decidable (aN2 c) := inferInstanceAs (Decidable (_ ∧ _))
def dig (n : Nat) : List Int := aoK 10000 n
theorem acS (n : Nat) : Dg 10000 (dig n) := aBt (B := 10000) zb n
theorem aCO (n : Nat) : Cn (dig n) := aHz (B := 10000) zb n
theorem af1 (n : Nat) : V 10000 (dig n) = n := az9 (B := 10000) zb n
theorem arH {m n : Nat} (h : dig m = dig n) : m = n := aCN (B := 10000) zb h
theorem awI {l : List Int} {n : Nat} (h1 : Dg 10000 l) (h2 : Cn l) (h3 : V 10000 l = n) : l = dig n := arG (B := 10000) zb h1 h2 h3
theorem dig_length_le_iff {n k : Nat} : (dig n).length ≤ k ↔ n < 10000 ^ k := by
 constructor
 ·intro h
  have h1 := aqF (B := 10000) zb n
  exact zO h1 (zP zb h)
 ·intro h
  exact aeQ zb h
theorem abZ {m n : Nat} (h : m ≤ n) : (dig m).length ≤ (dig n).length := by
 rw [dig_length_le_iff]
 exact xT h (dig_length_le_iff.1 (zi _))
theorem dig_zero : dig 0 = [] := ac2 _
theorem dig_nil_iff {n : Nat} : dig n = [] ↔ n = 0 := by
 constructor
 ·intro h
  exact arH (h.trans dig_zero.symm)
 ·rintro rfl; exact dig_zero
theorem aHA {d : Nat} (h0 : d ≠ 0) (h1 : d < 10000) : dig d = [(d : Int)] := auJ zb h0 h1
theorem ajU {m n : Nat} (h : (dig m).length < (dig n).length) : m < n := by
 rcases zv m n with h2 | h2
 ·exact h2
 ·have := abZ h2; omega
theorem auL {n k : Nat} (h : (mag n).length ≤ k) : (dig n).length ≤ 3 * k := by
 rw [mag_length_le_iff] at h
 rw [dig_length_le_iff, Nat.pow_mul]
 exact zO h (Nat.pow_le_pow_left zb _)
theorem arW {k n : Nat} (h : Bd k n) (hk : k ≤ 8) : (dig n).length ≤ 200000000000 := by
 have h1 : Bd 8 n := aaO h hk
 have h2 := auL (k := 1000000 * 4 ^ 8) h1
 omega
@[reducible] def pl (z : Int) : Bool × List Int × Unit := (decide (z < 0), dig z.natAbs, ())
theorem apZ {a b : Int} (h : pl a = pl b) : a = b := by
 obtain ⟨h1, h2⟩ := Prod.mk.inj h
 obtain ⟨h2, -⟩ := Prod.mk.inj h2
 have := arH h2
 simp only [decide_eq_decide] at h1
 omega
abbrev PlT := Bool × List Int × Unit
abbrev RaT := PlT × PlT × Unit
@[reducible] def ra (q : Rat) : RaT := (pl q.num, pl q.den, ())
theorem aFv {a b : Rat} (h : ra a = ra b) : a = b := by
 obtain ⟨h1, h2⟩ := Prod.mk.inj h
 obtain ⟨h2, -⟩ := Prod.mk.inj h2
 have := apZ h2
 exact Rat.ext (apZ h1) zb
def aIM (a b : List Int) : Nat → Int
 | 0 => 0
 | k + 1 => if a.getD k 0 ≠ b.getD k 0 then a.getD k 0 - b.getD k 0 else aIM a b k
def aLe (a b : List Int) : Int := if a.length ≠ b.length then (a.length : Int) - b.length else aIM a b a.length
open Classical in
noncomputable def acE (x : List Int × Unit) : Option (List Int × Unit) := if Dg 10000 x.1 ∧ x.1.length ≤ 1000000000000 then some (dig (V 10000 x.1).toNat, ()) else none
open Classical in
noncomputable def aa7 (x : Bool × List Int × Unit) : Option (PlT × Unit) := if Dg 10000 x.2.1 ∧ x.2.1.length ≤ 1000000000000 then some ((x.1 && decide (V 10000 x.2.1 ≠ 0), dig (V 10000 x.2.1).toNat, ()), ()) else none
noncomputable def aeJ (x : List UInt8 × Unit) : Option (Bool × Unit) := if x.1.length ≤ 1000000000000 then some ((rdW x.1).isSome, ()) else none
noncomputable def akV : List UInt8 × Unit → Option (PlT × Unit) := afE (fun z : Int => (dec z, ())) (fun z => Fit z) (fun z => (pl z, ()))
noncomputable def ab8 (x : Int × Unit) : Option (PlT × Unit) := if ad7 x.1 then some (pl x.1, ()) else none
def asP (n : Nat) : List UInt8 := [UInt8.ofNat (48 + n / 1000), UInt8.ofNat (48 + n / 100 % 10), UInt8.ofNat (48 + n / 10 % 10), UInt8.ofNat (48 + n % 10)]
noncomputable def alY : Int × Unit → Option (List UInt8 × Unit) := afE (fun n : Nat => ((n : Int), ())) (fun n => n < 10000) (fun n => (asP n, ()))
noncomputable def aiP : PlT × Unit → Option (List UInt8 × Unit) := afE (fun z : Int => (pl z, ())) (fun z => Bd 6 z.natAbs) (fun z => (dec z, ()))
noncomputable def alZ : PlT × Unit → Option (List UInt8 × Int × Unit) := afE (fun z : Int => (pl z, ())) (fun z => Bd 6 z.natAbs) (fun z => wrW z)
noncomputable def aeI (x : List Int × List Int × Unit) : Option (Int × Unit) := open Classical in if Dg 10000 x.1 ∧ Dg 10000 x.2.1 ∧ x.1.length ≤ 1000000000000 ∧ x.2.1.length ≤ 1000000000000 then some (aLe x.1 x.2.1, ()) else none
noncomputable def ao1 : List Int × List Int × Unit → Option (List Int × Unit) := afE (fun p : Nat × Nat => (dig p.1, dig p.2, ())) (fun p => (dig p.1).length ≤ 1000000000000 ∧ (dig p.2).length ≤ 1000000000000) (fun p => (dig (p.1 + p.2), ()))
open Classical in
noncomputable def aa3 (x : List Int × List Int × Unit) : Option (List Int × Unit) := if Dg 10000 x.1 ∧ Dg 10000 x.2.1 ∧ x.1.length ≤ 1000000000000 ∧ x.2.1.length ≤ x.1.length ∧ V 10000 x.2.1 ≤ V 10000 x.1 then some (dig (V 10000 x.1 - V 10000 x.2.1).toNat, ()) else none
open Classical in
noncomputable def abH (x : List Int × List Int × Unit) : Option (List Int × Unit) := if Dg 10000 x.1 ∧ (Dg 10000 x.2.1 ∨ x.2.1 = [10000]) ∧ x.1.length ≤ 400000000000 ∧ x.2.1.length ≤ 400000000000 then some (dig (V 10000 x.1 * V 10000 x.2.1).toNat, ()) else none
noncomputable def alX : List Int × Int × Unit → Option (List Int × Int × Unit) := afE (fun p : Nat × Nat => (dig p.1, (p.2 : Int), ())) (fun p => (dig p.1).length ≤ 1000000000000 ∧ 0 < p.2 ∧ p.2 < 10000) (fun p => (dig (p.1 / p.2), ((p.1 % p.2 : Nat) : Int), ()))
noncomputable def ag5 : List Int × List Int × Unit → Option (List Int × List Int × Unit) := afE (fun p : Nat × Nat => (dig p.1, dig p.2, ())) (fun p => (dig p.1).length ≤ 200000000000 ∧ (dig p.2).length ≤ 200000000000 ∧ p.2 ≠ 0) (fun p => (dig (p.1 / p.2), dig (p.1 % p.2), ()))
noncomputable def ag6 : PlT × Unit → Option (PlT × Unit) := afE (fun z : Int => (pl z, ())) (fun z => Bd 8 z.natAbs) (fun z => (pl (-z), ()))
noncomputable def ae2 : PlT × PlT × Unit → Option (PlT × Unit) := afE (fun p : Int × Int => (pl p.1, pl p.2, ())) (fun p => Bd 7 p.1.natAbs ∧ Bd 7 p.2.natAbs) (fun p => (pl (p.1 + p.2), ()))
noncomputable def ajH : PlT × PlT × Unit → Option (PlT × Unit) := afE (fun p : Int × Int => (pl p.1, pl p.2, ())) (fun p => Bd 7 p.1.natAbs ∧ Bd 7 p.2.natAbs) (fun p => (pl (p.1 - p.2), ()))
noncomputable def ad2 : PlT × PlT × Unit → Option (PlT × Unit) := afE (fun p : Int × Int => (pl p.1, pl p.2, ())) (fun p => Bd 7 p.1.natAbs ∧ Bd 7 p.2.natAbs) (fun p => (pl (p.1 * p.2), ()))
noncomputable def aeK : PlT × PlT × Unit → Option (PlT × PlT × Unit) := afE (fun p : Int × Int => (pl p.1, pl p.2, ())) (fun p => Bd 6 p.1.natAbs ∧ Bd 6 p.2.natAbs ∧ p.2 ≠ 0) (fun p => (pl (p.1 / p.2), pl (p.1 % p.2), ()))
noncomputable def ad3 : PlT × PlT × Unit → Option (PlT × Unit) := afE (fun p : Int × Int => (pl p.1, pl p.2, ())) (fun p => Bd 8 p.1.natAbs ∧ Bd 8 p.2.natAbs) (fun p => (pl (Nat.gcd p.1.natAbs p.2.natAbs), ()))
def shF (x : FxT) : Prop := x.1.length ≤ 1000000000000 ∧ x.2.1.length ≤ 1000000000000
instance (x : FxT) : Decidable (shF x) := inferInstanceAs (Decidable (_ ∧ _))
noncomputable def aeH : PlT × PlT × Unit → Option (RaT × Unit) := afE (fun x : Int × Int => (pl x.1, pl x.2, ())) (fun x => Bd 6 x.1.natAbs ∧ Bd 6 x.2.natAbs ∧ x.2 ≠ 0) (fun x => (ra (Rat.divInt x.1 x.2), ()))
noncomputable def ajE : Int × Int × Unit → Option (RaT × Unit) := afE (fun x : Int × Int => (x.1, x.2, ())) (fun x => ad7 x.1 ∧ ad7 x.2 ∧ x.2 ≠ 0) (fun x => (ra (Rat.divInt x.1 x.2), ()))
noncomputable def adB (x : FxT × Unit) : Option (Bool × Unit) := if shF x.1 then some ((rdF x.1).isSome, ()) else none
noncomputable def akU : FxT × Unit → Option (RaT × Unit) := afE (fun x : Rat => (fx x, ())) (fun x => al4 x) (fun x => (ra x, ()))
noncomputable def ajF : RaT × Unit → Option (FxT × Int × Unit) := afE (fun x : Rat => (ra x, ())) (fun x => BdQ 6 x) (fun x => wrF x)
noncomputable def ar3 : RaT × RaT × Unit → Option (RaT × Unit) := afE (fun x : Rat × Rat => (ra x.1, ra x.2, ())) (fun x => BdQ 3 x.1 ∧ BdQ 3 x.2) (fun x => (ra (x.1 + x.2), ()))
noncomputable def ajD : RaT × RaT × Unit → Option (RaT × Unit) := afE (fun x : Rat × Rat => (ra x.1, ra x.2, ())) (fun x => BdQ 3 x.1 ∧ BdQ 3 x.2) (fun x => (ra (x.1 * x.2), ()))
noncomputable def ar4 (x : Int × Int × Unit) : Option (FxT × Int × Unit) := aAc x
noncomputable def aCW (x : FxT × FxT × Unit) : Option (FxT × Int × Unit) := if shF x.1 ∧ shF x.2.1 then aw3 x else none
noncomputable def ajG (x : FxT × FxT × Unit) : Option (FxT × Int × Unit) := if shF x.1 ∧ shF x.2.1 then aw2 x else none
def shC (c : CvT) : Prop := c.2.1.length ≤ 1000000000000 ∧ c.2.2.1.length ≤ 1000000000000
instance (c : CvT) : Decidable (shC c) := inferInstanceAs (Decidable (_ ∧ _))
noncomputable def aOI (q : Rat) : Option Rat := if al4 q then some q else none
end Go.Vs
namespace Go.Vg
abbrev TT.tt {α : Type} (x : TT α) : TT α := .triv (true = true) rfl x
abbrev TT.tr {α : Type} (x : TT α) : TT α := .triv True trivial x
abbrev TT.wZ {α : Type} (p : Prop) (x : TT α) (h : p := by repeat' constructor) : TT α := .triv p h x
end Go.Vg
namespace Go.Vs
open Go Go.Vg
abbrev Qq {α : Sort _} (x : α) : Prop := x = x
theorem tv {p : Prop} (h : p := by repeat' constructor) : p := h
abbrev vk {α₁ : Sort _} (a : α₁) : Prop := Qq a ∧ True
abbrev vB {α₁ α₂ : Sort _} (a : α₁) (b : α₂) : Prop := Qq a ∧ Qq b ∧ True
abbrev vq {α₁ α₂ α₃ : Sort _} (a : α₁) (b : α₂) (c : α₃) : Prop := Qq a ∧ Qq b ∧ Qq c ∧ True
abbrev vo {α₁ α₂ α₃ α₄ : Sort _} (a : α₁) (b : α₂) (c : α₃) (d : α₄) : Prop := Qq a ∧ Qq b ∧ Qq c ∧ Qq d ∧ True
abbrev vD {α₁ α₂ α₃ α₄ α₅ α₆ α₇ : Sort _} (a : α₁) (b : α₂) (c : α₃) (d : α₄) (e : α₅) (f : α₆) (g : α₇) : Prop := Qq a ∧ Qq b ∧ Qq c ∧ Qq d ∧ Qq e ∧ Qq f ∧ Qq g ∧ True
abbrev vE {α₁ α₂ α₃ α₄ α₅ α₆ α₇ α₈ : Sort _} (a : α₁) (b : α₂) (c : α₃) (d : α₄) (e : α₅) (f : α₆) (g : α₇) (h : α₈) : Prop := Qq a ∧ Qq b ∧ Qq c ∧ Qq d ∧ Qq e ∧ Qq f ∧ Qq g ∧ Qq h ∧ True
abbrev vt {α₁ α₂ : Sort _} (a : α₁) (b : α₂) : Prop := Qq a ∧ Qq b
abbrev vh {α₁ α₂ α₃ : Sort _} (a : α₁) (b : α₂) (c : α₃) : Prop := Qq a ∧ Qq b ∧ Qq c
abbrev vu {α₁ α₂ α₃ α₄ : Sort _} (a : α₁) (b : α₂) (c : α₃) (d : α₄) : Prop := Qq a ∧ Qq b ∧ Qq c ∧ Qq d
abbrev vj {α₁ : Sort _} (a : α₁) (R : Prop) : Prop := Qq a ∧ R
abbrev vz {α₁ α₂ : Sort _} (a : α₁) (b : α₂) (R : Prop) : Prop := Qq a ∧ Qq b ∧ R
abbrev vl {α₁ α₂ α₃ : Sort _} (a : α₁) (b : α₂) (c : α₃) (R : Prop) : Prop := Qq a ∧ Qq b ∧ Qq c ∧ R
abbrev ve {α₁ α₂ α₃ α₄ : Sort _} (a : α₁) (b : α₂) (c : α₃) (d : α₄) (R : Prop) : Prop := Qq a ∧ Qq b ∧ Qq c ∧ Qq d ∧ R
abbrev vw {α₁ α₂ α₃ α₄ α₅ : Sort _} (a : α₁) (b : α₂) (c : α₃) (d : α₄) (e : α₅) (R : Prop) : Prop := Qq a ∧ Qq b ∧ Qq c ∧ Qq d ∧ Qq e ∧ R
abbrev vC {α₁ α₂ α₃ α₄ α₅ α₆ α₇ : Sort _} (a : α₁) (b : α₂) (c : α₃) (d : α₄) (e : α₅) (f : α₆) (g : α₇) (R : Prop) : Prop := Qq a ∧ Qq b ∧ Qq c ∧ Qq d ∧ Qq e ∧ Qq f ∧ Qq g ∧ R
abbrev vA {α₁ α₂ α₃ α₄ α₅ α₆ α₇ α₈ : Sort _} (a : α₁) (b : α₂) (c : α₃) (d : α₄) (e : α₅) (f : α₆) (g : α₇) (h : α₈) (R : Prop) : Prop := Qq a ∧ Qq b ∧ Qq c ∧ Qq d ∧ Qq e ∧ Qq f ∧ Qq g ∧ Qq h ∧ R
abbrev wY (a R : Prop) : Prop := a ∧ Qq true ∧ R
abbrev vL : Prop := vz 138 false <| True ∧ True
abbrev vO : Prop := vh 0 0 true
abbrev uj : Prop := vu 4 0 1 true
abbrev ul : Prop := wY (vj 255 <| True ∧ vk false) True
abbrev uq : Prop := (vh 18 0 true) ∧ (vh 3 0 true) ∧ (vh 1 0 true) ∧ vO ∧ True
abbrev ux : Prop := wY vL True
abbrev Dd0 := Ty.dflt uu
abbrev Dd1 := Ty.dflt vN
abbrev Dd2 := Ty.dflt (Ty.pair Ty.str Ty.unit)
abbrev Dd3 := Ty.dflt (Ty.pair vU Ty.unit)
abbrev Dd4 := Ty.dflt (Ty.pair ub uu)
abbrev Dd5 := Ty.dflt (Ty.pair ur Ty.unit)
abbrev Dd6 := Ty.dflt ue
abbrev Dd7 := Ty.dflt (Ty.pair Ty.str vN)
abbrev Dd8 := Ty.dflt (Ty.pair (Ty.pair ur uu) Ty.unit)
abbrev Dd9 := Ty.dflt (Ty.pair ur vN)
abbrev aPu := Ty.dflt (Ty.pair ur (Ty.pair ur ue))
abbrev aMV := Ty.dflt (Ty.pair Ty.str ue)
abbrev aPm := Ty.dflt (Ty.pair ub (Ty.pair vI Ty.unit))
abbrev aMK := Ty.dflt (Ty.pair (Ty.pair ur uu) vN)
abbrev aMU := Ty.dflt (Ty.pair vT ue)
abbrev aO8 := Ty.dflt (Ty.pair vG ue)
abbrev aKB := Ty.dflt (Ty.pair vT Ty.unit)
abbrev aAm := Ty.dflt (Ty.pair uy Ty.unit)
abbrev aiW := Ty.dflt (Ty.pair vV Ty.unit)
abbrev aPt := Ty.dflt (Ty.pair uy ue)
abbrev aPl := Ty.dflt (Ty.pair uy (Ty.pair uy Ty.unit))
abbrev aOB := Ty.dflt (Ty.pair vV (Ty.pair vV Ty.unit))
abbrev aIC := Ty.dflt (Ty.pair (Ty.pair vV (Ty.pair vV Ty.unit)) Ty.unit)
end Go.Vs
namespace Go.Vg
open Go
def opn (P : Program) : Nat → TypeId → Ty → Bool
 | 0, _, _ => false
 | n + 1, t, u => Nat.beq (P.cellsOf t) u.size && (match P.underlying t, u with
  | some (.int k), .int k' => decide (k = k')
  | some .bool, .bool => true
  | some .string, .str => true
  | some (.slice e), .sl v => opn P n e v && Nat.ble 1 v.size && Nat.ble 1 (P.bytesOf e)
  | some (.array m e), .arr m' v => Nat.beq m m' && opn P n e v
  | some (.struct fs), u => opFs (opn P n) fs.toList 0 u
  | _, _ => false)
where opFs (f : TypeId → Ty → Bool) : List Field → Nat → Ty → Bool
 | [], _, u => match u with | .unit => true | _ => false
 | x :: r, off, u => match u with
  | .pair t v => Nat.beq x.offset off && f x.type t && opFs f r (off + t.size) v
  | _ => false
theorem aFu {α : Type} {R : α → List Value → Prop} {n : Nat} : ∀ (len : Nat) (cs : List Value), cs.length = len * n → (∀ i, i < len → ∃ x, R x ((cs.drop (i * n)).take n)) → ∃ xs, xs.length = len ∧ RdL R xs cs
 | 0, cs, hl, _ => ⟨[], rfl, by rw [wD] at hl; exact yd hl⟩
 | len + 1, cs, hl, h => by
  obtain ⟨x, hx⟩ := h 0 (Nat.succ_pos _)
  rw [wD, yv] at hx
  have hl' : (cs.drop n).length = len * n := by rw [ye, hl, yb]; omega
  obtain ⟨xs, h1, h2⟩ := aFu len (cs.drop n) hl' (fun i hi => by
   have := h (i + 1) (Nat.succ_lt_succ hi)
   rw [zQ]
   rwa [yb, yK] at this)
  exact ⟨x :: xs, by rw [zE, h1], cs.take n, cs.drop n, (xj n cs).symm, hx, h2⟩
section
variable {H : Type} {enc : TypeId × Value → H} {P : Program} {w : World} {spare : Nat → Bool} {held : Bool}
abbrev ajP (l : List Nat) : Prop := l.all (· ≤ reachBytes) = true
theorem aiD {a b : List Nat} (h : ajP (a ++ b)) : ajP a ∧ ajP b := by
 simp only [ajP, List.all_append, zk] at h
 exact h
theorem aqH {e : TypeId} : ∀ {ds : List (DataW H)}, ajP (DataW.weightsAll P e ds) → ∀ d ∈ ds, ajP (d.weights P e)
 | [], _, _, h => by cases h
 | d :: r, h, x, hx => by
  rw [DataW.weightsAll] at h
  obtain ⟨h1, h2⟩ := aiD h
  rcases zm.1 hx with rfl | hx
  ·exact h1
  ·exact aqH h2 x hx
theorem at2 : ∀ {ts : List TypeId} {ds : List (DataW H)}, ajP (DataW.weightsEach P ts ds) → ∀ (i : Nat) t d, ts[i]? = some t → ds[i]? = some d → ajP (d.weights P t)
 | [], _, _, i, t, d, h, _ => by simp at h
 | _ :: _, [], _, i, t, d, _, h => by simp at h
 | t :: ts, d :: ds, h, i, t', d', h1, h2 => by
  rw [DataW.weightsEach] at h
  obtain ⟨h3, h4⟩ := aiD h
  cases i with
  | zero => simp at h1 h2; subst h1; subst h2; exact h3
  | succ i => exact at2 h4 i t' d' (by simpa using h1) (by simpa using h2)
theorem ajA {a : Addr} {n : Nat} {l : List Value} (h : w.cells? 0 a n = some l) : l.length = n ∧ ∀ i (hi : i < n), w.cell? (a.add i) = l[i]? := by
 unfold World.cells? at h
 rw [if_pos (zN _)] at h
 refine ⟨by simpa using mapM_some_length h, fun i hi => ?_⟩
 have := mapM_some_get h i i (by simp [hi])
 exact this
theorem aEq {a : Addr} {v : Value} (h : w.cell? a = some v) : ∃ c e fr, w.heap[a.block]? = some (.cells c e fr) ∧ a.spot = none ∧ c[a.off]? = some v := by
 unfold World.cell? at h
 split at h
 ·rename_i c e fr hc
  split at h
  ·cases h
  ·rename_i hs
   exact ⟨c, e, fr, hc, by simpa using hs, h⟩
 ·cases h
theorem axV : reachBytes ≤ lim := ze
theorem aFO {n : Nat} {f : TypeId → Ty → Bool} {cs : List Value} (hf : ∀ t u cs d ps, f t u = true → DataW.trod enc P w 0 spare held n t cs = some (d, ps) → ajP (d.weights P t) → ∃ x, Rd (· < w.heap.size) w u x cs)
  (hsz : ∀ t u, f t u = true → P.cellsOf t = u.size) :
  ∀ (fs : List Field) (off : Nat) (u : Ty) (xs : List (DataW H × List MemPlace)), opn.opFs f fs off u = true → cs.length = off + u.size → xs.length = fs.length →
   (∀ (i : Nat) (g : Field), fs[i]? = some g → DataW.trod enc P w 0 spare held n g.type ((cs.drop g.offset).take (P.cellsOf g.type)) = xs[i]?) →
   (∀ (i : Nat) (g : Field) y, fs[i]? = some g → xs[i]? = some y → ajP (y.1.weights P g.type)) → ∃ x, Rd (· < w.heap.size) w u x (cs.drop off)
 | [], off, u, xs, h, hl, _, _, _ => by
  cases u <;> first | (cases h; done) | skip
  exact ⟨(), by
   have : cs.length = off := by simpa [Ty.size] using hl
   show cs.drop off = []
   exact List.drop_eq_nil_of_le zb⟩
 | g :: r, off, u, xs, h, hl, hx, ht, hw => by
  cases u <;> first | (cases h; done) | skip
  rename_i t v
  simp only [opn.opFs, zk] at h
  obtain ⟨⟨h1, h2⟩, h3⟩ := h
  have h1 := Nat.eq_of_beq_eq_true h1
  subst h1
  have hs := hsz _ _ h2
  cases xs with
  | nil => simp at hx
  | cons y ys =>
   have h4 := ht 0 g rfl
   rw [hs] at h4
   obtain ⟨a, ha⟩ := hf _ _ _ y.1 y.2 h2 h4 (hw 0 g y rfl rfl)
   obtain ⟨b, hb⟩ := aFO hf hsz r (g.offset + t.size) v ys h3 (by rw [hl]; simp only [Ty.size]; omega) (by simpa using hx) (fun i k hk => by have := ht (i + 1) k (by simpa using hk); simpa using this) (fun i k z hk hz => hw (i + 1) k z (by simpa using hk) (by simpa using hz))
   refine ⟨(a, b), _, _, (xj t.size (cs.drop g.offset)).symm, ha, ?_⟩
   rw [zQ]
   exact hb
theorem aoP {n : Nat} {t : TypeId} {u : Ty} (h : opn P n t u = true) : P.cellsOf t = u.size := by
 cases n with
 | zero => cases h
 | succ n =>
  simp only [opn, zk] at h
  exact Nat.eq_of_beq_eq_true h.1
theorem alA : ∀ (n : Nat) (t : TypeId) (u : Ty) (fuel : Nat) (cs : List Value) (d : DataW H) (ps : List MemPlace), opn P n t u = true → DataW.trod enc P w 0 spare held fuel t cs = some (d, ps) → ajP (d.weights P t) →
  ∃ x, Rd (· < w.heap.size) w u x cs
 | 0, _, _, _, _, _, _, h, _, _ => by cases h
 | n + 1, t, u, fuel, cs, d, ps, h, hd, hw => by
  have hsz := aoP h
  simp only [opn, zk] at h
  obtain ⟨-, h⟩ := h
  split at h
  ·rename_i k k' hu
   have := of_decide_eq_true h
   subst this
   obtain ⟨m, rfl, _, hwf⟩ := DataW.trod_int hu hd
   refine ⟨m, rfl, ?_⟩
   simpa [Lit.wf] using hwf
  ·rename_i hu
   obtain ⟨b, rfl, _⟩ := DataW.trod_bool hu hd
   exact ⟨b, rfl⟩
  ·rename_i hu
   obtain ⟨s, rfl, hx, _⟩ := DataW.trod_string hu hd
   injection hx with hx _
   subst hx
   have : s.data.toList.length ≤ reachBytes := by simpa [ajP, DataW.weights] using hw
   exact ⟨s.data.toList, rfl, zw this axV⟩
  ·rename_i e v hu
   simp only [zk] at h
   obtain ⟨⟨h1, h2⟩, h3⟩ := h
   have h2 := Nat.le_of_ble_eq_true h2
   have h3 := Nat.le_of_ble_eq_true h3
   have hse := aoP h1
   rcases DataW.trod_slice hu hd with ⟨rfl, hx⟩ | ⟨a, len, cap, elems, rest, m, rfl, rfl, hx, _, hlc, _, hle, hel, _, _⟩
   ·exact ⟨[], none, 0, rfl, zi _, zN _, Or.inl rfl⟩
   ·injection hx with hx _
    subst hx
    simp only [DataW.weights, hu, ajP, List.all_cons, zk, zV, List.all_append] at hw
    obtain ⟨hw1, hw2, _⟩ := hw
    have hlim : len ≤ lim := by
     have : len * 1 ≤ (List.map (·.1) elems).length * P.bytesOf e := Nat.mul_le_mul (by simp [hle]) h3
     have h4 : (List.map (·.1) elems).length * P.bytesOf e ≤ ((List.map (·.1) elems).length + (List.map (·.1) rest).length) * P.bytesOf e := zI _ (yF _ _)
     exact zw zb (zw hw1 axV)
    rcases zF len with h0 | h0
    ·subst h0
     exact ⟨[], some a, cap, rfl, hlc, zN _, Or.inl rfl⟩
    ·-- the cells of an element
     have key : ∀ i, i < len → ∃ l y, w.cells? 0 (a.add (i * v.size)) v.size = some l ∧ DataW.trod enc P w 0 spare held m e l = some y ∧ elems[i]? = some y := by
      intro i hi
      have := hel i hi
      rw [zJ zb, hse] at this
      obtain ⟨l, hl1, hl2⟩ := Option.bind_eq_some_iff.1 this
      exact ⟨l, _, hl1, hl2, by rw [zJ zb]⟩
     obtain ⟨l0, y0, hl0, -, -⟩ := key 0 h0
     obtain ⟨hn0, hc0⟩ := ajA hl0
     have hc00 := hc0 0 h2
     rw [zJ zb] at hc00
     obtain ⟨c, et, fr, hb, hsp, _⟩ := aEq hc00
     have e0 : a.add (0 * v.size) = a := by simp [Addr.add]
     rw [e0] at hb hsp
     have e00 : a.add 0 = a := by simp [Addr.add]
     rw [e00] at hb hsp
     obtain ⟨b, o, sp⟩ := a
     dsimp only at hb hsp
     subst hsp
     -- each cell
     have cell : ∀ i, i < len → ∀ j, j < v.size → ∀ l, w.cells? 0 (Addr.add ⟨b, o, none⟩ (i * v.size)) v.size = some l → c[o + i * v.size + j]? = l[j]? := by
      intro i hi j hj l hl
      obtain ⟨q1, q2⟩ := ajA hl
      have := q2 j hj
      rw [← this]
      have ea : ((Addr.add ⟨b, o, none⟩ (i * v.size)).add j) = ⟨b, o + i * v.size + j, none⟩ := by
       unfold Addr.add
       by_cases c1 : i * v.size = 0 <;> by_cases c2 : j = 0 <;> simp [c1, c2]
      rw [ea]
      unfold World.cell?
      dsimp only
      rw [hb]
      rfl
     have part : ∀ i, i < len → ∀ l, w.cells? 0 (Addr.add ⟨b, o, none⟩ (i * v.size)) v.size = some l → (c.toList.drop (o + i * v.size)).take v.size = l := by
      intro i hi l hl
      obtain ⟨q1, q2⟩ := ajA hl
      apply List.ext_getElem?
      intro j
      rcases zv j v.size with hj | hj
      ·rw [List.getElem?_take_of_lt hj, yA, ← cell i hi j hj l hl]
       simp
      ·rw [xZ (by rw [zR]; omega), xZ zb]
     have hlen : o + len * v.size ≤ c.size := by
      obtain ⟨l, y, hl, -, -⟩ := key (len - 1) zb
      obtain ⟨q1, q2⟩ := ajA hl
      have := cell (len - 1) zb (v.size - 1) zb l hl
      rw [zJ zb] at this
      have hlt := (xh.1 this).1
      have e1 : len * v.size = (len - 1) * v.size + v.size := by
       conv => lhs; rw [show len = (len - 1) + 1 by omega]
       rw [yb]
      omega
     obtain ⟨xs, hx1, hx2⟩ := aFu (R := Rd (· < w.heap.size) w v) (n := v.size) len ((c.toList.drop o).take (len * v.size)) (by rw [zR, ye]; simp; omega) (fun i hi => by
      obtain ⟨l, y, hl, hl2, hy⟩ := key i hi
      have hm : y.1 ∈ elems.map (·.1) := zz.2 ⟨y, List.mem_of_getElem? hy, rfl⟩
      obtain ⟨x, hx⟩ := alA n e v m l y.1 y.2 h1 hl2 (aqH hw2 _ hm)
      refine ⟨x, ?_⟩
      have e2 : ((((c.toList.drop o).take (len * v.size)).drop (i * v.size)).take v.size) = l := by
       rw [← part i hi l hl, xX, yR, zQ]
       congr 1
       have : i * v.size + v.size ≤ len * v.size := by rw [← yb]; exact zI _ hi
       omega
      rw [e2]
      exact hx)
     subst hx1
     exact ⟨xs, some ⟨b, o, none⟩, cap, rfl, hlc, hlim, Or.inr ⟨b, o, c, et, fr, rfl, (xh.1 hb).1, hb, hlen, hx2⟩⟩
  ·rename_i m e m' v hu
   simp only [zk] at h
   obtain ⟨h1, h2⟩ := h
   have h1 := Nat.eq_of_beq_eq_true h1
   subst h1
   have hse := aoP h2
   obtain ⟨xs, k, rfl, hx, hlen, hxl, hel⟩ := DataW.trod_array hu hd
   injection hx with hx _
   subst hx
   rw [hsz] at hlen
   have hlen' : cs.length = m * v.size := hlen
   simp only [DataW.weights, hu] at hw
   obtain ⟨ys, hy1, hy2⟩ := aFu (R := Rd (· < w.heap.size) w v) (n := v.size) m cs hlen' (fun i hi => by
    have := hel i hi
    rw [zJ zb, hse] at this
    exact alA n e v k _ _ _ h2 this (aqH hw _ (zz.2 ⟨_, yw zb, rfl⟩)))
   exact ⟨ys, hy1, hy2⟩
  ·rename_i _ fs hu
   obtain ⟨xs, k, rfl, hx, hlen, hxl, hel⟩ := DataW.trod_struct hu hd
   injection hx with hx _
   subst hx
   simp only [DataW.weights, hu] at hw
   obtain ⟨x, hx⟩ := aFO (n := k) (f := opn P n) (cs := cs) (fun t u cs d ps h1 h2 h3 => alA n t u k cs d ps h1 h2 h3) (fun t u h => aoP h) fs.toList 0 _ xs h (by rw [hlen, hsz]; omega) (by simpa using hxl) (fun i g hg => hel i g (by simpa using hg))
    (fun i g y hg hy => at2 hw i g.type y.1 (by simp [hg]) (by simp [hy]))
   exact ⟨x, by simpa using hx⟩
  ·cases h
theorem aJk {f : TypeId → Ty → Bool} : ∀ {fs : List Field} {off : Nat} {u : Ty}, opn.opFs f fs off u = true → u.agg = true
 | [], _, u, h => by cases u <;> first | rfl | (cases h; done)
 | _ :: _, _, u, h => by cases u <;> first | rfl | (cases h; done)
theorem aDB {n : Nat} {t : TypeId} {u : Ty} {r : _root_.Go.Reach} {b0 : Nat} {v : Value} {d : DataW H} {ps : List MemPlace} (ho : opn P n t u = true) (hne : u ≠ .unit) (hval : Value.okWide P w r b0 t v) (hd : DataW.Trod enc P w 0 spare held t v d ps) (hw : ajP (d.weights P t)) :
  ∃ x, RdV (· < w.heap.size) w u x v := by
 obtain ⟨fuel, hf⟩ := hd
 obtain ⟨x, hx⟩ := alA n t u fuel _ _ _ ho hf hw
 refine ⟨x, _, hx, ?_⟩
 cases n with
 | zero => cases ho
 | succ n =>
  simp only [opn, zk] at ho
  obtain ⟨-, h⟩ := ho
  split at h
  ·rename_i k k' hu
   obtain ⟨m, rfl⟩ := WideShapes.okWide_int hu hval
   rfl
  ·rename_i hu
   obtain ⟨m, rfl⟩ := WideShapes.okWide_bool hu hval
   rfl
  ·rename_i hu
   obtain ⟨m, rfl⟩ := WideShapes.okWide_string hu hval
   rfl
  ·rename_i e v' hu
   obtain ⟨a, len, cap, rfl⟩ := WideShapes.okWide_slice hu hval
   rfl
  ·rename_i ha
   unfold Value.okWide at hval
   rw [ha] at hval
   obtain ⟨cs, rfl, _⟩ := hval
   rfl
  ·rename_i fs hu'
   obtain ⟨cs, rfl, _⟩ := WideShapes.okWide_struct hu' hval
   unfold vOf
   rw [if_pos (aJk h)]
   rfl
  ·cases h
def aCk (P : Program) : List TypeId → Ty → Bool
 | [], u => match u with | .unit => true | _ => false
 | t :: ts, u => match u with
  | .pair a b => opn P 8 t a && (match a with | .unit => false | _ => true) && aCk P ts b
  | _ => false
theorem aCl : ∀ (ts : List TypeId) (u : Ty) (vs : List Value) (ds : List (DataW H)) (ps : List MemPlace) {r : _root_.Go.Reach} {b0 : Nat}, aCk P ts u = true → (∀ (j : Nat) t v, ts[j]? = some t → vs[j]? = some v → Value.okWide P w r b0 t v) →
  DataW.TrodAll enc P w 0 spare held ts vs ds ps → ajP (DataW.weightsEach P ts ds) → ∃ x, RdVs (· < w.heap.size) w u x vs
 | [], u, vs, ds, ps, _, _, ho, _, hd, _ => by
  cases u <;> first | (cases ho; done) | skip
  cases vs with
  | nil => exact ⟨(), rfl⟩
  | cons v vs => cases ds <;> exact hd.elim
 | t :: ts, u, vs, ds, ps, r, b0, ho, hv, hd, hw => by
  cases u <;> first | (cases ho; done) | skip
  rename_i a b
  simp only [aCk, zk] at ho
  obtain ⟨⟨h1, h2⟩, h3⟩ := ho
  cases vs with
  | nil => exact hd.elim
  | cons v vs =>
   cases ds with
   | nil => exact hd.elim
   | cons d ds =>
    obtain ⟨p, q, hd1, hd2, _⟩ := hd
    rw [DataW.weightsEach] at hw
    obtain ⟨hw1, hw2⟩ := aiD hw
    obtain ⟨x, hx⟩ := aDB h1 (fun e => by subst e; cases h2) (hv 0 t v rfl rfl) hd1 hw1
    obtain ⟨y, hy⟩ := aCl ts b vs ds q h3 (fun j t' v' e1 e2 => hv (j + 1) t' v' (by simpa using e1) (by simpa using e2)) hd2 hw2
    exact ⟨(x, y), v, vs, rfl, hx, hy⟩
theorem aBZ (hl : laidOutB P = true) {W W' : World} (hb : RowKit.Below W.heap.size W W') : ∀ (ts : List TypeId) (vs : List Value) (ds : List (DataW H)) (ps : List MemPlace), (ts.all fun t => P.readableRec t && decide (t < P.types.size)) = true →
  DataW.TrodAll enc P W 0 (fun _ => true) true ts vs ds ps → (∀ x ∈ ps, x.block < W.heap.size) → DataW.TrodAll enc P W' 0 (fun b => decide (b < W.heap.size)) true ts vs ds ps
 | [], [], [], _, _, hd, _ => hd
 | [], _ :: _, [], _, _, hd, _ | [], _, _ :: _, _, _, hd, _ => by cases ‹List Value› <;> exact hd.elim
 | t :: ts, [], ds, _, _, hd, _ => by cases ds <;> exact hd.elim
 | t :: ts, v :: vs, [], _, _, hd, _ => hd.elim
 | t :: ts, v :: vs, d :: ds, ps, hr, ⟨p, q, h1, h2, e⟩, hlt => by
  simp only [List.all_cons, zk, zV] at hr
  obtain ⟨⟨r1, r2⟩, r3⟩ := hr
  subst e
  exact ⟨p, q, RowKit.Below.trod hl r1 r2 h1 hb (fun x hx => hlt x (wS _ hx)), aBZ hl hb ts vs ds q r3 h2 (fun x hx => hlt x (List.mem_append_right _ hx)), rfl⟩
end
end Go.Vg
