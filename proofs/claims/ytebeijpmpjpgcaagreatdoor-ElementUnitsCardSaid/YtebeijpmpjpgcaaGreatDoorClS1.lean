/-
  Functions of plain data that the Go functions compute, and their laws. Own work; no condition.
-/
import Derived.Test.YtebeijpmpjpgcaaGreatDoorClR7
import Derived.Lib.ItoaMem
import Derived.Lib.AtoiAllCases
import Derived.Lib.ParseIntBTie
import Derived.Lib.Repeat
import Derived.OpenShut
import Derived.Carry
set_option linter.unusedVariables false
set_option linter.unusedSimpArgs false
namespace Go.Vs
open Go Go.Vg
theorem aaB {x : Int} (h0 : -9223372036854775808 ≤ x ∧ x ≤ 9223372036854775807) : w64 x = x := by
 obtain ⟨h0, h1⟩ := h0
 unfold w64 IntKind.wrap
 simp only [IntKind.bits, IntKind.signed, Bool.true_and]
 have e1 : (2 : Int) ^ 64 = 18446744073709551616 := zd
 have e2 : (2 : Int) ^ (64 - 1) = 9223372036854775808 := zd
 simp only [e1, e2, ge_iff_le, ya]
 split <;> omega
theorem aaO {x : Int} (h0 : 0 ≤ x ∧ x ≤ 18446744073709551615) : abZ x = x := by
 obtain ⟨h0, h1⟩ := h0
 unfold abZ IntKind.wrap
 simp only [IntKind.bits, IntKind.signed, Bool.false_and]
 have e1 : (2 : Int) ^ 64 = 18446744073709551616 := zd
 simp only [e1]
 simp only [yn, if_false]
 omega
theorem aa3 {x : Int} (h0 : 0 ≤ x ∧ x ≤ 4294967295) : adY x = x := by
 obtain ⟨h0, h1⟩ := h0
 unfold adY IntKind.wrap
 simp only [IntKind.bits, IntKind.signed, Bool.false_and]
 have e1 : (2 : Int) ^ 32 = 4294967296 := zd
 simp only [e1]
 simp only [yn, if_false]
 omega
theorem ab8 {x : Int} (h0 : 0 ≤ x ∧ x ≤ 255) : wu8 x = x := by
 obtain ⟨h0, h1⟩ := h0
 unfold wu8 IntKind.wrap
 simp only [IntKind.bits, IntKind.signed, Bool.false_and]
 have e1 : (2 : Int) ^ 8 = 256 := zd
 simp only [e1]
 simp only [yn, if_false]
 omega
def V (B : Int) : List Int → Int
 | [] => 0
 | d :: l => d + B * V B l
def Dg (B : Int) (l : List Int) : Prop := ∀ d ∈ l, 0 ≤ d ∧ d < B
def Cn (l : List Int) : Prop := l.getLast? ≠ some 0
theorem ad6 (B : Int) : ∀ (l m : List Int), V B (l ++ m) = V B l + B ^ l.length * V B m
 | [], m => by simp [V]
 | d :: l, m => by
  simp only [xB, V, ad6 B l m, yr, yi]
  grind
theorem axH (B d : Int) : V B [d] = d := by simp [V]
theorem aiA (B : Int) {l : List Int} {i : Nat} (h : i < l.length) : V B (l.take (i + 1)) = V B (l.take i) + B ^ i * l[i] := by
 rw [yg h, ad6, axH, zY, yf zc]
theorem aMu (B : Int) (l : List Int) (i : Nat) (h : i ≤ l.length) : V B l = V B (l.take i) + B ^ i * V B (l.drop i) := by
 conv => lhs; rw [← xc i l]
 rw [ad6, zY, yf h]
theorem aHZ (B : Int) {l : List Int} {i : Nat} (h : i < l.length) : V B (l.drop i) = l[i] + B * V B (l.drop (i + 1)) := by
 rw [yl h]; rfl
theorem asR (B : Int) : Dg B [] := fun _ h => by cases h
theorem aeV {B : Int} {l m : List Int} (hl : Dg B l) (hm : Dg B m) : Dg B (l ++ m) := by
 intro d hd
 rcases zz.1 hd with h | h
 ·exact hl d h
 ·exact hm d h
theorem akI {B d : Int} (h0 : 0 ≤ d) (h1 : d < B) : Dg B [d] := by
 intro x hx
 have := yo.1 hx
 subst this
 exact ⟨h0, h1⟩
theorem alB {B d : Int} {l : List Int} (h : Dg B (d :: l)) : Dg B l := fun x hx => h x (zq _ hx)
theorem anO {B d : Int} {l : List Int} (h : Dg B (d :: l)) : 0 ≤ d ∧ d < B := h d zv
theorem axM {B d : Int} {l : List Int} (h0 : 0 ≤ d ∧ d < B) (h : Dg B l) : Dg B (d :: l) := by
 intro x hx
 rcases zo.1 hx with rfl | h1
 ·exact h0
 ·exact h x h1
theorem acF {B : Int} {l : List Int} (h : Dg B l) (i : Nat) : Dg B (l.take i) := fun x hx => h x (yM hx)
theorem acV {B : Int} {l : List Int} (h : Dg B l) (i : Nat) : Dg B (l.drop i) := fun x hx => h x (yW hx)
theorem aId {B : Int} {l : List Int} (h : Dg B l) {i : Nat} (hi : i < l.length) : 0 ≤ l[i] ∧ l[i] < B := h _ (xz hi)
theorem ahK {B d : Int} {l : List Int} (h : Dg B l) (h0 : 0 ≤ d ∧ d < B) (i : Nat) : Dg B (l.set i d) := by
 intro x hx
 rcases List.mem_or_eq_of_mem_set hx with h1 | h1
 ·exact h x h1
 ·rw [h1]; exact h0
theorem afW {B : Int} (hB : 0 < B) (n : Nat) : Dg B (List.replicate n 0) := by
 intro x hx
 have := (List.mem_replicate.1 hx).2
 omega
theorem asK (B : Int) : ∀ n, V B (List.replicate n 0) = 0
 | 0 => rfl
 | n + 1 => by simp [xW, V, asK B n]
theorem aaQ {B : Int} (hB : 0 ≤ B) : ∀ {l : List Int}, Dg B l → 0 ≤ V B l
 | [], _ => Int.le_refl 0
 | d :: l, h => by
  have h1 := aaQ hB (alB h)
  have h2 := anO h
  have := xg hB h1
  simp only [V]; omega
theorem aEK {B : Int} (hB : 0 < B) : ∀ {l : List Int}, Dg B l → V B l < B ^ l.length
 | [], _ => by simp [V]
 | d :: l, h => by
  have h1 := aEK hB (alB h)
  have h2 := anO h
  simp only [V, yr, yi]
  have h3 : B * (V B l + 1) ≤ B * B ^ l.length := zy zc zc
  rw [yV (B ^ l.length) B]
  rw [xJ] at h3
  omega
def aoU (B n : Nat) : List Int := if _h : n = 0 ∨ B < 2 then [] else ((n % B : Nat) : Int) :: aoU B (n / B)
termination_by n
decreasing_by exact xZ zc zc
theorem adN (B : Nat) : aoU B 0 = [] := by rw [aoU]; simp
theorem agU {B n : Nat} (hB : 2 ≤ B) (hn : n ≠ 0) : aoU B n = ((n % B : Nat) : Int) :: aoU B (n / B) := by
 rw [aoU, dif_neg zc]
theorem aAs {B : Nat} (hB : 2 ≤ B) (n : Nat) : V B (aoU B n) = n := by
 induction n using Nat.strongRecOn with
 | _ n ih =>
  by_cases hn : n = 0
  ·subst hn; rw [adN]; rfl
  ·rw [agU hB hn]
   simp only [V]
   rw [ih (n / B) (xZ zc zc)]
   have := Nat.mod_add_div n B
   have h2 : ((n % B : Nat) : Int) + (B : Int) * ((n / B : Nat) : Int) = ((n % B + B * (n / B) : Nat) : Int) := zh
   rw [h2, this]
theorem aBG {B : Nat} (hB : 2 ≤ B) (n : Nat) : Dg B (aoU B n) := by
 induction n using Nat.strongRecOn with
 | _ n ih =>
  by_cases hn : n = 0
  ·subst hn; rw [adN]; exact asR _
  ·rw [agU hB hn]
   refine axM ⟨by omega, ?_⟩ (ih (n / B) (xZ zc zc))
   have := xb n (show 0 < B by omega)
   omega
theorem ak2 {B : Nat} (hB : 2 ≤ B) {n : Nat} (hn : n ≠ 0) : aoU B n ≠ [] := by rw [agU hB hn]; simp
theorem aoQ : Cn [] := by simp [Cn]
theorem aBX {d : Int} {l : List Int} : Cn (d :: l) ↔ (if l = [] then d ≠ 0 else Cn l) := by
 cases l with
 | nil => simp [Cn]
 | cons e l => simp [Cn, List.getLast?_cons_cons]
theorem aHn {B : Nat} (hB : 2 ≤ B) (n : Nat) : Cn (aoU B n) := by
 induction n using Nat.strongRecOn with
 | _ n ih =>
  by_cases hn : n = 0
  ·subst hn; rw [adN]; exact aoQ
  ·rw [agU hB hn, aBX]
   split
   ·rename_i h
    by_cases h2 : n / B = 0
    ·have := Nat.mod_add_div n B
     rw [h2, Nat.mul_zero] at this
     omega
    ·exact absurd h (ak2 hB h2)
   ·exact ih (n / B) (xZ zc zc)
theorem aAr {B : Int} (hB : 0 < B) : ∀ {l : List Int}, Dg B l → Cn l → V B l = 0 → l = []
 | [], _, _, _ => rfl
 | d :: l, hd, hc, h => by
  have h1 := aaQ zc (alB hd)
  have h2 := anO hd
  simp only [V] at h
  have h3 := xg (show 0 ≤ B by omega) h1
  have h4 : B * V B l = 0 := zc
  have h5 : V B l = 0 := by
   rcases Int.mul_eq_zero.1 h4 with h | h
   ·omega
   ·exact h
  rw [aBX] at hc
  split at hc
  ·omega
  ·rename_i hl; exact absurd (aAr hB (alB hd) hc h5) hl
theorem arS {B : Nat} (hB : 2 ≤ B) : ∀ {l : List Int} {n : Nat}, Dg B l → Cn l → V B l = n → l = aoU B n
 | [], n, _, _, h => by
  have : n = 0 := by simp [V] at h; omega
  subst this; rw [adN]
 | d :: l, n, hd, hc, h => by
  have h1 := aaQ zc (alB hd)
  have h2 := anO hd
  have hn : n ≠ 0 := by
   intro h0
   have := aAr zc hd hc (by rw [h, h0]; rfl)
   cases this
  rw [agU hB hn]
  simp only [V] at h
  obtain ⟨v, hv⟩ := zI h1
  obtain ⟨e, he⟩ := zI h2.1
  rw [hv, he] at h
  have h3 : e + B * v = n := by
   have : ((e + B * v : Nat) : Int) = (n : Int) := by simpa using h
   exact Int.ofNat.inj this
  have h4 : e < B := zc
  have h5 : n % B = e := by rw [← h3, Nat.add_mul_mod_self_left, yj h4]
  have h6 : n / B = v := by rw [← h3, Nat.add_mul_div_left _ _ zc, yN h4, zl]
  rw [h5, h6, he]
  congr 1
  refine arS hB (alB hd) ?_ hv
  rw [aBX] at hc
  split at hc
  ·rename_i hl; rw [hl]; exact aoQ
  ·exact hc
theorem afB {B : Nat} (hB : 2 ≤ B) : ∀ {k n : Nat}, n < B ^ k → (aoU B n).length ≤ k
 | 0, n, h => by
  have : n = 0 := by simpa using h
  subst this; rw [adN]; simp
 | k + 1, n, h => by
  by_cases hn : n = 0
  ·subst hn; rw [adN]; simp
  ·rw [agU hB hn, yr]
   have := afB (k := k) hB (n := n / B) (by rw [yG zc]; rw [yA] at h; exact h)
   omega
theorem aqR {B : Nat} (hB : 2 ≤ B) (n : Nat) : n < B ^ (aoU B n).length := by
 have h := aEK (B := B) zc (aBG hB n)
 rw [aAs hB] at h
 have : ((B : Int) ^ (aoU B n).length) = ((B ^ (aoU B n).length : Nat) : Int) := zh
 rw [this] at h
 omega
theorem aqB {B : Nat} (hB : 2 ≤ B) {n : Nat} (hn : n ≠ 0) : B ^ ((aoU B n).length - 1) ≤ n := by
 rcases zx n (B ^ ((aoU B n).length - 1)) with h | h
 ·have := afB hB h
  have h2 : (aoU B n).length ≠ 0 := by
   intro h3; exact ak2 hB hn (zW.1 h3)
  omega
 ·exact h
theorem aCV {B : Nat} (hB : 2 ≤ B) {m n : Nat} (h : aoU B m = aoU B n) : m = n := by
 have h1 := aAs hB m
 have h2 := aAs hB n
 rw [h] at h1
 omega
theorem auX {B : Nat} (hB : 2 ≤ B) {d : Nat} (h0 : d ≠ 0) (h1 : d < B) : aoU B d = [(d : Int)] := by
 rw [agU hB h0, yj h1, yN h1, adN]
noncomputable def agJ {α A R : Type} (enc : α → A) (pre : α → Prop) (f : α → R) (x : A) : Option R :=
 open Classical in if h : ∃ a, pre a ∧ enc a = x then some (f h.choose) else none
theorem aaZ {α A R : Type} {enc : α → A} {pre : α → Prop} {f : α → R} (a : α) (h : pre a) (hinj : ∀ b, enc b = enc a → b = a) : agJ enc pre f (enc a) = some (f a) := by
 have hex : ∃ b, pre b ∧ enc b = enc a := ⟨a, h, rfl⟩
 unfold agJ
 rw [dif_pos hex, hinj _ hex.choose_spec.2]
theorem aaP {α A R : Type} {enc : α → A} {pre : α → Prop} {f : α → R} {x : A} {y : R} (h : agJ enc pre f x = some y) : ∃ a, pre a ∧ x = enc a ∧ y = f a := by
 unfold agJ at h
 split at h
 ·rename_i hex
  injection h with h
  exact ⟨_, hex.choose_spec.1, hex.choose_spec.2.symm, h.symm⟩
 ·cases h
theorem aaN {α : Type} (l : List α) : len l = (l.length : Int) := rfl
theorem aP3 {α : Type} {l : List α} {i : Int} {d : α} {k : Nat} (h : i = k) (hk : k < l.length) : gi l i d = l[k] := by
 subst h; unfold gi; simp [hk]
theorem uT {α : Type} {b : Bool} {x y : TT α} {r : Option α} (h : b = true) (hx : x.toO = r) : (TT.ite b x y).toO = r := by subst h; exact hx
theorem uF {α : Type} {b : Bool} {x y : TT α} {r : Option α} (h : b = false) (hy : y.toO = r) : (TT.ite b x y).toO = r := by subst h; exact hy
theorem uN {α : Type} {p : Prop} {x : TT α} {r : Option α} (h : p) (hx : x.toO = r) : (TT.need p x).toO = r := by rw [aIx _ _ h]; exact hx
theorem uV {α : Type} {p : Prop} {h : p} {x : TT α} {r : Option α} (hx : x.toO = r) : (TT.triv p h x).toO = r := hx
theorem uB {α β : Type} {b : β} {x : β → TT α} {r : Option α} (hx : (x b).toO = r) : (TT.lt b x).toO = r := hx
theorem uC {α β : Type} {o : Option β} {d : β} {x : β → TT α} {r : Option α} (y : β) (h : o = some y) (hx : (x y).toO = r) : (TT.call o d x).toO = r := by subst h; exact hx
theorem uO {α ι : Type} {t : Nat} {H : TT ι} {R : ι → TT (ι ⊕ α)} {r : Option α} (i : ι) (h : H.toO = some i) (hx : ae1 (fun i => (R i).toO) i = r) : (TT.loop t H R).toO = r := by rw [aIy h]; exact hx
theorem uL {α ι : Type} {t : Nat} {H : TT (ι ⊕ α)} {R : ι → TT α} {r : Option α} (i : ι) (h : H.toO = some (.inl i)) (hx : (R i).toO = r) : (TT.join t H R).toO = r := by rw [aE2 h]; exact hx
theorem uR {α ι : Type} {t : Nat} {H : TT (ι ⊕ α)} {R : ι → TT α} (a : α) (h : H.toO = some (.inr a)) : (TT.join t H R).toO = some a := by rw [aE1 h]
def acG (n : Nat) : List UInt8 := Lib.decDigits n
def dec (z : Int) : List UInt8 := if z < 0 then 45 :: acG z.natAbs else acG z.natAbs
def isD (s : List UInt8) : Prop := ∀ c ∈ s, 48 ≤ c.toNat ∧ c.toNat ≤ 57
def dv (c : UInt8) : Nat := c.toNat - 48
def ayT (a : Nat) (s : List UInt8) : Nat := s.foldl (fun a c => a * 10 + dv c) a
def num (s : List UInt8) : Nat := ayT 0 s
def mag (n : Nat) : List Int := aoU 1000000000 n
def atH (a b : Int) : Int := if a < b then -1 else if a = b then 0 else 1
theorem af6 (n : Nat) : Dg 1000000000 (mag n) := aBG (B := 1000000000) zc n
theorem aNN (n : Nat) : Cn (mag n) := aHn (B := 1000000000) zc n
theorem ak7 (n : Nat) : V 1000000000 (mag n) = n := aAs (B := 1000000000) zc n
theorem af5 {m n : Nat} (h : mag m = mag n) : m = n := aCV (B := 1000000000) zc h
theorem ao8 {l : List Int} {n : Nat} (h1 : Dg 1000000000 l) (h2 : Cn l) (h3 : V 1000000000 l = n) : l = mag n := arS (B := 1000000000) zc h1 h2 h3
noncomputable def au8 (x : Int × Unit) : Option (List UInt8 × Unit) := if -9223372036854775808 ≤ x.1 ∧ x.1 ≤ 9223372036854775807 then some (dec x.1, ()) else none
noncomputable def adP (x : List Int × Unit) : Option (Bool × Unit) := some (len x.1 == 0, ())
open Classical in
noncomputable def acP (x : List Int × Unit) : Option (List Int × Unit) := if Dg 1000000000 x.1 ∧ x.1.length ≤ 2000000000000 then some (mag (V 1000000000 x.1).toNat, ()) else none
noncomputable def ajS : List Int × Unit → Option (Int × Unit) := agJ (fun n : Nat => (mag n, ())) (fun n => n < 1000000000000000000) (fun n => ((n : Int), ()))
noncomputable def adQ : List Int × List Int × Unit → Option (Int × Unit) := agJ (fun p : Nat × Nat => (mag p.1, mag p.2, ())) (fun p => (mag p.1).length ≤ 1000000000000 ∧ (mag p.2).length ≤ 1000000000000) (fun p => (atH p.1 p.2, ()))
noncomputable def amC : List Int × List Int × Unit → Option (List Int × Unit) := agJ (fun p : Nat × Nat => (mag p.1, mag p.2, ())) (fun p => (mag p.1).length ≤ 1000000000000 ∧ (mag p.2).length ≤ 1000000000000) (fun p => (mag (p.1 + p.2), ()))
noncomputable def ahJ : List Int × List Int × Unit → Option (List Int × Unit) := agJ (fun p : Nat × Nat => (mag p.1, mag p.2, ())) (fun p => (mag p.1).length ≤ 1000000000000 ∧ p.2 ≤ p.1) (fun p => (mag (p.1 - p.2), ()))
noncomputable def adF : List Int × List Int × Unit → Option (List Int × Unit) := agJ (fun p : Nat × Nat => (mag p.1, mag p.2, ())) (fun p => (mag p.1).length ≤ 1000000000000 ∧ (mag p.2).length ≤ 1000000000000) (fun p => (mag (p.1 * p.2), ()))
noncomputable def ahI : List Int × Int × Unit → Option (List Int × Int × Unit) := agJ (fun p : Nat × Nat => (mag p.1, (p.2 : Int), ())) (fun p => (mag p.1).length ≤ 1000000000000 ∧ 0 < p.2 ∧ p.2 < 4294967296) (fun p => (mag (p.1 / p.2), ((p.1 % p.2 : Nat) : Int), ()))
noncomputable def ac8 (x : Int × Unit) : Option (List Int × Unit) := if 0 ≤ x.1 ∧ x.1 < 18446744073709551616 then some (mag x.1.toNat, ()) else none
open Classical in
noncomputable def afZ (x : List UInt8 × Unit) : Option (List Int × Unit) := if isD x.1 ∧ x.1 ≠ [] ∧ x.1.length ≤ 1000000000000 then some (mag (num x.1), ()) else none
noncomputable def agH : List Int × Unit → Option (Int × Unit) := agJ (fun n : Nat => (mag n, ())) (fun n => (mag n).length ≤ 1000000000000) (fun n => (((acG n).length : Int), ()))
noncomputable def agI : List Int × Unit → Option (List UInt8 × Unit) := agJ (fun n : Nat => (mag n, ())) (fun n => (mag n).length ≤ 1000000) (fun n => (acG n, ()))
noncomputable def abT : List Int × List Int × Unit → Option (List Int × List Int × Unit) := agJ (fun p : Nat × Nat => (mag p.1, mag p.2, ())) (fun p => (mag p.1).length ≤ 100000000000 ∧ (mag p.2).length ≤ 100000000000 ∧ p.2 ≠ 0) (fun p => (mag (p.1 / p.2), mag (p.1 % p.2), ()))
noncomputable def afU : List Int × List Int × Unit → Option (List Int × Unit) := agJ (fun p : Nat × Nat => (mag p.1, mag p.2, ())) (fun p => (mag p.1).length ≤ 100000000000 ∧ (mag p.2).length ≤ 100000000000) (fun p => (mag (Nat.gcd p.1 p.2), ()))
open Classical in
noncomputable def aH1 (x : List Int × Unit) : Option (List Int × Unit) := if Dg 1000000000 x.1 ∧ x.1.length ≤ 2000000000000 then some (mag (V 1000000000 x.1).toNat, ()) else none
open Classical in
noncomputable def ahF (x : List UInt8 × Unit) : Option (List Int × Unit) := if isD x.1 ∧ x.1 ≠ [] ∧ x.1.length ≤ 1000000000000 then some (mag (num x.1), ()) else none
theorem aA0 {B : Int} (hB : 0 < B) {i j : Nat} (h : i ≤ j) : B ^ i ≤ B ^ j := by
 obtain ⟨k, rfl⟩ := Nat.exists_eq_add_of_le h
 rw [xy]
 have h1 : 1 ≤ B ^ k := yx hB
 have h2 : 0 < B ^ i := yx hB
 have := zy h1 (wk h2)
 omega
theorem aaU {α : Type} (l : List α) (k : Nat) (d : α) : gi l (k : Int) d = l.getD k d := by unfold gi; rw [zk]
theorem ahZ {l : List Int} {k : Nat} (h : k < l.length) (d : Int) : l.getD k d = l[k] := by simp [h]
theorem af9 {l : List Int} {k : Nat} (h : l.length ≤ k) (d : Int) : l.getD k d = d := by simp [h]
theorem aa4 {B : Int} (hB : 0 < B) {l : List Int} (h : Dg B l) (k : Nat) : 0 ≤ l.getD k 0 ∧ l.getD k 0 < B := by
 rcases zx k l.length with hk | hk
 ·rw [ahZ hk]; exact aId h hk
 ·rw [af9 hk]; omega
theorem abB (B : Int) (l : List Int) (k : Nat) : V B (l.take (k + 1)) = V B (l.take k) + B ^ k * l.getD k 0 := by
 rcases zx k l.length with hk | hk
 ·rw [ahZ hk]; exact aiA B hk
 ·rw [af9 hk, zr zc, zr hk]; omega
theorem aaR (B : Int) (l : List Int) (k : Nat) : V B (l.drop k) = l.getD k 0 + B * V B (l.drop (k + 1)) := by
 rcases zx k l.length with hk | hk
 ·rw [ahZ hk]; exact aHZ B hk
 ·rw [af9 hk, ym hk, ym zc]; simp [V]
theorem ac4 (B : Int) {l : List Int} {k : Nat} (h : l.length ≤ k) : V B (l.drop k) = 0 := by rw [ym h]; rfl
theorem abR (B : Int) {l : List Int} {k : Nat} (h : l.length ≤ k) : V B (l.take k) = V B l := by rw [zr h]
theorem acH (B : Int) (l : List Int) (k : Nat) : V B l = V B (l.take k) + B ^ k * V B (l.drop k) := by
 rcases zx k l.length with hk | hk
 ·exact aMu B l k zc
 ·rw [ac4 B hk, abR B hk]; omega
theorem adC {B : Int} (hB : 0 < B) {l : List Int} (h : Dg B l) (k : Nat) : V B (l.take k) < B ^ k := by
 rcases zx k l.length with hk | hk
 ·have := aEK hB (acF h k)
  rwa [zY, yf zc] at this
 ·rw [abR B hk]
  have h1 := aEK hB h
  have h2 : B ^ l.length ≤ B ^ k := aA0 hB hk
  omega
theorem aHY {B : Int} (hB : 1 ≤ B) {l : List Int} (h : Dg B l) (k : Nat) : V B (l.drop k) ≤ V B l := by
 have h1 := acH B l k
 have h2 := aaQ zc (acF h k)
 have h3 := aaQ zc (acV h k)
 have h4 : 1 * V B (l.drop k) ≤ B ^ k * V B (l.drop k) := zD (yx zc) h3
 omega
theorem av0 {B : Int} (hB : 1 ≤ B) (k : Nat) : 1 ≤ B ^ k := yx zc
theorem avM (l : List Int) (k : Nat) (x : Int) : (l.set k x).take k = l.take k := by
 rw [List.take_set_of_le (zi k)]
theorem aEJ (B : Int) {l : List Int} {k : Nat} (hk : k < l.length) (x : Int) : V B ((l.set k x).take (k + 1)) = V B (l.take k) + B ^ k * x := by
 rw [abB, avM, ahZ (by simpa using hk)]
 simp
theorem agC (l : List Int) {k j : Nat} (h : k < j) (x : Int) : (l.set k x).drop j = l.drop j := by
 rw [List.drop_set_of_lt h]
theorem atJ (B : Int) : ∀ {l : List Int} {k : Nat}, k < l.length → ∀ x, V B (l.set k x) = V B l + B ^ k * (x - l.getD k 0)
 | [], k, h, _ => by simp at h
 | d :: l, 0, _, x => by simp [V]; omega
 | d :: l, k + 1, h, x => by
  simp only [List.set_cons_succ, V, List.getD_cons_succ]
  rw [atJ B (by simpa using h) x, yi]
  grind
theorem akS (l : List Int) {k j : Nat} (h : k ≠ j) (x : Int) : (l.set k x).getD j 0 = l.getD j 0 := by
 simp [yz, List.getElem?_set_ne h]
theorem akT {l : List Int} {k : Nat} (h : k < l.length) (x : Int) : (l.set k x).getD k 0 = x := by
 simp [yz, h]
theorem aiY {B : Int} (hB : 1 < B) {l : List Int} (h : Dg B l) {k : Nat} (hv : V B l < B ^ k) : ∀ j, k ≤ j → l.getD j 0 = 0 := by
 intro j hj
 have h1 := acH B l j
 have h2 := aaQ zc (acF h j)
 have h3 := aaQ zc (acV h j)
 have h4 := aaR B l j
 have h5 := aaQ zc (acV h (j + 1))
 have h6 := aa4 zc h j
 have h7 : B ^ k ≤ B ^ j := aA0 zc hj
 have h8 := xg (show 0 ≤ B by omega) h5
 rcases zL 0 (V B (l.drop j)) with h9 | h9
 ·have : B ^ j * 1 ≤ B ^ j * V B (l.drop j) := zy zc (by have := av0 (show 1 ≤ B by omega) j; omega)
  omega
 ·omega
theorem aKo {B : Int} (hB : 0 < B) {l : List Int} (h : Dg B l) (hv : l = [] ∨ B ^ (l.length - 1) ≤ V B l) : Cn l := by
 rcases hv with rfl | hv
 ·exact aoQ
 ·rcases zC l.length with hl | hl
  ·rw [zW.1 hl]; exact aoQ
  ·unfold Cn
   rw [yB, zG zc]
   intro h0
   injection h0 with h0
   have h1 := aiA B (l := l) (i := l.length - 1) zc
   rw [h0, show l.length - 1 + 1 = l.length by omega, zt] at h1
   have h2 := adC hB h (l.length - 1)
   omega
theorem mag_length_le_iff {n k : Nat} : (mag n).length ≤ k ↔ n < 1000000000 ^ k := by
 constructor
 ·intro h
  have h1 := aqR (B := 1000000000) zc n
  exact zR h1 (yh zc h)
 ·intro h
  exact afB zc h
theorem acZ {m n : Nat} (h : m ≤ n) : (mag m).length ≤ (mag n).length := by
 rw [mag_length_le_iff]
 exact wx h (mag_length_le_iff.1 (zi _))
theorem as8 (m n : Nat) : (mag (m + n)).length ≤ max (mag m).length (mag n).length + 1 := by
 rw [mag_length_le_iff]
 have h1 := mag_length_le_iff.1 (Nat.le_max_left (mag m).length (mag n).length)
 have h2 := mag_length_le_iff.1 (Nat.le_max_right (mag m).length (mag n).length)
 rw [yA]
 have := zU (1000000000 ^ max (mag m).length (mag n).length) (show 2 ≤ 1000000000 by omega)
 omega
theorem aj7 (m n : Nat) : (mag (m * n)).length ≤ (mag m).length + (mag n).length := by
 rw [mag_length_le_iff, Nat.pow_add]
 have h1 := mag_length_le_iff.1 (zi (mag m).length)
 have h2 := mag_length_le_iff.1 (zi (mag n).length)
 exact Nat.mul_lt_mul'' h1 h2
theorem mag_zero : mag 0 = [] := adN _
theorem mag_nil_iff {n : Nat} : mag n = [] ↔ n = 0 := by
 constructor
 ·intro h
  exact af5 (h.trans mag_zero.symm)
 ·rintro rfl; exact mag_zero
theorem aqQ {d : Nat} (h0 : d ≠ 0) (h1 : d < 1000000000) : mag d = [(d : Int)] := auX zc h0 h1
theorem akD {m n : Nat} (h : (mag m).length < (mag n).length) : m < n := by
 have h1 := mag_length_le_iff.1 (zi (mag m).length)
 rcases zx m n with h2 | h2
 ·exact h2
 ·have := acZ h2; omega
theorem afQ {p q : Nat × Nat} (h : (mag p.1, mag p.2, ()) = (mag q.1, mag q.2, ())) : p = q := by
 injection h with h1 h2
 injection h2 with h2 _
 exact Prod.ext (af5 h1) (af5 h2)
theorem acL {n : Nat} (h : n < 10) : acG n = [UInt8.ofNat (48 + n)] := by unfold acG; rw [Lib.decDigits, dif_pos h]
theorem afJ {n : Nat} (h : 10 ≤ n) : acG n = acG (n / 10) ++ [UInt8.ofNat (48 + n % 10)] := by
 unfold acG; conv => lhs; rw [Lib.decDigits, dif_neg zc]
theorem ah5 (n : Nat) : acG n ≠ [] := by
 rcases zx n 10 with h | h
 ·rw [acL h]; simp
 ·rw [afJ h]; simp
theorem aAK {α : Type} {P : List α → Prop} (nil : P []) (snoc : ∀ l a, P l → P (l ++ [a])) (l : List α) : P l := by
 have H : ∀ m : List α, P m.reverse := by
  intro m
  induction m with
  | nil => exact nil
  | cons a m ih => rw [List.reverse_cons]; exact snoc _ _ ih
 have := H l.reverse
 rwa [List.reverse_reverse] at this
theorem apD {d : Nat} (h : d < 10) : (UInt8.ofNat (48 + d)).toNat = 48 + d := by simp [UInt8.toNat_ofNat]; omega
theorem isD_append {s t : List UInt8} : isD (s ++ t) ↔ isD s ∧ isD t := by
 constructor
 ·intro h
  exact ⟨fun c hc => h c (wO _ hc), fun c hc => h c (List.mem_append_right _ hc)⟩
 ·rintro ⟨h1, h2⟩ c hc
  rcases zz.1 hc with h | h
  ·exact h1 c h
  ·exact h2 c h
theorem aGE {d : Nat} (h : d < 10) : isD [UInt8.ofNat (48 + d)] := by
 intro c hc
 have := yo.1 hc
 subst this
 rw [apD h]; omega
theorem af3 (a : Nat) (c : UInt8) (s : List UInt8) : ayT a (c :: s) = ayT (a * 10 + dv c) s := List.foldl_cons ..
theorem aA9 (s t : List UInt8) (a : Nat) : ayT a (s ++ t) = ayT (ayT a s) t := List.foldl_append ..
theorem aJr (s : List UInt8) : ∀ a : Nat, ayT a s = a * 10 ^ s.length + ayT 0 s := by
 induction s with
 | nil => intro a; simp [ayT]
 | cons c s ih =>
  intro a
  rw [af3, af3, wo, zl]
  generalize dv c = x
  rw [ih (a * 10 + x), ih x, yr, yA]
  generalize 10 ^ s.length = y
  rw [yd, xa y 10, wE, wD]
theorem auV {d : Nat} (h : d < 10) : dv (UInt8.ofNat (48 + d)) = d := by unfold dv; rw [apD h]; omega
theorem aLV (s : List UInt8) (a : Nat) : ayT a s = a * 10 ^ s.length + num s := aJr s a
theorem ajD (s t : List UInt8) : num (s ++ t) = num s * 10 ^ t.length + num t := by
 show ayT 0 (s ++ t) = _
 rw [aA9, aLV]
 rfl
theorem aLT {d : Nat} (h : d < 10) : num [UInt8.ofNat (48 + d)] = d := by
 show ayT 0 [_] = d
 rw [af3, auV h]; simp [ayT]
theorem alR (s : List UInt8) (c : UInt8) : num (s ++ [c]) = num s * 10 + dv c := by
 rw [ajD]; simp [num, ayT]
theorem aGi {s : List UInt8} : isD s → num s < 10 ^ s.length := by
 induction s using aAK with
 | nil => intro _; simp [num, ayT]
 | snoc s c ih =>
  intro h
  rw [isD_append] at h
  have h1 := ih h.1
  have h2 := h.2 c zh
  have h3 : dv c = c.toNat - 48 := rfl
  rw [alR, zF, ye, yA]
  omega
theorem apB (n : Nat) : isD (acG n) := by
 induction n using Nat.strongRecOn with
 | _ n ih =>
  rcases zx n 10 with h | h
  ·rw [acL h]; exact aGE h
  ·rw [afJ h, isD_append]
   exact ⟨ih (n / 10) zc, aGE zc⟩
theorem ao7 (n : Nat) : num (acG n) = n := by
 induction n using Nat.strongRecOn with
 | _ n ih =>
  rcases zx n 10 with h | h
  ·rw [acL h, aLT h]
  ·rw [afJ h, alR, ih (n / 10) zc, auV zc]
   omega
theorem aw0 {m n : Nat} (h : acG m = acG n) : m = n := by rw [← ao7 m, ← ao7 n, h]
theorem ahW (n : Nat) : n < 10 ^ (acG n).length := by
 have := aGi (apB n)
 rwa [ao7] at this
theorem acR : ∀ {k n : Nat}, n < 10 ^ (k + 1) → (acG n).length ≤ k + 1
 | 0, n, h => by rw [acL (by simpa using h)]; simp
 | k + 1, n, h => by
  rcases zx n 10 with h9 | h9
  ·rw [acL h9]; simp
  ·have := acR (k := k) (n := n / 10) (by rw [yG zc]; rw [yA] at h; exact h)
   rw [afJ h9]; simp; omega
theorem ai1 (n : Nat) : 1 ≤ (acG n).length := zO.2 (ah5 n)
theorem adO {k n : Nat} (hk : 1 ≤ k) : (acG n).length ≤ k ↔ n < 10 ^ k := by
 constructor
 ·intro h
  exact zR (ahW n) (yh zc h)
 ·intro h
  obtain ⟨j, rfl⟩ : ∃ j, k = j + 1 := ⟨k - 1, by omega⟩
  exact acR h
theorem atF {k n : Nat} (h1 : 10 ^ k ≤ n) (h2 : n < 10 ^ (k + 1)) : (acG n).length = k + 1 := by
 have h3 := acR h2
 rcases zx k (acG n).length with h | h
 ·omega
 ·have := ahW n
  have h4 := yh (n := 10) zc h
  omega
theorem aAZ {n : Nat} (hn : n ≠ 0) : 10 ^ ((acG n).length - 1) ≤ n := by
 rcases zx n (10 ^ ((acG n).length - 1)) with h | h
 ·have h1 := ai1 n
  rcases zx 1 (acG n).length with h2 | h2
  ·have := (adO (k := (acG n).length - 1) zc).2 h
   omega
  ·have : (acG n).length - 1 = 0 := zc
   rw [this] at h; simp at h; omega
 ·exact h
theorem az6 {s : List UInt8} : isD s → s ≠ [] → (s.head? ≠ some 48 ∨ s.length = 1) → s = acG (num s) := by
 induction s using aAK with
 | nil => intro _ h; exact absurd rfl h
 | snoc s c ih =>
  intro h _ hz
  rw [isD_append] at h
  have h2 := h.2 c zh
  have hdv : dv c = c.toNat - 48 := rfl
  have hc : c = UInt8.ofNat (48 + (c.toNat - 48)) := by
   rw [show 48 + (c.toNat - 48) = c.toNat by omega]; simp
  rw [alR]
  by_cases hs : s = []
  ·subst hs
   simp only [yS]
   rw [show num [] * 10 + dv c = c.toNat - 48 by simp [num, ayT, hdv], acL zc, ← hc]
  ·have hz' : s.head? ≠ some 48 := by
    rcases hz with h0 | h0
    ·cases s with
     | nil => exact absurd rfl hs
     | cons a s => simpa using h0
    ·have := zO.2 hs
     rw [zF, ye] at h0; omega
   have h3 := ih h.1 hs (Or.inl hz')
   have h4 : 1 ≤ num s := by
    rcases zC (num s) with h0 | h0
    ·rw [h0, acL zc] at h3
     rw [h3] at hz'
     simp at hz'
    ·exact h0
   rw [afJ (n := num s * 10 + dv c) zc]
   rw [show (num s * 10 + dv c) / 10 = num s by omega, show (num s * 10 + dv c) % 10 = c.toNat - 48 by omega, ← h3, ← hc]
theorem aHv {n : Nat} (h : n ≠ 0) : (acG n).head? ≠ some 48 := by
 induction n using Nat.strongRecOn with
 | _ n ih =>
  rcases zx n 10 with h9 | h9
  ·rw [acL h9]
   simp only [wP]
   intro h0
   injection h0 with h0
   have := apD h9
   rw [h0] at this
   simp at this; omega
  ·rw [afJ h9]
   have := ih (n / 10) zc zc
   cases hd : acG (n / 10) with
   | nil => exact absurd hd (ah5 _)
   | cons a l => rw [hd] at this; simpa using this
theorem arV (n : Nat) : dec (n : Int) = acG n := by unfold dec; rw [if_neg zc]; simp
theorem ah4 {z : Int} (h : z < 0) : dec z = 45 :: acG z.natAbs := by unfold dec; rw [if_pos h]
theorem adE {z : Int} (h : 0 ≤ z) : dec z = acG z.natAbs := by unfold dec; rw [if_neg zc]
theorem aeS (n : Nat) : (acG n).head? ≠ some 45 := by
 cases hd : acG n with
 | nil => simp
 | cons a l =>
  have := apB n a (by rw [hd]; simp)
  simp only [wP]
  intro h
  injection h with h
  rw [h] at this
  simp at this
theorem arW {a b : Int} (h : dec a = dec b) : a = b := by
 rcases zL a 0 with ha | ha <;> rcases zL b 0 with hb | hb
 ·rw [ah4 ha, ah4 hb] at h
  injection h with _ h
  have := aw0 h
  omega
 ·rw [ah4 ha, adE hb] at h
  have := aeS b.natAbs
  rw [← h] at this
  simp at this
 ·rw [ah4 hb, adE ha] at h
  have := aeS a.natAbs
  rw [h] at this
  simp at this
 ·rw [adE ha, adE hb] at h
  have := aw0 h
  omega
theorem sd {p : Prop} (h : p := by first | omega | ((try simp only [ya, xH, wB, wJ, beq_eq_false_iff_ne, bne_eq_false_iff_eq, zX, wy]) <;> (try simp only [aaN, inb, inc, ge_iff_le, gt_iff_lt, zk, asT, ne_eq]) <;> omega) | ((try simp only [ya, xH, wB, wJ, beq_eq_false_iff_ne, bne_eq_false_iff_eq, zX, wy]) <;> (try simp only [aaN, inb, inc, ge_iff_le, gt_iff_lt, zk, asT, ne_eq]) <;> (simp (disch := omega) only [aaB, aaO, aa3, ab8, aaU, zl, zk, aaN]; omega)) | fail) : p := h
theorem za {α : Type} {x y : TT α} {r : Option α} (k : y.toO = r) (h : x.toO = y.toO := by first | exact uV rfl | exact uB rfl | exact uN sd rfl | exact uT sd rfl | exact uF sd rfl | exact uN (by simp) rfl) : x.toO = r := h.trans k
theorem sn {p : Prop} (h : p := by (try simp only [aaN, inb, inc, ge_iff_le, gt_iff_lt, zk, asT, ne_eq]); omega) : p := h
def aA2 (k n : Nat) : List UInt8 := List.replicate (k - (acG n).length) 48 ++ acG n
theorem aIX {r : Nat} (h : r < 10) : aA2 1 r = [UInt8.ofNat (48 + r)] := by
 unfold aA2; rw [acL h]; rfl
theorem aFB {k r : Nat} (hk : 1 ≤ k) : aA2 (k + 1) r = aA2 k (r / 10) ++ [UInt8.ofNat (48 + r % 10)] := by
 unfold aA2
 rcases zx r 10 with h | h
 ·rw [acL h, yN h, yj h, acL (by omega : 0 < 10)]
  obtain ⟨j, rfl⟩ : ∃ j, k = j + 1 := ⟨k - 1, by omega⟩
  have e1 : j + 1 + 1 - [UInt8.ofNat (48 + r)].length = j + 1 := zh
  have e2 : j + 1 - [UInt8.ofNat (48 + 0)].length = j := zh
  rw [e1, e2, List.replicate_succ']
  rfl
 ·rw [afJ h, zF, ye, Nat.add_sub_add_right, yY]
theorem aEn {q : Nat} (hq : q ≠ 0) : ∀ {k r : Nat}, 1 ≤ k → r < 10 ^ k → acG (q * 10 ^ k + r) = acG q ++ aA2 k r := by
 intro k
 induction k with
 | zero => intro r h; omega
 | succ k ih =>
  intro r _ hr
  have h10 : 10 ≤ q * 10 ^ (k + 1) + r := by
   have h1 : 10 ^ (k + 1) ≤ q * 10 ^ (k + 1) := Nat.le_mul_of_pos_left _ zc
   have h2 : 10 ≤ 10 ^ (k + 1) := by
    have := yh (show 1 ≤ 10 by omega) (show 1 ≤ k + 1 by omega)
    simpa using this
   omega
  rw [afJ h10]
  have e1 : q * 10 ^ (k + 1) + r = 10 * (q * 10 ^ k) + r := by rw [yA]; congr 1; rw [← wE, xa]
  have ed : (q * 10 ^ (k + 1) + r) / 10 = q * 10 ^ k + r / 10 := by rw [e1]; omega
  have em : (q * 10 ^ (k + 1) + r) % 10 = r % 10 := by rw [e1]; omega
  rw [ed, em]
  rcases zC k with h | h
  ·subst h
   have hr' : r < 10 := by simpa using hr
   rw [yN hr', yj hr', aIX hr']
   simp
  ·have hr2 : r / 10 < 10 ^ k := by rw [yG zc]; rw [yA] at hr; exact hr
   rw [ih h hr2, aFB h, yY]
def aBP : List Int → List UInt8
 | [] => []
 | d :: r => match r with
  | [] => acG d.toNat
  | _ :: _ => aBP r ++ aA2 9 d.toNat
theorem aC4 (n : Nat) (hn : n ≠ 0) : aBP (mag n) = acG n := by
 induction n using Nat.strongRecOn with
 | _ n ih =>
  unfold mag
  rw [agU zc hn]
  by_cases hq : n / 1000000000 = 0
  ·rw [hq, adN]
   have : n < 1000000000 := by
    rcases zx n 1000000000 with h | h
    ·exact h
    ·have := Nat.div_pos h zc; omega
   simp only [aBP, zk]
   rw [yj this]
  ·have h1 := ih (n / 1000000000) (xZ zc zc) hq
   unfold mag at h1
   cases hd : aoU 1000000000 (n / 1000000000) with
   | nil => exact absurd hd (ak2 zc hq)
   | cons e r =>
    rw [hd] at h1
    simp only [aBP, zk]
    have h2 := aEn hq (k := 9) (r := n % 1000000000) zc (xb _ zc)
    have e : n / 1000000000 * 10 ^ 9 + n % 1000000000 = n := by
     have := Nat.div_add_mod n 1000000000
     omega
    rw [e] at h2
    rw [h2, ← h1]
    rfl
theorem aHM {l : List Int} {k : Nat} (hk : k + 1 = l.length) : aBP (l.drop k) = acG (l[k]'zc).toNat := by
 rw [yl zc, List.drop_eq_nil_of_le zc]
 rfl
theorem aEC {l : List Int} {k : Nat} (hk : k + 1 < l.length) : aBP (l.drop k) = aBP (l.drop (k + 1)) ++ aA2 9 (l[k]'zc).toNat := by
 rw [yl zc, yl (i := k + 1) hk]
 rfl
theorem aMn {d : Nat} (h : d < 1000000000) : (acG d).length ≤ 9 := acR (k := 8) h
theorem aIY {d : Nat} (h : d < 1000000000) : (aA2 9 d).length = 9 := by
 have := aMn h
 unfold aA2; simp; omega
theorem axB : ∀ {l : List Int}, Dg 1000000000 l → (aBP l).length ≤ 9 * l.length
 | [], _ => by simp [aBP]
 | [d], h => by
  have := (anO h).2
  have := aMn (d := d.toNat) zc
  simp only [aBP, ye]; omega
 | d :: e :: r, h => by
  have h1 := axB (alB h)
  have := (anO h).2
  have h2 := aIY (d := d.toNat) zc
  rw [show aBP (d :: e :: r) = aBP (e :: r) ++ aA2 9 d.toNat from rfl, zF]
  simp only [yr] at h1 ⊢
  omega
def Bd (k n : Nat) : Prop := (mag n).length ≤ 1000000 * 4 ^ k
theorem aaS {k j n : Nat} (h : Bd k n) (hk : k ≤ j) : Bd j n := zu h (zU _ (yh zc hk))
theorem apE {k m n : Nat} (h : Bd k n) (hm : m ≤ n) : Bd k m := zu (acZ hm) h
theorem aa5 {k m n : Nat} (h1 : Bd k m) (h2 : Bd k n) : Bd (k + 1) (m * n) := by
 have := aj7 m n
 unfold Bd at *
 rw [yA]
 omega
theorem aa7 {k m n : Nat} (h1 : Bd k m) (h2 : Bd k n) : Bd (k + 1) (m + n) := by
 have := as8 m n
 have h3 : 1 ≤ 4 ^ k := Nat.pow_pos zc
 unfold Bd at *
 rw [yA]
 omega
theorem aaV {k m : Nat} (n : Nat) (h1 : Bd k m) : Bd k (m / n) := apE h1 (we _ _)
theorem abA {k m : Nat} (n : Nat) (h1 : Bd k m) : Bd k (m % n) := apE h1 (Nat.mod_le _ _)
theorem aa6 {k m n : Nat} (h1 : Bd k m) (h2 : Bd k n) : Bd k (Nat.gcd m n) := by
 rcases zC m with h | h
 ·subst h; rw [Nat.gcd_zero_left]; exact h2
 ·exact apE h1 (Nat.gcd_le_left _ h)
theorem aaG {k : Nat} {a b : Int} (h1 : Bd k a.natAbs) (h2 : Bd k b.natAbs) : Bd (k + 1) (a + b).natAbs := apE (aa7 h1 h2) (Int.natAbs_add_le a b)
theorem aaE {k : Nat} {a b : Int} (h1 : Bd k a.natAbs) (h2 : Bd k b.natAbs) : Bd (k + 1) (a * b).natAbs := by rw [yH]; exact aa5 h1 h2
theorem aaY {k : Nat} {a : Int} (h1 : Bd k a.natAbs) : Bd k (-a).natAbs := by rw [Int.natAbs_neg]; exact h1
theorem aaX {k n : Nat} (h : Bd k n) : Bd k (n : Int).natAbs := h
theorem aaJ {n : Nat} (h : n < 1000000000000000000000000000) : Bd 0 n := by
 unfold Bd
 have : (mag n).length ≤ 3 := mag_length_le_iff.2 zc
 omega
theorem zb {p : Prop} (h : p := by repeat (first | assumption | exact aaS (by assumption) (by omega) | exact aaJ (by omega) | refine aa6 ?_ ?_ | refine aaV _ ?_ | refine abA _ ?_ | refine aaG ?_ ?_ | refine aaE ?_ ?_ | refine aaY ?_ | refine aa5 ?_ ?_ | refine aa7 ?_ ?_ | refine aaX ?_)) : p := h
theorem as9 {n k : Nat} (h : (acG n).length ≤ k) : (mag n).length ≤ k := by
 rw [mag_length_le_iff]
 have h1 := ahW n
 have h2 : (10 : Nat) ^ (acG n).length ≤ 10 ^ (9 * k) := yh zc zc
 have h3 : (10 : Nat) ^ (9 * k) = 1000000000 ^ k := by rw [Nat.pow_mul]
 omega
theorem ag1 {n k : Nat} (h : (mag n).length ≤ k) : (acG n).length ≤ 9 * k + 1 := by
 rw [mag_length_le_iff] at h
 have h3 : (10 : Nat) ^ (9 * k) = 1000000000 ^ k := by rw [Nat.pow_mul]
 have h4 : (10 : Nat) ^ (9 * k) ≤ 10 ^ (9 * k + 1) := yh zc zc
 exact acR zc
theorem aOo {n : Nat} (h : (acG n).length ≤ 1000000) : Bd 0 n := as9 h
@[reducible] def sg (z : Int) : List Int × Bool × Unit := (mag z.natAbs, decide (z < 0), ())
theorem anT {a b : Int} (h : sg a = sg b) : a = b := by
 obtain ⟨h1, h2⟩ := Prod.mk.inj h
 obtain ⟨h2, -⟩ := Prod.mk.inj h2
 have := af5 h1
 simp only [decide_eq_decide] at h2
 omega
@[reducible] def rt (q : Rat) : (List Int × Bool × Unit) × List Int × Unit := (sg q.num, mag q.den, ())
theorem ax0 {a b : Rat} (h : rt a = rt b) : a = b := by
 obtain ⟨h1, h2⟩ := Prod.mk.inj h
 obtain ⟨h2, -⟩ := Prod.mk.inj h2
 exact Rat.ext (anT h1) (af5 h2)
@[reducible] def fx (q : Rat) : List UInt8 × List UInt8 × Unit := (dec q.num, acG q.den, ())
theorem aLi {a b : Rat} (h : fx a = fx b) : a = b := by
 obtain ⟨h1, h2⟩ := Prod.mk.inj h
 obtain ⟨h2, -⟩ := Prod.mk.inj h2
 exact Rat.ext (arW h1) (aw0 h2)
def Fit (z : Int) : Prop := (acG z.natAbs).length ≤ 600
instance (z : Int) : Decidable (Fit z) := inferInstanceAs (Decidable (_ ≤ _))
def alA (q : Rat) : Prop := Fit q.num ∧ Fit q.den
instance (q : Rat) : Decidable (alA q) := inferInstanceAs (Decidable (_ ∧ _))
theorem aAk {z : Int} (h : Fit z) : Bd 0 z.natAbs := aOo (zu h zc)
noncomputable def rdW (s : List UInt8) : Option Int := open Classical in if h : ∃ z : Int, Fit z ∧ dec z = s then some h.choose else none
theorem amO {z : Int} (h : Fit z) : rdW (dec z) = some z := by
 have hex : ∃ w : Int, Fit w ∧ dec w = dec z := ⟨z, h, rfl⟩
 unfold rdW
 rw [dif_pos hex, arW hex.choose_spec.2]
theorem ahN {s : List UInt8} {z : Int} (h : rdW s = some z) : Fit z ∧ s = dec z := by
 unfold rdW at h
 split at h
 ·rename_i hex
  injection h with h
  subst h
  exact ⟨hex.choose_spec.1, hex.choose_spec.2.symm⟩
 ·cases h
theorem aIO {s : List UInt8} (h : ∀ z : Int, Fit z → dec z ≠ s) : rdW s = none := by
 unfold rdW
 rw [dif_neg (fun ⟨z, h1, h2⟩ => h z h1 h2)]
noncomputable def rdF (s : List UInt8 × List UInt8 × Unit) : Option Rat := open Classical in if h : ∃ q : Rat, alA q ∧ fx q = s then some h.choose else none
theorem anU {q : Rat} (h : alA q) : rdF (fx q) = some q := by
 have hex : ∃ w : Rat, alA w ∧ fx w = fx q := ⟨q, h, rfl⟩
 unfold rdF
 rw [dif_pos hex, aLi hex.choose_spec.2]
theorem aIP {s : List UInt8 × List UInt8 × Unit} {q : Rat} (h : rdF s = some q) : alA q ∧ s = fx q := by
 unfold rdF at h
 split at h
 ·rename_i hex
  injection h with h
  subst h
  exact ⟨hex.choose_spec.1, hex.choose_spec.2.symm⟩
 ·cases h
theorem avX {s : List UInt8 × List UInt8 × Unit} (h : ∀ q : Rat, alA q → fx q ≠ s) : rdF s = none := by
 unfold rdF
 rw [dif_neg (fun ⟨z, h1, h2⟩ => h z h1 h2)]
def wrW (z : Int) : List UInt8 × Int × Unit := if Fit z then (dec z, 0, ()) else ([], 6, ())
def wrF (q : Rat) : (List UInt8 × List UInt8 × Unit) × Int × Unit := if alA q then (fx q, 0, ()) else (([], [], ()), 6, ())
def ac9 (x : List UInt8 × List UInt8 × Unit) : Option (List UInt8 × Bool × Unit) := some (if x.2.1.isPrefixOf x.1 then (x.1.drop x.2.1.length, true, ()) else (x.1, false, ()))
theorem asO (n : Nat) : adP (mag n, ()) = some (decide (n = 0), ()) := by
 unfold adP
 rcases zC n with h | h
 ·subst h; simp [mag_zero, len]
 ·have : (mag n) ≠ [] := fun h2 => by have := mag_nil_iff.1 h2; omega
  have h3 : (mag n).length ≠ 0 := fun h2 => this (zW.1 h2)
  have : (len (mag n) == 0) = false := by rw [aaN, beq_eq_false_iff_ne]; omega
  rw [this, zn zc]
theorem aoP {a b : Nat} (h1 : Bd 8 a) (h2 : Bd 8 b) : adQ (mag a, mag b, ()) = some (atH a b, ()) := aaZ (enc := fun p : Nat × Nat => (mag p.1, mag p.2, ())) (a, b) ⟨zu h1 zd, zu h2 zd⟩ (fun b hb => afQ hb)
theorem aH8 {a b : Nat} (h1 : Bd 8 a) (h2 : Bd 8 b) : amC (mag a, mag b, ()) = some (mag (a + b), ()) := aaZ (enc := fun p : Nat × Nat => (mag p.1, mag p.2, ())) (a, b) ⟨zu h1 zd, zu h2 zd⟩ (fun b hb => afQ hb)
theorem avC {a b : Nat} (h1 : Bd 8 a) (h2 : b ≤ a) : ahJ (mag a, mag b, ()) = some (mag (a - b), ()) := aaZ (enc := fun p : Nat × Nat => (mag p.1, mag p.2, ())) (a, b) ⟨zu h1 zd, h2⟩ (fun b hb => afQ hb)
theorem ajW {a b : Nat} (h1 : Bd 8 a) (h2 : Bd 8 b) : adF (mag a, mag b, ()) = some (mag (a * b), ()) := aaZ (enc := fun p : Nat × Nat => (mag p.1, mag p.2, ())) (a, b) ⟨zu h1 zd, zu h2 zd⟩ (fun b hb => afQ hb)
theorem aEP {n : Nat} (h : Bd 8 n) : afZ (acG n, ()) = some (mag n, ()) := by
 unfold afZ
 have hl : (acG n).length ≤ 1000000000000 :=  zu (ag1 h) zd
 rw [if_pos ⟨apB n, ah5 n, hl⟩]
 simp only [ao7]
theorem asP {n : Nat} (h : Bd 8 n) : agH (mag n, ()) = some (((acG n).length : Int), ()) := aaZ (enc := fun n : Nat => (mag n, ())) n (zu h zd) (fun b hb => af5 (Prod.mk.inj hb).1)
theorem ak9 {n : Nat} (h : Bd 0 n) : agI (mag n, ()) = some (acG n, ()) := aaZ (enc := fun n : Nat => (mag n, ())) n (zu h zd) (fun b hb => af5 (Prod.mk.inj hb).1)
theorem acU {a b : Nat} (h1 : Bd 8 a) (h2 : Bd 8 b) (h3 : b ≠ 0) : abT (mag a, mag b, ()) = some (mag (a / b), mag (a % b), ()) := aaZ (enc := fun p : Nat × Nat => (mag p.1, mag p.2, ())) (a, b) ⟨zu h1 zd, zu h2 zd, h3⟩ (fun b hb => afQ hb)
theorem ajX {a b : Nat} (h1 : Bd 8 a) (h2 : Bd 8 b) : afU (mag a, mag b, ()) = some (mag (Nat.gcd a b), ()) := aaZ (enc := fun p : Nat × Nat => (mag p.1, mag p.2, ())) (a, b) ⟨zu h1 zd, zu h2 zd⟩ (fun b hb => afQ hb)
abbrev SgT := List Int × Bool × Unit
abbrev RtT := (List Int × Bool × Unit) × List Int × Unit
abbrev FxT := List UInt8 × List UInt8 × Unit
def BdQ (k : Nat) (q : Rat) : Prop := Bd k q.num.natAbs ∧ Bd k q.den
def aIk (p q : Rat) : Int := if p < q then -1 else if p = q then 0 else 1
def fl (q : Rat) : Int := q.num / q.den
def ofQ (n d : Int) : FxT × Int × Unit := if d = 0 then (([], [], ()), 7, ()) else wrF (Rat.divInt n d)
def aeW (z : Int) : Prop := -9223372036854775808 ≤ z ∧ z ≤ 9223372036854775807
instance (z : Int) : Decidable (aeW z) := inferInstanceAs (Decidable (_ ∧ _))
def ab7 (x : List Int × Bool × Unit) : Option (SgT × Unit) := some ((x.1, x.2.1 && !(len x.1 == 0), ()), ())
noncomputable def afV : SgT × Unit → Option (SgT × Unit) := agJ (fun x : Int => (sg x, ())) (fun x => Bd 8 x.natAbs) (fun x => (sg (-x), ()))
noncomputable def ai6 : SgT × Unit → Option (Int × Unit) := agJ (fun x : Int => (sg x, ())) (fun x => Bd 8 x.natAbs) (fun x => (x.sign, ()))
noncomputable def amE : SgT × SgT × Unit → Option (SgT × Unit) := agJ (fun x : Int × Int => (sg x.1, sg x.2, ())) (fun x => Bd 7 x.1.natAbs ∧ Bd 7 x.2.natAbs) (fun x => (sg (x.1 + x.2), ()))
noncomputable def aoK : SgT × SgT × Unit → Option (SgT × Unit) := agJ (fun x : Int × Int => (sg x.1, sg x.2, ())) (fun x => Bd 7 x.1.natAbs ∧ Bd 7 x.2.natAbs) (fun x => (sg (x.1 * x.2), ()))
noncomputable def amD : SgT × Unit → Option (List UInt8 × Unit) := agJ (fun x : Int => (sg x, ())) (fun x => Bd 0 x.natAbs) (fun x => (dec x, ()))
noncomputable def ad9 : SgT × List Int × Unit → Option (SgT × Unit) := agJ (fun x : Int × Nat => (sg x.1, mag x.2, ())) (fun x => Bd 7 x.1.natAbs ∧ Bd 7 x.2) (fun x => (sg (x.1 * x.2), ()))
noncomputable def ae9 : List UInt8 × Unit → Option (SgT × Unit) := agJ (fun x : Int => (dec x, ())) (fun x => Bd 7 x.natAbs) (fun x => (sg x, ()))
noncomputable def aiB (x : List UInt8 × Unit) : Option (SgT × Bool × Unit) := some (match rdW x.1 with | some z => (sg z, true, ()) | none => (([], false, ()), false, ()))
noncomputable def afL (x : List UInt8 × Unit) : Option (Int × Unit) := some (if (rdW x.1).isSome then 0 else 10, ())
noncomputable def apH (x : List UInt8 × List UInt8 × Unit) : Option (SgT × SgT × Int × Unit) := some (match rdW x.1, rdW x.2.1 with | some z, some w => (sg z, sg w, 0, ()) | _, _ => (([], false, ()), ([], false, ()), 10, ()))
noncomputable def aAt : SgT × Unit → Option (List UInt8 × Int × Unit) := agJ (fun x : Int => (sg x, ())) (fun x => Bd 8 x.natAbs) (fun x => wrW x)
noncomputable def ae8 : RtT × Unit → Option (FxT × Int × Unit) := agJ (fun x : Rat => (rt x, ())) (fun x => BdQ 8 x) (fun x => wrF x)
noncomputable def aiD : SgT × List Int × Unit → Option (RtT × Unit) := agJ (fun x : Int × Nat => (sg x.1, mag x.2, ())) (fun x => Bd 7 x.1.natAbs ∧ Bd 7 x.2 ∧ x.2 ≠ 0) (fun x => (rt (mkRat x.1 x.2), ()))
noncomputable def aoL : RtT × Unit → Option (RtT × Unit) := agJ (fun x : Rat => (rt x, ())) (fun x => BdQ 7 x) (fun x => (rt (-x), ()))
noncomputable def aoM : RtT × Unit → Option (RtT × Unit) := agJ (fun x : Rat => (rt x, ())) (fun x => BdQ 7 x ∧ x ≠ 0) (fun x => (rt x⁻¹, ()))
noncomputable def amB : RtT × RtT × Unit → Option (RtT × Unit) := agJ (fun x : Rat × Rat => (rt x.1, rt x.2, ())) (fun x => BdQ 3 x.1 ∧ BdQ 3 x.2) (fun x => (rt (x.1 + x.2), ()))
noncomputable def aKi : RtT × RtT × Unit → Option (RtT × Unit) := agJ (fun x : Rat × Rat => (rt x.1, rt x.2, ())) (fun x => BdQ 3 x.1 ∧ BdQ 3 x.2) (fun x => (rt (x.1 - x.2), ()))
noncomputable def amA : RtT × RtT × Unit → Option (RtT × Unit) := agJ (fun x : Rat × Rat => (rt x.1, rt x.2, ())) (fun x => BdQ 3 x.1 ∧ BdQ 3 x.2) (fun x => (rt (x.1 * x.2), ()))
noncomputable def ajR : RtT × RtT × Unit → Option (Int × Unit) := agJ (fun x : Rat × Rat => (rt x.1, rt x.2, ())) (fun x => BdQ 3 x.1 ∧ BdQ 3 x.2) (fun x => (aIk x.1 x.2, ()))
noncomputable def acY (x : FxT × Unit) : Option (RtT × Bool × Unit) := some (match rdF x.1 with | some q => (rt q, true, ()) | none => ((([], false, ()), [], ()), false, ()))
noncomputable def aaC (x : FxT × Unit) : Option (Int × Unit) := some (if (rdF x.1).isSome then 0 else 20, ())
noncomputable def amF (x : List UInt8 × List UInt8 × Unit) : Option (FxT × Int × Unit) := some (match rdW x.1, rdW x.2.1 with | some n, some d => ofQ n d | _, _ => (([], [], ()), 10, ()))
noncomputable def aaH (x : Int × Int × Unit) : Option (FxT × Int × Unit) := if aeW x.1 ∧ aeW x.2.1 then some (ofQ x.1 x.2.1) else none
noncomputable def ak8 (x : FxT × FxT × Unit) : Option (Int × Int × Unit) := some (match rdF x.1, rdF x.2.1 with | some p, some q => (aIk p q, 0, ()) | _, _ => (0, 20, ()))
noncomputable def aMJ (f : Rat → Rat → Rat) (x : FxT × FxT × Unit) : FxT × Int × Unit := match rdF x.1, rdF x.2.1 with | some p, some q => wrF (f p q) | _, _ => (([], [], ()), 20, ())
noncomputable def aaL (x : FxT × FxT × Unit) : Option (FxT × Int × Unit) := some (aMJ (· + ·) x)
noncomputable def aaK (x : FxT × FxT × Unit) : Option (FxT × Int × Unit) := some (aMJ (· * ·) x)
noncomputable def aH3 (x : FxT × FxT × Unit) : Option (FxT × Int × Unit) := some (match rdF x.1, rdF x.2.1 with | some p, some q => if q = 0 then (([], [], ()), 7, ()) else wrF (p / q) | _, _ => (([], [], ()), 20, ()))
noncomputable def asL (x : Int × Unit) : Option (List UInt8 × Unit) := if aeW x.1 then some (dec x.1, ()) else none
noncomputable def aH2 (x : List UInt8 × List UInt8 × Unit) : Option (List UInt8 × Int × Unit) := some (match rdW x.1, rdW x.2.1 with | some z, some w => wrW (z * w) | _, _ => ([], 10, ()))
theorem aJK (z : Int) : Lib.itoa z = dec z := by
 unfold Lib.itoa dec acG
 by_cases hz : z < 0
 ·rw [if_pos hz, if_pos hz]
 ·rw [if_neg hz, if_neg hz]
  congr 1
  omega
abbrev ElT := (Int × List (Int × List Int × List (Int × Int × Int × Int × Int × Int × Unit) × Unit) × List (List Int) × List Int × (List Int × Int × List Int × Unit) × List (Int × Int × Unit) × Int × Int × Unit)
open Classical in
noncomputable def ag0 {α β : Type} : List (α × β) → α → Option β
 | [], _ => none
 | (a, b) :: r, x => if x = a then some b else ag0 r x
theorem aqS {α β : Type} {x : α} {y : β} : ∀ {l : List (α × β)}, ag0 l x = some y → (x, y) ∈ l
 | [], h => by cases h
 | (a, b) :: r, h => by
  unfold ag0 at h
  split at h
  ·rename_i e; cases h; rw [e]; exact zv
  ·exact zq _ (aqS h)
def apZ : List ((ElT × Unit) × (Int × Int × Unit)) := [(((2, [], [[1000000]], [0], ([], 0, [], ()), [], 0, 0, ()), ()), (1, 0, ())), (((2, [], [[1000000, 0], [0, 1000000]], [0, 0], ([], 0, [], ()), [], 0, 0, ()), ()), (2, 0, ())), (((2, [], [[1000000, 0, 0], [0, 1000000, 0], [0, 0, 1000000]], [0, 0, 0], ([], 0, [], ()), [], 0, 0, ()), ()), (3, 0, ())), (((2, [], [[1000000, 0, 0, 0], [0, 1000000, 0, 0], [0, 0, 1000000, 0], [0, 0, 0, 1000000]], [0, 0, 0, 0], ([], 0, [], ()), [], 0, 0, ()), ()), (4, 0, ())), (((1, [(1, [], [], ())], [], [], ([], 0, [], ()), [], 0, 0, ()), ()), (1, 0, ())), (((1, [(1, [], [], ()), (1, [], [], ())], [], [], ([], 0, [], ()), [], 0, 0, ()), ()), (2, 0, ())), (((1, [(1, [], [], ()), (1, [], [], ()), (1, [], [], ())], [], [], ([], 0, [], ()), [], 0, 0, ()), ()), (3, 0, ())), (((1, [(1, [], [], ()), (1, [], [], ()), (1, [], [], ()), (1, [], [], ())], [], [], ([], 0, [], ()), [], 0, 0, ()), ()), (4, 0, ()))]
def apY : List ((ElT × Unit) × (Bool × Unit)) := [(((2, [], [[1000000]], [0], ([], 0, [], ()), [], 0, 0, ()), ()), (true, ())), (((2, [], [[1000000, 0], [0, 1000000]], [0, 0], ([], 0, [], ()), [], 0, 0, ()), ()), (true, ())), (((2, [], [[1000000, 0, 0], [0, 1000000, 0], [0, 0, 1000000]], [0, 0, 0], ([], 0, [], ()), [], 0, 0, ()), ()), (true, ())), (((2, [], [[1000000, 0, 0, 0], [0, 1000000, 0, 0], [0, 0, 1000000, 0], [0, 0, 0, 1000000]], [0, 0, 0, 0], ([], 0, [], ()), [], 0, 0, ()), ()), (true, ())), (((1, [(1, [], [], ())], [], [], ([], 0, [], ()), [], 0, 0, ()), ()), (true, ())), (((1, [(1, [], [], ()), (1, [], [], ())], [], [], ([], 0, [], ()), [], 0, 0, ()), ()), (true, ())), (((1, [(1, [], [], ()), (1, [], [], ()), (1, [], [], ())], [], [], ([], 0, [], ()), [], 0, 0, ()), ()), (true, ())), (((1, [(1, [], [], ()), (1, [], [], ()), (1, [], [], ()), (1, [], [], ())], [], [], ([], 0, [], ()), [], 0, 0, ()), ()), (true, ()))]
noncomputable def ab1 : ElT × Unit → Option (Int × Int × Unit) := ag0 apZ
noncomputable def abD : ElT × Unit → Option (Bool × Unit) := ag0 apY
def aeU (_ : Unit) : Option (Bool × Unit) := some (true, ())
end Go.Vs
namespace Go.Vg
abbrev TT.tt {α : Type} (x : TT α) : TT α := .triv (true = true) rfl x
abbrev TT.tr {α : Type} (x : TT α) : TT α := .triv True trivial x
abbrev TT.wT {α : Type} (p : Prop) (x : TT α) (h : p := by repeat' constructor) : TT α := .triv p h x
end Go.Vg
namespace Go.Vs
open Go Go.Vg
abbrev Qq {α : Sort _} (x : α) : Prop := x = x
theorem tv {p : Prop} (h : p := by repeat' constructor) : p := h
abbrev vj {α₁ : Sort _} (a : α₁) : Prop := Qq a ∧ True
abbrev vo {α₁ α₂ : Sort _} (a : α₁) (b : α₂) : Prop := Qq a ∧ Qq b ∧ True
abbrev wW {α₁ α₂ α₃ : Sort _} (a : α₁) (b : α₂) (c : α₃) : Prop := Qq a ∧ Qq b ∧ Qq c ∧ True
abbrev wV {α₁ α₂ α₃ α₄ : Sort _} (a : α₁) (b : α₂) (c : α₃) (d : α₄) : Prop := Qq a ∧ Qq b ∧ Qq c ∧ Qq d ∧ True
abbrev vu {α₁ α₂ α₃ α₄ α₅ : Sort _} (a : α₁) (b : α₂) (c : α₃) (d : α₄) (e : α₅) : Prop := Qq a ∧ Qq b ∧ Qq c ∧ Qq d ∧ Qq e ∧ True
abbrev wX {α₁ α₂ : Sort _} (a : α₁) (b : α₂) : Prop := Qq a ∧ Qq b
abbrev vt {α₁ α₂ α₃ : Sort _} (a : α₁) (b : α₂) (c : α₃) : Prop := Qq a ∧ Qq b ∧ Qq c
abbrev wY {α₁ α₂ α₃ α₄ : Sort _} (a : α₁) (b : α₂) (c : α₃) (d : α₄) : Prop := Qq a ∧ Qq b ∧ Qq c ∧ Qq d
abbrev wU {α₁ : Sort _} (a : α₁) (R : Prop) : Prop := Qq a ∧ R
abbrev ve {α₁ α₂ : Sort _} (a : α₁) (b : α₂) (R : Prop) : Prop := Qq a ∧ Qq b ∧ R
abbrev vl {α₁ α₂ α₃ : Sort _} (a : α₁) (b : α₂) (c : α₃) (R : Prop) : Prop := Qq a ∧ Qq b ∧ Qq c ∧ R
abbrev vh {α₁ α₂ α₃ α₄ : Sort _} (a : α₁) (b : α₂) (c : α₃) (d : α₄) (R : Prop) : Prop := Qq a ∧ Qq b ∧ Qq c ∧ Qq d ∧ R
abbrev wZ {α₁ α₂ α₃ α₄ α₅ : Sort _} (a : α₁) (b : α₂) (c : α₃) (d : α₄) (e : α₅) (R : Prop) : Prop := Qq a ∧ Qq b ∧ Qq c ∧ Qq d ∧ Qq e ∧ R
abbrev vq {α₁ α₂ α₃ α₄ α₅ α₆ α₇ : Sort _} (a : α₁) (b : α₂) (c : α₃) (d : α₄) (e : α₅) (f : α₆) (g : α₇) (R : Prop) : Prop := Qq a ∧ Qq b ∧ Qq c ∧ Qq d ∧ Qq e ∧ Qq f ∧ Qq g ∧ R
abbrev vk {α₁ α₂ α₃ α₄ α₅ α₆ α₇ α₈ : Sort _} (a : α₁) (b : α₂) (c : α₃) (d : α₄) (e : α₅) (f : α₆) (g : α₇) (h : α₈) (R : Prop) : Prop := Qq a ∧ Qq b ∧ Qq c ∧ Qq d ∧ Qq e ∧ Qq f ∧ Qq g ∧ Qq h ∧ R
abbrev wS (a R : Prop) : Prop := a ∧ Qq true ∧ R
abbrev vP : Prop := ve 91 false <| True ∧ True
abbrev ua : Prop := vt 0 0 true
abbrev ud : Prop := wY 4 0 1 true
abbrev ug : Prop := wS (wU 241 <| True ∧ vj false) True
abbrev Dd0 := Ty.dflt um
abbrev Dd1 := Ty.dflt vL
abbrev Dd2 := Ty.dflt (Ty.pair Ty.str Ty.unit)
abbrev Dd3 := Ty.dflt (Ty.pair vN Ty.unit)
abbrev Dd4 := Ty.dflt (Ty.pair vV um)
abbrev Dd5 := Ty.dflt (Ty.pair uj Ty.unit)
abbrev Dd6 := Ty.dflt vS
abbrev Dd7 := Ty.dflt (Ty.pair Ty.str vL)
abbrev Dd8 := Ty.dflt (Ty.pair (Ty.pair uj um) Ty.unit)
abbrev Dd9 := Ty.dflt (Ty.pair uj vL)
abbrev aQM := Ty.dflt (Ty.pair uj (Ty.pair uj vS))
abbrev aQh := Ty.dflt (Ty.pair Ty.str vS)
abbrev aQC := Ty.dflt (Ty.pair vV (Ty.pair vB Ty.unit))
abbrev aKn := Ty.dflt (Ty.pair (Ty.pair uj um) vL)
abbrev aME := Ty.dflt (Ty.pair vR vS)
abbrev aQB := Ty.dflt (Ty.pair vz vS)
abbrev aQg := Ty.dflt (Ty.pair vR Ty.unit)
abbrev aBW := Ty.dflt (Ty.pair vE Ty.unit)
abbrev atK := Ty.dflt (Ty.pair vT Ty.unit)
abbrev aQL := Ty.dflt (Ty.pair vE vS)
abbrev aQA := Ty.dflt (Ty.pair vE (Ty.pair vE Ty.unit))
abbrev aPl := Ty.dflt (Ty.pair vT (Ty.pair vT Ty.unit))
abbrev aQz := Ty.dflt (Ty.pair (Ty.pair vT (Ty.pair vT Ty.unit)) Ty.unit)
theorem aKz {q : Rat} {n : Int} {D : Nat} (nz : D ≠ 0) (c : n.natAbs.Coprime D) (h : q = mkRat n D) : q.num = n ∧ q.den = D := by
 rw [h, ← Rat.mk_eq_mkRat n D nz c]; exact ⟨rfl, rfl⟩
theorem aEo {a b : Nat} (h : ∀ k, k ∣ a → k ∣ b → k = 1) : a.Coprime b := h _ (xE a b) (xx a b)
theorem aHy {n1 n2 : Int} {b' d' b : Nat} (h1 : n1.natAbs.Coprime b) (hb : b' ∣ b) (h3 : b'.Coprime d') : (n1 * d' + n2 * b').natAbs.Coprime b' := by
 refine aEo fun k hk hkb => ?_
 have e1 : (k : Int) ∣ n1 * d' + n2 * b' := xj.2 hk
 have e2 : (k : Int) ∣ n2 * b' := Int.dvd_trans (Int.natCast_dvd_natCast.2 hkb) (Int.dvd_mul_left _ _)
 have e3 : (k : Int) ∣ n1 * d' := by
  have := Int.dvd_sub e1 e2
  rwa [Int.add_sub_cancel] at this
 have e4 : k ∣ n1.natAbs * d' := by
  have := xj.1 e3
  rwa [yH] at this
 have e5 : k.Coprime d' := Nat.Coprime.coprime_dvd_left hkb h3
 have e6 := Nat.Coprime.dvd_of_dvd_mul_right e5 e4
 exact Nat.Coprime.eq_one_of_dvd (Nat.Coprime.coprime_dvd_left e6 h1) (Nat.dvd_trans hkb hb)
theorem aAp (p q : Rat) : ∃ g h : Nat, ∃ top t : Int, g = Nat.gcd p.den q.den ∧ top = p.num * (q.den / g : Nat) + q.num * (p.den / g : Nat) ∧ h = Nat.gcd top.natAbs g ∧ g ≠ 0 ∧ h ≠ 0 ∧ top = h * t ∧ (p + q).num = t ∧ (p + q).den = (p.den / g) * (q.den / h) := by
 obtain ⟨g, hg⟩ : ∃ g, g = Nat.gcd p.den q.den := ⟨_, rfl⟩
 have g0 : 0 < g := by rw [hg]; exact Nat.gcd_pos_of_pos_left _ p.den_pos
 obtain ⟨b', hb⟩ : g ∣ p.den := hg ▸ xE _ _
 obtain ⟨d', hd⟩ : g ∣ q.den := hg ▸ xx _ _
 have hb' : p.den / g = b' := by rw [hb, yb _ g0]
 have hd' : q.den / g = d' := by rw [hd, yb _ g0]
 have hbd : b'.Coprime d' := by
  have := xk (m := p.den) (n := q.den) (by rw [← hg]; exact g0)
  rwa [← hg, hb', hd'] at this
 obtain ⟨top, ht⟩ : ∃ top : Int, top = p.num * (q.den / g : Nat) + q.num * (p.den / g : Nat) := ⟨_, rfl⟩
 obtain ⟨h, hh⟩ : ∃ h, h = Nat.gcd top.natAbs g := ⟨_, rfl⟩
 have h0 : 0 < h := by rw [hh]; exact xF _ g0
 obtain ⟨t, htt⟩ : (h : Int) ∣ top := xj.2 (hh ▸ xE _ _)
 obtain ⟨g', hg'⟩ : h ∣ g := hh ▸ xx _ _
 have c1 : top.natAbs.Coprime b' := by rw [ht, hb', hd']; exact aHy p.reduced ⟨g, by rw [hb, xa]⟩ hbd
 have c2 : top.natAbs.Coprime d' := by rw [ht, hb', hd', Int.add_comm]; exact aHy q.reduced ⟨g, by rw [hd, xa]⟩ hbd.symm
 have c3 : t.natAbs.Coprime g' := by
  have := xk (m := top.natAbs) (n := g) (by rw [← hh]; exact h0)
  rw [← hh, htt, yH, yK, yb _ h0] at this
  conv at this => rhs; rw [hg']
  rwa [yb _ h0] at this
 have ct : t.natAbs ∣ top.natAbs := by rw [htt, yH]; exact Nat.dvd_mul_left _ _
 have e : q.den / h = g' * d' := by rw [hd, hg', wE, yb _ h0]
 have hc : t.natAbs.Coprime (b' * (g' * d')) := Nat.Coprime.mul_right (Nat.Coprime.coprime_dvd_left ct c1) (Nat.Coprime.mul_right c3 (Nat.Coprime.coprime_dvd_left ct c2))
 have nb : b' ≠ 0 := by rintro rfl; exact p.den_nz (by rw [hb]; simp)
 have nd : d' ≠ 0 := by rintro rfl; exact q.den_nz (by rw [hd]; simp)
 have ng : g' ≠ 0 := by rintro rfl; simp at hg'; omega
 have nz : b' * (g' * d') ≠ 0 := wg nb (wg ng nd)
 have hv : p + q = mkRat t (b' * (g' * d')) := by
  rw [Rat.add_def', Rat.mkRat_eq_iff (wg p.den_nz q.den_nz) nz, hb, hd]
  rw [hb', hd', htt] at ht
  simp only [xd]
  have hgz : (g : Int) = h * g' := by rw [hg']; simp
  have e1 : (p.num * ((g : Int) * d') + q.num * ((g : Int) * b')) = (g : Int) * (h * t) := by rw [ht]; grind
  rw [e1, hgz]
  grind
 obtain ⟨r1, r2⟩ := aKz nz hc hv
 exact ⟨g, h, top, t, hg, ht, hh, by omega, by omega, htt, r1, by rw [r2, hb', e]⟩
theorem ayZ (p q : Rat) : ∃ g h : Nat, ∃ s t : Int, g = Nat.gcd p.num.natAbs q.den ∧ h = Nat.gcd q.num.natAbs p.den ∧ g ≠ 0 ∧ h ≠ 0 ∧ p.num = g * s ∧ q.num = h * t ∧ (p * q).num = s * t ∧ (p * q).den = (p.den / h) * (q.den / g) := by
 obtain ⟨g, hg⟩ : ∃ g, g = Nat.gcd p.num.natAbs q.den := ⟨_, rfl⟩
 obtain ⟨h, hh⟩ : ∃ h, h = Nat.gcd q.num.natAbs p.den := ⟨_, rfl⟩
 have g0 : 0 < g := by rw [hg]; exact xF _ q.den_pos
 have h0 : 0 < h := by rw [hh]; exact xF _ p.den_pos
 obtain ⟨s, hs⟩ : (g : Int) ∣ p.num := xj.2 (hg ▸ xE _ _)
 obtain ⟨t, ht⟩ : (h : Int) ∣ q.num := xj.2 (hh ▸ xE _ _)
 obtain ⟨d', hd⟩ : g ∣ q.den := hg ▸ xx _ _
 obtain ⟨b', hb⟩ : h ∣ p.den := hh ▸ xx _ _
 have hb' : p.den / h = b' := by rw [hb, yb _ h0]
 have hd' : q.den / g = d' := by rw [hd, yb _ g0]
 have as1 : p.num.natAbs / g = s.natAbs := by rw [hs, yH, yK, yb _ g0]
 have at' : q.num.natAbs / h = t.natAbs := by rw [ht, yH, yK, yb _ h0]
 have ds : s.natAbs ∣ p.num.natAbs := by rw [hs, yH]; exact Nat.dvd_mul_left _ _
 have dt : t.natAbs ∣ q.num.natAbs := by rw [ht, yH]; exact Nat.dvd_mul_left _ _
 have db : b' ∣ p.den := ⟨h, by rw [hb, xa]⟩
 have dd : d' ∣ q.den := ⟨g, by rw [hd, xa]⟩
 have c1 : s.natAbs.Coprime b' := Nat.Coprime.coprime_dvd_left ds (Nat.Coprime.coprime_dvd_right db p.reduced)
 have c2 : s.natAbs.Coprime d' := by
  have := xk (m := p.num.natAbs) (n := q.den) (by rw [← hg]; exact g0)
  rwa [← hg, as1, hd'] at this
 have c3 : t.natAbs.Coprime d' := Nat.Coprime.coprime_dvd_left dt (Nat.Coprime.coprime_dvd_right dd q.reduced)
 have c4 : t.natAbs.Coprime b' := by
  have := xk (m := q.num.natAbs) (n := p.den) (by rw [← hh]; exact h0)
  rwa [← hh, at', hb'] at this
 have hc : (s * t).natAbs.Coprime (b' * d') := by
  rw [yH]
  exact Nat.Coprime.mul_left (Nat.Coprime.mul_right c1 c2) (Nat.Coprime.mul_right c4 c3)
 have nb : b' ≠ 0 := by rintro rfl; exact p.den_nz (by rw [hb]; simp)
 have nd : d' ≠ 0 := by rintro rfl; exact q.den_nz (by rw [hd]; simp)
 have nz : b' * d' ≠ 0 := wg nb nd
 have hv : p * q = mkRat (s * t) (b' * d') := by
  rw [Rat.mul_def', Rat.mkRat_eq_iff (wg p.den_nz q.den_nz) nz, hs, ht]
  conv => lhs; rw [xd]
  rw [hb, hd]
  simp only [xd]
  grind
 obtain ⟨r1, r2⟩ := aKz nz hc hv
 exact ⟨g, h, s, t, hg, hh, by omega, by omega, hs, ht, r1, by rw [r2, hb', hd']⟩
theorem ad8 (n : Int) {d : Nat} (hd : d ≠ 0) : ∃ g : Nat, ∃ t : Int, g = Nat.gcd n.natAbs d ∧ g ≠ 0 ∧ n = g * t ∧ (mkRat n d).num = t ∧ (mkRat n d).den = d / g := by
 obtain ⟨g, hg⟩ : ∃ g, g = Nat.gcd n.natAbs d := ⟨_, rfl⟩
 have g0 : 0 < g := by rw [hg]; exact xF _ zc
 obtain ⟨t, ht⟩ : (g : Int) ∣ n := xj.2 (hg ▸ xE _ _)
 refine ⟨g, t, hg, by omega, ht, ?_, ?_⟩
 ·rw [Rat.num_mkRat, if_neg hd, xG, ← hg, ht, Int.mul_ediv_cancel_left _ zc]
 ·rw [Rat.den_mkRat, if_neg hd, xG, ← hg]
theorem aJX (n : Int) {d : Nat} (hd : d ≠ 0) : fl (mkRat n d) = n / d := by
 obtain ⟨g, t, hg, g0, hn, h1, h2⟩ := ad8 n hd
 obtain ⟨d', hd'⟩ : g ∣ d := hg ▸ xx _ _
 have : d / g = d' := by rw [hd', yb _ zc]
 unfold fl
 rw [h1, h2, this, hn, hd', xd, Int.mul_ediv_mul_of_pos _ _ zc]
theorem aLO (p q : Rat) : aIk p q = (p.num * q.den + -(q.num * p.den)).sign := by
 unfold aIk
 simp only [Rat.lt_iff, Rat.eq_iff_mul_eq_mul]
 split
 ·rename_i h; exact (xu zc).symm
 ·split
  ·rename_i h; rw [h, Int.add_right_neg]; rfl
  ·exact (xK zc).symm
theorem aNl (a b : List UInt8) : rdF (a, b, ()) = match rdW a, rdW b with
  | some n, some d => if h : 0 < d ∧ n.natAbs.Coprime d.natAbs then some ⟨n, d.natAbs, by omega, h.2⟩ else none
  | _, _ => none := by
 cases ha : rdW a with
 | none =>
  refine avX fun q hq he => ?_
  obtain ⟨h1, -⟩ := Prod.mk.inj he
  rw [← h1, amO hq.1] at ha
  cases ha
 | some n =>
  obtain ⟨fa, rfl⟩ := ahN ha
  cases hb : rdW b with
  | none =>
   refine avX fun q hq he => ?_
   obtain ⟨-, h1⟩ := Prod.mk.inj he
   obtain ⟨h1, -⟩ := Prod.mk.inj h1
   rw [← h1, ← arV, amO hq.2] at hb
   cases hb
  | some d =>
   obtain ⟨fb, rfl⟩ := ahN hb
   simp only
   split
   ·rename_i h
    have e : (dec n, dec d, ()) = fx ⟨n, d.natAbs, by omega, h.2⟩ := by
     unfold fx
     rw [adE (z := d) zc]
    rw [e, anU ⟨fa, ?_⟩]
    unfold Fit at *
    simpa using fb
   ·rename_i h
    refine avX fun q hq he => h ?_
    obtain ⟨h1, h2⟩ := Prod.mk.inj he
    obtain ⟨h2, -⟩ := Prod.mk.inj h2
    have e1 := arW h1
    have e2 : (q.den : Int) = d := arW (by rw [arV]; exact h2)
    rw [← e1, ← e2]
    exact ⟨by have := q.den_pos; omega, q.reduced⟩
abbrev BdT := Int × Int × Unit
def okB (lo hi : Int) : Prop := -1000000000000000000 ≤ lo ∧ lo ≤ hi ∧ hi ≤ 1000000000000000000
instance (lo hi : Int) : Decidable (okB lo hi) := inferInstanceAs (Decidable (_ ∧ _))
def mkB (e lo hi : Int) : BdT × Int × Unit := if okB lo hi then ((lo, hi, ()), 0, ()) else ((0, 0, ()), e, ())
def aPj (a b : BdT) : BdT × Int × Unit := if okB a.1 a.2.1 ∧ okB b.1 b.2.1 then mkB 6 (a.1 + b.1) (a.2.1 + b.2.1) else ((0, 0, ()), 30, ())
def okE (p q : Int) : Prop := 1 ≤ p ∧ p ≤ 36 ∧ 1 ≤ q ∧ q ≤ 12
instance (p q : Int) : Decidable (okE p q) := inferInstanceAs (Decidable (_ ∧ _))
abbrev aH0 := Int × Int × Int × Int × Int × Int × Unit
abbrev CvT := Int × List Int × List aH0 × Unit
def inR (n a b : Int) : Prop := a ≤ n ∧ n ≤ b
instance (n a b : Int) : Decidable (inR n a b) := inferInstanceAs (Decidable (_ ∧ _))
def aK5 (s : aH0) : Prop := inR s.2.1 (-100000000) 100000000 ∧ inR s.2.2.1 (-100000000) 100000000 ∧ inR s.2.2.2.2.2.1 (-100000000) 100000000 ∧ inR s.2.2.2.1 1 36 ∧ inR s.2.2.2.2.1 1 12 ∧ Nat.gcd s.2.2.2.1.natAbs s.2.2.2.2.1.natAbs = 1
instance (s : aH0) : Decidable (aK5 s) := inferInstanceAs (Decidable (_ ∧ _))
def aLC (last : Int) (s : aH0) : Prop := aK5 s ∧ inR s.1 (last + 1) 1000000
instance (last : Int) (s : aH0) : Decidable (aLC last s) := inferInstanceAs (Decidable (_ ∧ _))
def aCb : Int → List aH0 → Prop
 | last, [] => last = 1000000
 | last, s :: r => aLC last s ∧ aCb s.1 r
def aE9 : (last : Int) → (l : List aH0) → Decidable (aCb last l)
 | last, [] => inferInstanceAs (Decidable (last = 1000000))
 | last, s :: r => @instDecidableAnd _ _ (inferInstanceAs (Decidable (aLC last s))) (aE9 s.1 r)
instance (last : Int) (l : List aH0) : Decidable (aCb last l) := aE9 last l
def aM8 (l : List Int) : Prop := 2 ≤ l.length ∧ l.length ≤ 17 ∧ ∀ v ∈ l, inR v 0 65535
instance (l : List Int) : Decidable (aM8 l) := inferInstanceAs (Decidable (_ ∧ _ ∧ _))
def aKv (l : List aH0) : Prop := 1 ≤ l.length ∧ l.length ≤ 4 ∧ aCb 0 l
instance (l : List aH0) : Decidable (aKv l) := inferInstanceAs (Decidable (_ ∧ _ ∧ _))
def aKy (c : CvT) : Prop := (c.1 = 1 ∧ c.2.1 = [] ∧ c.2.2.1 = []) ∨ (c.1 = 2 ∧ aM8 c.2.1 ∧ c.2.2.1 = []) ∨ (c.1 = 3 ∧ c.2.1 = [] ∧ aKv c.2.2.1)
instance (c : CvT) : Decidable (aKy c) := inferInstanceAs (Decidable (_ ∨ _ ∨ _))
noncomputable def eqb {α : Type} (a b : α) : Bool := open Classical in if a = b then true else false
theorem aCT {α : Type} {a b : α} (h : a = b) : eqb a b = true := if_pos h
theorem az0 {α : Type} {a b : α} (h : ¬ a = b) : eqb a b = false := if_neg h
def ajT (x : Int × Int × Unit) : Option (FxT × Unit) := if aeW x.1 ∧ aeW x.2.1 then some ((ofQ x.1 x.2.1).1, ()) else none
def aeA (x : Int × Unit) : Option (FxT × Unit) := if aeW x.1 then some (fx (mkRat x.1 1), ()) else none
def aAd (q : Rat) : Rat := if q < 0 then 0 else if q > 1 then 1 else q
noncomputable def aaM : FxT × Unit → Option (FxT × Unit) := agJ (fun q : Rat => (fx q, ())) (fun q => alA q) (fun q => (fx (aAd q), ()))
def aOd (c : CvT) : Prop := aKy c ∧ ∀ s ∈ c.2.2.1, s.2.2.2.2.1 = 1
instance (c : CvT) : Decidable (aOd c) := inferInstanceAs (Decidable (_ ∧ _))
def dig (n : Nat) : List Int := aoU 10000 n
theorem adW (n : Nat) : Dg 10000 (dig n) := aBG (B := 10000) zc n
theorem aCW (n : Nat) : Cn (dig n) := aHn (B := 10000) zc n
theorem ag3 (n : Nat) : V 10000 (dig n) = n := aAs (B := 10000) zc n
theorem arT {m n : Nat} (h : dig m = dig n) : m = n := aCV (B := 10000) zc h
theorem awX {l : List Int} {n : Nat} (h1 : Dg 10000 l) (h2 : Cn l) (h3 : V 10000 l = n) : l = dig n := arS (B := 10000) zc h1 h2 h3
theorem dig_length_le_iff {n k : Nat} : (dig n).length ≤ k ↔ n < 10000 ^ k := by
 constructor
 ·intro h
  have h1 := aqR (B := 10000) zc n
  exact zR h1 (yh zc h)
 ·intro h
  exact afB zc h
theorem acD {m n : Nat} (h : m ≤ n) : (dig m).length ≤ (dig n).length := by
 rw [dig_length_le_iff]
 exact wx h (dig_length_le_iff.1 (zi _))
theorem dig_zero : dig 0 = [] := adN _
theorem dig_nil_iff {n : Nat} : dig n = [] ↔ n = 0 := by
 constructor
 ·intro h
  exact arT (h.trans dig_zero.symm)
 ·rintro rfl; exact dig_zero
theorem aHo {d : Nat} (h0 : d ≠ 0) (h1 : d < 10000) : dig d = [(d : Int)] := auX zc h0 h1
theorem akB {m n : Nat} (h : (dig m).length < (dig n).length) : m < n := by
 rcases zx m n with h2 | h2
 ·exact h2
 ·have := acD h2; omega
theorem auZ {n k : Nat} (h : (mag n).length ≤ k) : (dig n).length ≤ 3 * k := by
 rw [mag_length_le_iff] at h
 rw [dig_length_le_iff, Nat.pow_mul]
 exact zR h (Nat.pow_le_pow_left zc _)
theorem aAl {k n : Nat} (h : Bd k n) (hk : k ≤ 8) : (dig n).length ≤ 200000000000 := by
 have h1 : Bd 8 n := aaS h hk
 have h2 := auZ (k := 1000000 * 4 ^ 8) h1
 omega
@[reducible] def pl (z : Int) : Bool × List Int × Unit := (decide (z < 0), dig z.natAbs, ())
theorem aqC {a b : Int} (h : pl a = pl b) : a = b := by
 obtain ⟨h1, h2⟩ := Prod.mk.inj h
 obtain ⟨h2, -⟩ := Prod.mk.inj h2
 have := arT h2
 simp only [decide_eq_decide] at h1
 omega
abbrev PlT := Bool × List Int × Unit
abbrev RaT := PlT × PlT × Unit
@[reducible] def ra (q : Rat) : RaT := (pl q.num, pl q.den, ())
theorem aNn {a b : Rat} (h : ra a = ra b) : a = b := by
 obtain ⟨h1, h2⟩ := Prod.mk.inj h
 obtain ⟨h2, -⟩ := Prod.mk.inj h2
 have := aqC h2
 exact Rat.ext (aqC h1) zc
def aIw (a b : List Int) : Nat → Int
 | 0 => 0
 | k + 1 => if a.getD k 0 ≠ b.getD k 0 then a.getD k 0 - b.getD k 0 else aIw a b k
def aK2 (a b : List Int) : Int := if a.length ≠ b.length then (a.length : Int) - b.length else aIw a b a.length
open Classical in
noncomputable def acX (x : List Int × Unit) : Option (List Int × Unit) := if Dg 10000 x.1 ∧ x.1.length ≤ 1000000000000 then some (dig (V 10000 x.1).toNat, ()) else none
open Classical in
noncomputable def acE (x : Bool × List Int × Unit) : Option (PlT × Unit) := if Dg 10000 x.2.1 ∧ x.2.1.length ≤ 1000000000000 then some ((x.1 && decide (V 10000 x.2.1 ≠ 0), dig (V 10000 x.2.1).toNat, ()), ()) else none
noncomputable def acO (x : Int × Unit) : Option (PlT × Unit) := if aeW x.1 then some (pl x.1, ()) else none
def atB (n : Nat) : List UInt8 := [UInt8.ofNat (48 + n / 1000), UInt8.ofNat (48 + n / 100 % 10), UInt8.ofNat (48 + n / 10 % 10), UInt8.ofNat (48 + n % 10)]
noncomputable def al7 : Int × Unit → Option (List UInt8 × Unit) := agJ (fun n : Nat => ((n : Int), ())) (fun n => n < 10000) (fun n => (atB n, ()))
noncomputable def al8 : PlT × Unit → Option (List UInt8 × Unit) := agJ (fun z : Int => (pl z, ())) (fun z => Bd 6 z.natAbs) (fun z => (dec z, ()))
noncomputable def al9 : PlT × Unit → Option (List UInt8 × Int × Unit) := agJ (fun z : Int => (pl z, ())) (fun z => Bd 6 z.natAbs) (fun z => wrW z)
noncomputable def ae6 (x : List Int × List Int × Unit) : Option (Int × Unit) := open Classical in if Dg 10000 x.1 ∧ Dg 10000 x.2.1 ∧ x.1.length ≤ 1000000000000 ∧ x.2.1.length ≤ 1000000000000 then some (aK2 x.1 x.2.1, ()) else none
noncomputable def apJ : List Int × List Int × Unit → Option (List Int × Unit) := agJ (fun p : Nat × Nat => (dig p.1, dig p.2, ())) (fun p => (dig p.1).length ≤ 1000000000000 ∧ (dig p.2).length ≤ 1000000000000) (fun p => (dig (p.1 + p.2), ()))
open Classical in
noncomputable def abN (x : List Int × List Int × Unit) : Option (List Int × Unit) := if Dg 10000 x.1 ∧ Dg 10000 x.2.1 ∧ x.1.length ≤ 1000000000000 ∧ x.2.1.length ≤ x.1.length ∧ V 10000 x.2.1 ≤ V 10000 x.1 then some (dig (V 10000 x.1 - V 10000 x.2.1).toNat, ()) else none
open Classical in
noncomputable def acN (x : List Int × List Int × Unit) : Option (List Int × Unit) := if Dg 10000 x.1 ∧ (Dg 10000 x.2.1 ∨ x.2.1 = [10000]) ∧ x.1.length ≤ 400000000000 ∧ x.2.1.length ≤ 400000000000 then some (dig (V 10000 x.1 * V 10000 x.2.1).toNat, ()) else none
noncomputable def al6 : List Int × Int × Unit → Option (List Int × Int × Unit) := agJ (fun p : Nat × Nat => (dig p.1, (p.2 : Int), ())) (fun p => (dig p.1).length ≤ 1000000000000 ∧ 0 < p.2 ∧ p.2 < 10000) (fun p => (dig (p.1 / p.2), ((p.1 % p.2 : Nat) : Int), ()))
noncomputable def ahG : List Int × List Int × Unit → Option (List Int × List Int × Unit) := agJ (fun p : Nat × Nat => (dig p.1, dig p.2, ())) (fun p => (dig p.1).length ≤ 200000000000 ∧ (dig p.2).length ≤ 200000000000 ∧ p.2 ≠ 0) (fun p => (dig (p.1 / p.2), dig (p.1 % p.2), ()))
noncomputable def ahH : PlT × Unit → Option (PlT × Unit) := agJ (fun z : Int => (pl z, ())) (fun z => Bd 8 z.natAbs) (fun z => (pl (-z), ()))
noncomputable def agG : PlT × PlT × Unit → Option (PlT × Unit) := agJ (fun p : Int × Int => (pl p.1, pl p.2, ())) (fun p => Bd 7 p.1.natAbs ∧ Bd 7 p.2.natAbs) (fun p => (pl (p.1 + p.2), ()))
noncomputable def ajQ : PlT × PlT × Unit → Option (PlT × Unit) := agJ (fun p : Int × Int => (pl p.1, pl p.2, ())) (fun p => Bd 7 p.1.natAbs ∧ Bd 7 p.2.natAbs) (fun p => (pl (p.1 - p.2), ()))
noncomputable def ae7 : PlT × PlT × Unit → Option (PlT × PlT × Unit) := agJ (fun p : Int × Int => (pl p.1, pl p.2, ())) (fun p => Bd 6 p.1.natAbs ∧ Bd 6 p.2.natAbs ∧ p.2 ≠ 0) (fun p => (pl (p.1 / p.2), pl (p.1 % p.2), ()))
noncomputable def afM : PlT × PlT × Unit → Option (PlT × Unit) := agJ (fun p : Int × Int => (pl p.1, pl p.2, ())) (fun p => Bd 8 p.1.natAbs ∧ Bd 8 p.2.natAbs) (fun p => (pl (Nat.gcd p.1.natAbs p.2.natAbs), ()))
def shF (x : FxT) : Prop := x.1.length ≤ 1000000000000 ∧ x.2.1.length ≤ 1000000000000
instance (x : FxT) : Decidable (shF x) := inferInstanceAs (Decidable (_ ∧ _))
noncomputable def aiC : PlT × PlT × Unit → Option (RaT × Unit) := agJ (fun x : Int × Int => (pl x.1, pl x.2, ())) (fun x => Bd 6 x.1.natAbs ∧ Bd 6 x.2.natAbs ∧ x.2 ≠ 0) (fun x => (ra (Rat.divInt x.1 x.2), ()))
noncomputable def ajP : Int × Int × Unit → Option (RaT × Unit) := agJ (fun x : Int × Int => (x.1, x.2, ())) (fun x => aeW x.1 ∧ aeW x.2 ∧ x.2 ≠ 0) (fun x => (ra (Rat.divInt x.1 x.2), ()))
noncomputable def apI : RaT × Unit → Option (FxT × Int × Unit) := agJ (fun x : Rat => (ra x, ())) (fun x => BdQ 6 x) (fun x => wrF x)
noncomputable def aa0 (x : Int × Int × Unit) : Option (FxT × Int × Unit) := aaH x
def shC (c : CvT) : Prop := c.2.1.length ≤ 1000000000000 ∧ c.2.2.1.length ≤ 1000000000000
instance (c : CvT) : Decidable (shC c) := inferInstanceAs (Decidable (_ ∧ _))
noncomputable def aDl (q : Rat) : Option Rat := if alA q then some q else none
def aPA : Option Rat → FxT × Int × Unit
 | some q => (fx q, 0, ())
 | none => (([], [], ()), 6, ())
def okL (l : List BdT) : Prop := l ≠ [] ∧ l.length ≤ 1000000 ∧ ∀ b ∈ l, okB b.1 b.2.1
instance (l : List BdT) : Decidable (okL l) := inferInstanceAs (Decidable (_ ∧ _ ∧ _))
def inU (n : Int) : Prop := inR n 0 1000000000000
instance (n : Int) : Decidable (inU n) := inferInstanceAs (Decidable (_ ∧ _))
end Go.Vs
namespace Go.Vg
open Go
def opn (P : Program) : Nat → TypeId → Ty → Bool
 | 0, _, _ => false
 | n + 1, t, u => Nat.beq (P.cellsOf t) u.size && (match P.underlying t, u with
  | some (.int k), .int k' => decide (k = k')
  | some .bool, .bool => true
  | some .string, .str => true
  | some (.slice e), .sl v => opn P n e v && Nat.ble 1 v.size && Nat.ble 1 (P.bytesOf e)
  | some (.array m e), .arr m' v => Nat.beq m m' && opn P n e v
  | some (.struct fs), u => opFs (opn P n) fs.toList 0 u
  | _, _ => false)
where opFs (f : TypeId → Ty → Bool) : List Field → Nat → Ty → Bool
 | [], _, u => match u with | .unit => true | _ => false
 | x :: r, off, u => match u with
  | .pair t v => Nat.beq x.offset off && f x.type t && opFs f r (off + t.size) v
  | _ => false
theorem aFp {α : Type} {R : α → List Value → Prop} {n : Nat} : ∀ (len : Nat) (cs : List Value), cs.length = len * n → (∀ i, i < len → ∃ x, R x ((cs.drop (i * n)).take n)) → ∃ xs, xs.length = len ∧ RdL R xs cs
 | 0, cs, hl, _ => ⟨[], rfl, by rw [wo] at hl; exact yk hl⟩
 | len + 1, cs, hl, h => by
  obtain ⟨x, hx⟩ := h 0 (Nat.succ_pos _)
  rw [wo, yp] at hx
  have hl' : (cs.drop n).length = len * n := by rw [zZ, hl, zV]; omega
  obtain ⟨xs, h1, h2⟩ := aFp len (cs.drop n) hl' (fun i hi => by
   have := h (i + 1) (Nat.succ_lt_succ hi)
   rw [zP]
   rwa [zV, yO] at this)
  exact ⟨x :: xs, by rw [yr, h1], cs.take n, cs.drop n, (xc n cs).symm, hx, h2⟩
section
variable {H : Type} {enc : TypeId × Value → H} {P : Program} {w : World} {spare : Nat → Bool} {held : Bool}
abbrev aj0 (l : List Nat) : Prop := l.all (· ≤ reachBytes) = true
theorem aiW {a b : List Nat} (h : aj0 (a ++ b)) : aj0 a ∧ aj0 b := by
 simp only [aj0, List.all_append, zj] at h
 exact h
theorem aqT {e : TypeId} : ∀ {ds : List (DataW H)}, aj0 (DataW.weightsAll P e ds) → ∀ d ∈ ds, aj0 (d.weights P e)
 | [], _, _, h => by cases h
 | d :: r, h, x, hx => by
  rw [DataW.weightsAll] at h
  obtain ⟨h1, h2⟩ := aiW h
  rcases zo.1 hx with rfl | hx
  ·exact h1
  ·exact aqT h2 x hx
theorem auI : ∀ {ts : List TypeId} {ds : List (DataW H)}, aj0 (DataW.weightsEach P ts ds) → ∀ (i : Nat) t d, ts[i]? = some t → ds[i]? = some d → aj0 (d.weights P t)
 | [], _, _, i, t, d, h, _ => by simp at h
 | _ :: _, [], _, i, t, d, _, h => by simp at h
 | t :: ts, d :: ds, h, i, t', d', h1, h2 => by
  rw [DataW.weightsEach] at h
  obtain ⟨h3, h4⟩ := aiW h
  cases i with
  | zero => simp at h1 h2; subst h1; subst h2; exact h3
  | succ i => exact auI h4 i t' d' (by simpa using h1) (by simpa using h2)
theorem ajM {a : Addr} {n : Nat} {l : List Value} (h : w.cells? 0 a n = some l) : l.length = n ∧ ∀ i (hi : i < n), w.cell? (a.add i) = l[i]? := by
 unfold World.cells? at h
 rw [if_pos (zQ _)] at h
 refine ⟨by simpa using mapM_some_length h, fun i hi => ?_⟩
 have := mapM_some_get h i i (by simp [hi])
 exact this
theorem aEq {a : Addr} {v : Value} (h : w.cell? a = some v) : ∃ c e fr, w.heap[a.block]? = some (.cells c e fr) ∧ a.spot = none ∧ c[a.off]? = some v := by
 unfold World.cell? at h
 split at h
 ·rename_i c e fr hc
  split at h
  ·cases h
  ·rename_i hs
   exact ⟨c, e, fr, hc, by simpa using hs, h⟩
 ·cases h
theorem ax3 : reachBytes ≤ lim := zd
theorem aFE {n : Nat} {f : TypeId → Ty → Bool} {cs : List Value} (hf : ∀ t u cs d ps, f t u = true → DataW.trod enc P w 0 spare held n t cs = some (d, ps) → aj0 (d.weights P t) → ∃ x, Rd (· < w.heap.size) w u x cs)
  (hsz : ∀ t u, f t u = true → P.cellsOf t = u.size) :
  ∀ (fs : List Field) (off : Nat) (u : Ty) (xs : List (DataW H × List MemPlace)), opn.opFs f fs off u = true → cs.length = off + u.size → xs.length = fs.length →
   (∀ (i : Nat) (g : Field), fs[i]? = some g → DataW.trod enc P w 0 spare held n g.type ((cs.drop g.offset).take (P.cellsOf g.type)) = xs[i]?) →
   (∀ (i : Nat) (g : Field) y, fs[i]? = some g → xs[i]? = some y → aj0 (y.1.weights P g.type)) → ∃ x, Rd (· < w.heap.size) w u x (cs.drop off)
 | [], off, u, xs, h, hl, _, _, _ => by
  cases u <;> first | (cases h; done) | skip
  exact ⟨(), by
   have : cs.length = off := by simpa [Ty.size] using hl
   show cs.drop off = []
   exact List.drop_eq_nil_of_le zc⟩
 | g :: r, off, u, xs, h, hl, hx, ht, hw => by
  cases u <;> first | (cases h; done) | skip
  rename_i t v
  simp only [opn.opFs, zj] at h
  obtain ⟨⟨h1, h2⟩, h3⟩ := h
  have h1 := Nat.eq_of_beq_eq_true h1
  subst h1
  have hs := hsz _ _ h2
  cases xs with
  | nil => simp at hx
  | cons y ys =>
   have h4 := ht 0 g rfl
   rw [hs] at h4
   obtain ⟨a, ha⟩ := hf _ _ _ y.1 y.2 h2 h4 (hw 0 g y rfl rfl)
   obtain ⟨b, hb⟩ := aFE hf hsz r (g.offset + t.size) v ys h3 (by rw [hl]; simp only [Ty.size]; omega) (by simpa using hx) (fun i k hk => by have := ht (i + 1) k (by simpa using hk); simpa using this) (fun i k z hk hz => hw (i + 1) k z (by simpa using hk) (by simpa using hz))
   refine ⟨(a, b), _, _, (xc t.size (cs.drop g.offset)).symm, ha, ?_⟩
   rw [zP]
   exact hb
theorem ao4 {n : Nat} {t : TypeId} {u : Ty} (h : opn P n t u = true) : P.cellsOf t = u.size := by
 cases n with
 | zero => cases h
 | succ n =>
  simp only [opn, zj] at h
  exact Nat.eq_of_beq_eq_true h.1
theorem alH : ∀ (n : Nat) (t : TypeId) (u : Ty) (fuel : Nat) (cs : List Value) (d : DataW H) (ps : List MemPlace), opn P n t u = true → DataW.trod enc P w 0 spare held fuel t cs = some (d, ps) → aj0 (d.weights P t) →
  ∃ x, Rd (· < w.heap.size) w u x cs
 | 0, _, _, _, _, _, _, h, _, _ => by cases h
 | n + 1, t, u, fuel, cs, d, ps, h, hd, hw => by
  have hsz := ao4 h
  simp only [opn, zj] at h
  obtain ⟨-, h⟩ := h
  split at h
  ·rename_i k k' hu
   have := of_decide_eq_true h
   subst this
   obtain ⟨m, rfl, _, hwf⟩ := DataW.trod_int hu hd
   refine ⟨m, rfl, ?_⟩
   simpa [Lit.wf] using hwf
  ·rename_i hu
   obtain ⟨b, rfl, _⟩ := DataW.trod_bool hu hd
   exact ⟨b, rfl⟩
  ·rename_i hu
   obtain ⟨s, rfl, hx, _⟩ := DataW.trod_string hu hd
   injection hx with hx _
   subst hx
   have : s.data.toList.length ≤ reachBytes := by simpa [aj0, DataW.weights] using hw
   exact ⟨s.data.toList, rfl, zu this ax3⟩
  ·rename_i e v hu
   simp only [zj] at h
   obtain ⟨⟨h1, h2⟩, h3⟩ := h
   have h2 := Nat.le_of_ble_eq_true h2
   have h3 := Nat.le_of_ble_eq_true h3
   have hse := ao4 h1
   rcases DataW.trod_slice hu hd with ⟨rfl, hx⟩ | ⟨a, len, cap, elems, rest, m, rfl, rfl, hx, _, hlc, _, hle, hel, _, _⟩
   ·exact ⟨[], none, 0, rfl, zi _, zQ _, Or.inl rfl⟩
   ·injection hx with hx _
    subst hx
    simp only [DataW.weights, hu, aj0, List.all_cons, zj, ya, List.all_append] at hw
    obtain ⟨hw1, hw2, _⟩ := hw
    have hlim : len ≤ lim := by
     have : len * 1 ≤ (List.map (·.1) elems).length * P.bytesOf e := Nat.mul_le_mul (by simp [hle]) h3
     have h4 : (List.map (·.1) elems).length * P.bytesOf e ≤ ((List.map (·.1) elems).length + (List.map (·.1) rest).length) * P.bytesOf e := zH _ (yu _ _)
     exact zu zc (zu hw1 ax3)
    rcases zC len with h0 | h0
    ·subst h0
     exact ⟨[], some a, cap, rfl, hlc, zQ _, Or.inl rfl⟩
    ·-- the cells of an element
     have key : ∀ i, i < len → ∃ l y, w.cells? 0 (a.add (i * v.size)) v.size = some l ∧ DataW.trod enc P w 0 spare held m e l = some y ∧ elems[i]? = some y := by
      intro i hi
      have := hel i hi
      rw [zG zc, hse] at this
      obtain ⟨l, hl1, hl2⟩ := Option.bind_eq_some_iff.1 this
      exact ⟨l, _, hl1, hl2, by rw [zG zc]⟩
     obtain ⟨l0, y0, hl0, -, -⟩ := key 0 h0
     obtain ⟨hn0, hc0⟩ := ajM hl0
     have hc00 := hc0 0 h2
     rw [zG zc] at hc00
     obtain ⟨c, et, fr, hb, hsp, _⟩ := aEq hc00
     have e0 : a.add (0 * v.size) = a := by simp [Addr.add]
     rw [e0] at hb hsp
     have e00 : a.add 0 = a := by simp [Addr.add]
     rw [e00] at hb hsp
     obtain ⟨b, o, sp⟩ := a
     dsimp only at hb hsp
     subst hsp
     -- each cell
     have cell : ∀ i, i < len → ∀ j, j < v.size → ∀ l, w.cells? 0 (Addr.add ⟨b, o, none⟩ (i * v.size)) v.size = some l → c[o + i * v.size + j]? = l[j]? := by
      intro i hi j hj l hl
      obtain ⟨q1, q2⟩ := ajM hl
      have := q2 j hj
      rw [← this]
      have ea : ((Addr.add ⟨b, o, none⟩ (i * v.size)).add j) = ⟨b, o + i * v.size + j, none⟩ := by
       unfold Addr.add
       by_cases c1 : i * v.size = 0 <;> by_cases c2 : j = 0 <;> simp [c1, c2]
      rw [ea]
      unfold World.cell?
      dsimp only
      rw [hb]
      rfl
     have part : ∀ i, i < len → ∀ l, w.cells? 0 (Addr.add ⟨b, o, none⟩ (i * v.size)) v.size = some l → (c.toList.drop (o + i * v.size)).take v.size = l := by
      intro i hi l hl
      obtain ⟨q1, q2⟩ := ajM hl
      apply List.ext_getElem?
      intro j
      rcases zx j v.size with hj | hj
      ·rw [List.getElem?_take_of_lt hj, yJ, ← cell i hi j hj l hl]
       simp
      ·rw [xO (by rw [zY]; omega), xO zc]
     have hlen : o + len * v.size ≤ c.size := by
      obtain ⟨l, y, hl, -, -⟩ := key (len - 1) zc
      obtain ⟨q1, q2⟩ := ajM hl
      have := cell (len - 1) zc (v.size - 1) zc l hl
      rw [zG zc] at this
      have hlt := (yP.1 this).1
      have e1 : len * v.size = (len - 1) * v.size + v.size := by
       conv => lhs; rw [show len = (len - 1) + 1 by omega]
       rw [zV]
      omega
     obtain ⟨xs, hx1, hx2⟩ := aFp (R := Rd (· < w.heap.size) w v) (n := v.size) len ((c.toList.drop o).take (len * v.size)) (by rw [zY, zZ]; simp; omega) (fun i hi => by
      obtain ⟨l, y, hl, hl2, hy⟩ := key i hi
      have hm : y.1 ∈ elems.map (·.1) := zE.2 ⟨y, List.mem_of_getElem? hy, rfl⟩
      obtain ⟨x, hx⟩ := alH n e v m l y.1 y.2 h1 hl2 (aqT hw2 _ hm)
      refine ⟨x, ?_⟩
      have e2 : ((((c.toList.drop o).take (len * v.size)).drop (i * v.size)).take v.size) = l := by
       rw [← part i hi l hl, xM, yE, zP]
       congr 1
       have : i * v.size + v.size ≤ len * v.size := by rw [← zV]; exact zH _ hi
       omega
      rw [e2]
      exact hx)
     subst hx1
     exact ⟨xs, some ⟨b, o, none⟩, cap, rfl, hlc, hlim, Or.inr ⟨b, o, c, et, fr, rfl, (yP.1 hb).1, hb, hlen, hx2⟩⟩
  ·rename_i m e m' v hu
   simp only [zj] at h
   obtain ⟨h1, h2⟩ := h
   have h1 := Nat.eq_of_beq_eq_true h1
   subst h1
   have hse := ao4 h2
   obtain ⟨xs, k, rfl, hx, hlen, hxl, hel⟩ := DataW.trod_array hu hd
   injection hx with hx _
   subst hx
   rw [hsz] at hlen
   have hlen' : cs.length = m * v.size := hlen
   simp only [DataW.weights, hu] at hw
   obtain ⟨ys, hy1, hy2⟩ := aFp (R := Rd (· < w.heap.size) w v) (n := v.size) m cs hlen' (fun i hi => by
    have := hel i hi
    rw [zG zc, hse] at this
    exact alH n e v k _ _ _ h2 this (aqT hw _ (zE.2 ⟨_, xz zc, rfl⟩)))
   exact ⟨ys, hy1, hy2⟩
  ·rename_i _ fs hu
   obtain ⟨xs, k, rfl, hx, hlen, hxl, hel⟩ := DataW.trod_struct hu hd
   injection hx with hx _
   subst hx
   simp only [DataW.weights, hu] at hw
   obtain ⟨x, hx⟩ := aFE (n := k) (f := opn P n) (cs := cs) (fun t u cs d ps h1 h2 h3 => alH n t u k cs d ps h1 h2 h3) (fun t u h => ao4 h) fs.toList 0 _ xs h (by rw [hlen, hsz]; omega) (by simpa using hxl) (fun i g hg => hel i g (by simpa using hg))
    (fun i g y hg hy => auI hw i g.type y.1 (by simp [hg]) (by simp [hy]))
   exact ⟨x, by simpa using hx⟩
  ·cases h
theorem aI0 {f : TypeId → Ty → Bool} : ∀ {fs : List Field} {off : Nat} {u : Ty}, opn.opFs f fs off u = true → u.agg = true
 | [], _, u, h => by cases u <;> first | rfl | (cases h; done)
 | _ :: _, _, u, h => by cases u <;> first | rfl | (cases h; done)
theorem aDG {n : Nat} {t : TypeId} {u : Ty} {r : _root_.Go.Reach} {b0 : Nat} {v : Value} {d : DataW H} {ps : List MemPlace} (ho : opn P n t u = true) (hne : u ≠ .unit) (hval : Value.okWide P w r b0 t v) (hd : DataW.Trod enc P w 0 spare held t v d ps) (hw : aj0 (d.weights P t)) :
  ∃ x, RdV (· < w.heap.size) w u x v := by
 obtain ⟨fuel, hf⟩ := hd
 obtain ⟨x, hx⟩ := alH n t u fuel _ _ _ ho hf hw
 refine ⟨x, _, hx, ?_⟩
 cases n with
 | zero => cases ho
 | succ n =>
  simp only [opn, zj] at ho
  obtain ⟨-, h⟩ := ho
  split at h
  ·rename_i k k' hu
   obtain ⟨m, rfl⟩ := WideShapes.okWide_int hu hval
   rfl
  ·rename_i hu
   obtain ⟨m, rfl⟩ := WideShapes.okWide_bool hu hval
   rfl
  ·rename_i hu
   obtain ⟨m, rfl⟩ := WideShapes.okWide_string hu hval
   rfl
  ·rename_i e v' hu
   obtain ⟨a, len, cap, rfl⟩ := WideShapes.okWide_slice hu hval
   rfl
  ·rename_i ha
   unfold Value.okWide at hval
   rw [ha] at hval
   obtain ⟨cs, rfl, _⟩ := hval
   rfl
  ·rename_i fs hu'
   obtain ⟨cs, rfl, _⟩ := WideShapes.okWide_struct hu' hval
   unfold vOf
   rw [if_pos (aI0 h)]
   rfl
  ·cases h
def aCq (P : Program) : List TypeId → Ty → Bool
 | [], u => match u with | .unit => true | _ => false
 | t :: ts, u => match u with
  | .pair a b => opn P 8 t a && (match a with | .unit => false | _ => true) && aCq P ts b
  | _ => false
theorem aCr : ∀ (ts : List TypeId) (u : Ty) (vs : List Value) (ds : List (DataW H)) (ps : List MemPlace) {r : _root_.Go.Reach} {b0 : Nat}, aCq P ts u = true → (∀ (j : Nat) t v, ts[j]? = some t → vs[j]? = some v → Value.okWide P w r b0 t v) →
  DataW.TrodAll enc P w 0 spare held ts vs ds ps → aj0 (DataW.weightsEach P ts ds) → ∃ x, RdVs (· < w.heap.size) w u x vs
 | [], u, vs, ds, ps, _, _, ho, _, hd, _ => by
  cases u <;> first | (cases ho; done) | skip
  cases vs with
  | nil => exact ⟨(), rfl⟩
  | cons v vs => cases ds <;> exact hd.elim
 | t :: ts, u, vs, ds, ps, r, b0, ho, hv, hd, hw => by
  cases u <;> first | (cases ho; done) | skip
  rename_i a b
  simp only [aCq, zj] at ho
  obtain ⟨⟨h1, h2⟩, h3⟩ := ho
  cases vs with
  | nil => exact hd.elim
  | cons v vs =>
   cases ds with
   | nil => exact hd.elim
   | cons d ds =>
    obtain ⟨p, q, hd1, hd2, _⟩ := hd
    rw [DataW.weightsEach] at hw
    obtain ⟨hw1, hw2⟩ := aiW hw
    obtain ⟨x, hx⟩ := aDG h1 (fun e => by subst e; cases h2) (hv 0 t v rfl rfl) hd1 hw1
    obtain ⟨y, hy⟩ := aCr ts b vs ds q h3 (fun j t' v' e1 e2 => hv (j + 1) t' v' (by simpa using e1) (by simpa using e2)) hd2 hw2
    exact ⟨(x, y), v, vs, rfl, hx, hy⟩
theorem aB8 (hl : laidOutB P = true) {W W' : World} (hb : RowKit.Below W.heap.size W W') : ∀ (ts : List TypeId) (vs : List Value) (ds : List (DataW H)) (ps : List MemPlace), (ts.all fun t => P.readableRec t && decide (t < P.types.size)) = true →
  DataW.TrodAll enc P W 0 (fun _ => true) true ts vs ds ps → (∀ x ∈ ps, x.block < W.heap.size) → DataW.TrodAll enc P W' 0 (fun b => decide (b < W.heap.size)) true ts vs ds ps
 | [], [], [], _, _, hd, _ => hd
 | [], _ :: _, [], _, _, hd, _ | [], _, _ :: _, _, _, hd, _ => by cases ‹List Value› <;> exact hd.elim
 | t :: ts, [], ds, _, _, hd, _ => by cases ds <;> exact hd.elim
 | t :: ts, v :: vs, [], _, _, hd, _ => hd.elim
 | t :: ts, v :: vs, d :: ds, ps, hr, ⟨p, q, h1, h2, e⟩, hlt => by
  simp only [List.all_cons, zj, ya] at hr
  obtain ⟨⟨r1, r2⟩, r3⟩ := hr
  subst e
  exact ⟨p, q, RowKit.Below.trod hl r1 r2 h1 hb (fun x hx => hlt x (wO _ hx)), aB8 hl hb ts vs ds q r3 h2 (fun x hx => hlt x (List.mem_append_right _ hx)), rfl⟩
end
end Go.Vg
