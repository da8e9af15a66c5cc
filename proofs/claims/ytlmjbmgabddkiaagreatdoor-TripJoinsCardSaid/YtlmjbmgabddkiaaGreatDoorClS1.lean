/-
  Functions of plain data that the Go functions compute, and their laws. Own work; no condition.
-/
import Derived.Test.YtlmjbmgabddkiaaGreatDoorClR7
import Derived.Lib.ItoaMem
import Derived.Lib.AtoiAllCases
import Derived.Lib.ParseIntBTie
import Derived.Lib.Repeat
import Derived.OpenShut
import Derived.Carry
set_option linter.unusedVariables false
set_option linter.unusedSimpArgs false
namespace Go.Vs
open Go Go.Vg
theorem aaA {x : Int} (h0 : -9223372036854775808 ≤ x ∧ x ≤ 9223372036854775807) : w64 x = x := by
 obtain ⟨h0, h1⟩ := h0
 unfold w64 IntKind.wrap
 simp only [IntKind.bits, IntKind.signed, wG]
 have e1 : (2 : Int) ^ 64 = 18446744073709551616 := zf
 have e2 : (2 : Int) ^ (64 - 1) = 9223372036854775808 := zf
 simp only [e1, e2, ge_iff_le, zX]
 split <;> omega
theorem aaM {x : Int} (h0 : 0 ≤ x ∧ x ≤ 18446744073709551615) : ab6 x = x := by
 obtain ⟨h0, h1⟩ := h0
 unfold ab6 IntKind.wrap
 simp only [IntKind.bits, IntKind.signed, xv]
 have e1 : (2 : Int) ^ 64 = 18446744073709551616 := zf
 simp only [e1]
 simp only [yi, if_false]
 omega
theorem aa4 {x : Int} (h0 : 0 ≤ x ∧ x ≤ 4294967295) : aeP x = x := by
 obtain ⟨h0, h1⟩ := h0
 unfold aeP IntKind.wrap
 simp only [IntKind.bits, IntKind.signed, xv]
 have e1 : (2 : Int) ^ 32 = 4294967296 := zf
 simp only [e1]
 simp only [yi, if_false]
 omega
theorem acE {x : Int} (h0 : 0 ≤ x ∧ x ≤ 255) : wu8 x = x := by
 obtain ⟨h0, h1⟩ := h0
 unfold wu8 IntKind.wrap
 simp only [IntKind.bits, IntKind.signed, xv]
 have e1 : (2 : Int) ^ 8 = 256 := zf
 simp only [e1]
 simp only [yi, if_false]
 omega
def V (B : Int) : List Int → Int
 | [] => 0
 | d :: l => d + B * V B l
def Dg (B : Int) (l : List Int) : Prop := ∀ d ∈ l, 0 ≤ d ∧ d < B
def Cn (l : List Int) : Prop := l.getLast? ≠ some 0
theorem aeL (B : Int) : ∀ (l m : List Int), V B (l ++ m) = V B l + B ^ l.length * V B m
 | [], m => by simp [V]
 | d :: l, m => by
  simp only [xu, V, aeL B l m, zH, yu]
  grind
theorem aw1 (B d : Int) : V B [d] = d := by simp [V]
theorem ajX (B : Int) {l : List Int} {i : Nat} (h : i < l.length) : V B (l.take (i + 1)) = V B (l.take i) + B ^ i * l[i] := by
 rw [zN h, aeL, aw1, zT, yx zb]
theorem aQ4 (B : Int) (l : List Int) (i : Nat) (h : i ≤ l.length) : V B l = V B (l.take i) + B ^ i * V B (l.drop i) := by
 conv => lhs; rw [← xo i l]
 rw [aeL, zT, yx h]
theorem aL8 (B : Int) {l : List Int} {i : Nat} (h : i < l.length) : V B (l.drop i) = l[i] + B * V B (l.drop (i + 1)) := by
 rw [yB h]; rfl
theorem arR (B : Int) : Dg B [] := fun _ h => by cases h
theorem aeZ {B : Int} {l m : List Int} (hl : Dg B l) (hm : Dg B m) : Dg B (l ++ m) := by
 intro d hd
 rcases zG.1 hd with h | h
 ·exact hl d h
 ·exact hm d h
theorem ak6 {B d : Int} (h0 : 0 ≤ d) (h1 : d < B) : Dg B [d] := by
 intro x hx
 have := yj.1 hx
 subst this
 exact ⟨h0, h1⟩
theorem anH {B d : Int} {l : List Int} (h : Dg B (d :: l)) : Dg B l := fun x hx => h x (zx _ hx)
theorem aqR {B d : Int} {l : List Int} (h : Dg B (d :: l)) : 0 ≤ d ∧ d < B := h d zF
theorem aA8 {B d : Int} {l : List Int} (h0 : 0 ≤ d ∧ d < B) (h : Dg B l) : Dg B (d :: l) := by
 intro x hx
 rcases zt.1 hx with rfl | h1
 ·exact h0
 ·exact h x h1
theorem acT {B : Int} {l : List Int} (h : Dg B l) (i : Nat) : Dg B (l.take i) := fun x hx => h x (yC hx)
theorem ac8 {B : Int} {l : List Int} (h : Dg B l) (i : Nat) : Dg B (l.drop i) := fun x hx => h x (xi hx)
theorem aMr {B : Int} {l : List Int} (h : Dg B l) {i : Nat} (hi : i < l.length) : 0 ≤ l[i] ∧ l[i] < B := h _ (yl hi)
theorem ai5 {B d : Int} {l : List Int} (h : Dg B l) (h0 : 0 ≤ d ∧ d < B) (i : Nat) : Dg B (l.set i d) := by
 intro x hx
 rcases List.mem_or_eq_of_mem_set hx with h1 | h1
 ·exact h x h1
 ·rw [h1]; exact h0
theorem agZ {B : Int} (hB : 0 < B) (n : Nat) : Dg B (List.replicate n 0) := by
 intro x hx
 have := (List.mem_replicate.1 hx).2
 omega
theorem av0 (B : Int) : ∀ n, V B (List.replicate n 0) = 0
 | 0 => rfl
 | n + 1 => by simp [xe, V, av0 B n]
theorem aaO {B : Int} (hB : 0 ≤ B) : ∀ {l : List Int}, Dg B l → 0 ≤ V B l
 | [], _ => Int.le_refl 0
 | d :: l, h => by
  have h1 := aaO hB (anH h)
  have h2 := aqR h
  have := xr hB h1
  simp only [V]; omega
theorem aIz {B : Int} (hB : 0 < B) : ∀ {l : List Int}, Dg B l → V B l < B ^ l.length
 | [], _ => by simp [V]
 | d :: l, h => by
  have h1 := aIz hB (anH h)
  have h2 := aqR h
  simp only [V, zH, yu]
  have h3 : B * (V B l + 1) ≤ B * B ^ l.length := zy zb zb
  rw [xg (B ^ l.length) B]
  rw [wi] at h3
  omega
def arX (B n : Nat) : List Int := if _h : n = 0 ∨ B < 2 then [] else ((n % B : Nat) : Int) :: arX B (n / B)
termination_by n
decreasing_by exact wM zb zb
theorem ad7 (B : Nat) : arX B 0 = [] := by rw [arX]; simp
theorem ah6 {B n : Nat} (hB : 2 ≤ B) (hn : n ≠ 0) : arX B n = ((n % B : Nat) : Int) :: arX B (n / B) := by
 rw [arX, dif_neg zb]
theorem aDj {B : Nat} (hB : 2 ≤ B) (n : Nat) : V B (arX B n) = n := by
 induction n using Nat.strongRecOn with
 | _ n ih =>
  by_cases hn : n = 0
  ·subst hn; rw [ad7]; rfl
  ·rw [ah6 hB hn]
   simp only [V]
   rw [ih (n / B) (wM zb zb)]
   have := vl n B
   have h2 : ((n % B : Nat) : Int) + (B : Int) * ((n / B : Nat) : Int) = ((n % B + B * (n / B) : Nat) : Int) := zh
   rw [h2, this]
theorem aE0 {B : Nat} (hB : 2 ≤ B) (n : Nat) : Dg B (arX B n) := by
 induction n using Nat.strongRecOn with
 | _ n ih =>
  by_cases hn : n = 0
  ·subst hn; rw [ad7]; exact arR _
  ·rw [ah6 hB hn]
   refine aA8 ⟨by omega, ?_⟩ (ih (n / B) (wM zb zb))
   have := yy n (show 0 < B by omega)
   omega
theorem am3 {B : Nat} (hB : 2 ≤ B) {n : Nat} (hn : n ≠ 0) : arX B n ≠ [] := by rw [ah6 hB hn]; simp
theorem arS : Cn [] := by simp [Cn]
theorem aFm {d : Int} {l : List Int} : Cn (d :: l) ↔ (if l = [] then d ≠ 0 else Cn l) := by
 cases l with
 | nil => simp [Cn]
 | cons e l => simp [Cn, List.getLast?_cons_cons]
theorem aLw {B : Nat} (hB : 2 ≤ B) (n : Nat) : Cn (arX B n) := by
 induction n using Nat.strongRecOn with
 | _ n ih =>
  by_cases hn : n = 0
  ·subst hn; rw [ad7]; exact arS
  ·rw [ah6 hB hn, aFm]
   split
   ·rename_i h
    by_cases h2 : n / B = 0
    ·have := vl n B
     rw [h2, Nat.mul_zero] at this
     omega
    ·exact absurd h (am3 hB h2)
   ·exact ih (n / B) (wM zb zb)
theorem aDi {B : Int} (hB : 0 < B) : ∀ {l : List Int}, Dg B l → Cn l → V B l = 0 → l = []
 | [], _, _, _ => rfl
 | d :: l, hd, hc, h => by
  have h1 := aaO zb (anH hd)
  have h2 := aqR hd
  simp only [V] at h
  have h3 := xr (show 0 ≤ B by omega) h1
  have h4 : B * V B l = 0 := zb
  have h5 : V B l = 0 := by
   rcases Int.mul_eq_zero.1 h4 with h | h
   ·omega
   ·exact h
  rw [aFm] at hc
  split at hc
  ·omega
  ·rename_i hl; exact absurd (aDi hB (anH hd) hc h5) hl
theorem au9 {B : Nat} (hB : 2 ≤ B) : ∀ {l : List Int} {n : Nat}, Dg B l → Cn l → V B l = n → l = arX B n
 | [], n, _, _, h => by
  have : n = 0 := by simp [V] at h; omega
  subst this; rw [ad7]
 | d :: l, n, hd, hc, h => by
  have h1 := aaO zb (anH hd)
  have h2 := aqR hd
  have hn : n ≠ 0 := by
   intro h0
   have := aDi zb hd hc (by rw [h, h0]; rfl)
   cases this
  rw [ah6 hB hn]
  simp only [V] at h
  obtain ⟨v, hv⟩ := zE h1
  obtain ⟨e, he⟩ := zE h2.1
  rw [hv, he] at h
  have h3 : e + B * v = n := by
   have : ((e + B * v : Nat) : Int) = (n : Int) := by simpa using h
   exact Int.ofNat.inj this
  have h4 : e < B := zb
  have h5 : n % B = e := by rw [← h3, Nat.add_mul_mod_self_left, yv h4]
  have h6 : n / B = v := by rw [← h3, Nat.add_mul_div_left _ _ zb, yQ h4, zp]
  rw [h5, h6, he]
  congr 1
  refine au9 hB (anH hd) ?_ hv
  rw [aFm] at hc
  split at hc
  ·rename_i hl; rw [hl]; exact arS
  ·exact hc
theorem af7 {B : Nat} (hB : 2 ≤ B) : ∀ {k n : Nat}, n < B ^ k → (arX B n).length ≤ k
 | 0, n, h => by
  have : n = 0 := by simpa using h
  subst this; rw [ad7]; simp
 | k + 1, n, h => by
  by_cases hn : n = 0
  ·subst hn; rw [ad7]; simp
  ·rw [ah6 hB hn, zH]
   have := af7 (k := k) hB (n := n / B) (by rw [yV zb]; rw [yw] at h; exact h)
   omega
theorem auA {B : Nat} (hB : 2 ≤ B) (n : Nat) : n < B ^ (arX B n).length := by
 have h := aIz (B := B) zb (aE0 hB n)
 rw [aDj hB] at h
 have : ((B : Int) ^ (arX B n).length) = ((B ^ (arX B n).length : Nat) : Int) := zh
 rw [this] at h
 omega
theorem atS {B : Nat} (hB : 2 ≤ B) {n : Nat} (hn : n ≠ 0) : B ^ ((arX B n).length - 1) ≤ n := by
 rcases zv n (B ^ ((arX B n).length - 1)) with h | h
 ·have := af7 hB h
  have h2 : (arX B n).length ≠ 0 := by
   intro h3; exact am3 hB hn (zU.1 h3)
  omega
 ·exact h
theorem aGo {B : Nat} (hB : 2 ≤ B) {m n : Nat} (h : arX B m = arX B n) : m = n := by
 have h1 := aDj hB m
 have h2 := aDj hB n
 rw [h] at h1
 omega
theorem ayM {B : Nat} (hB : 2 ≤ B) {d : Nat} (h0 : d ≠ 0) (h1 : d < B) : arX B d = [(d : Int)] := by
 rw [ah6 hB h0, yv h1, yQ h1, ad7]
noncomputable def afO {α A R : Type} (enc : α → A) (pre : α → Prop) (f : α → R) (x : A) : Option R :=
 open Classical in if h : ∃ a, pre a ∧ enc a = x then some (f h.choose) else none
theorem aaN {α A R : Type} {enc : α → A} {pre : α → Prop} {f : α → R} (a : α) (h : pre a) (hinj : ∀ b, enc b = enc a → b = a) : afO enc pre f (enc a) = some (f a) := by
 have hex : ∃ b, pre b ∧ enc b = enc a := ⟨a, h, rfl⟩
 unfold afO
 rw [dif_pos hex, hinj _ hex.choose_spec.2]
theorem aaH {α A R : Type} {enc : α → A} {pre : α → Prop} {f : α → R} {x : A} {y : R} (h : afO enc pre f x = some y) : ∃ a, pre a ∧ x = enc a ∧ y = f a := by
 unfold afO at h
 split at h
 ·rename_i hex
  injection h with h
  exact ⟨_, hex.choose_spec.1, hex.choose_spec.2.symm, h.symm⟩
 ·cases h
theorem aPx {a b : Int} (h0 : 0 ≤ a) (h1 : a < b) : inb a b := ⟨h0, h1⟩
theorem aaI {α : Type} (l : List α) : len l = (l.length : Int) := rfl
theorem aQy {α : Type} {l : List α} {i : Int} {d : α} {k : Nat} (h : i = k) (hk : k < l.length) : gi l i d = l[k] := by
 subst h; unfold gi; simp [hk]
theorem uT {α : Type} {b : Bool} {x y : TT α} {r : Option α} (h : b = true) (hx : x.toO = r) : (TT.ite b x y).toO = r := by subst h; exact hx
theorem uF {α : Type} {b : Bool} {x y : TT α} {r : Option α} (h : b = false) (hy : y.toO = r) : (TT.ite b x y).toO = r := by subst h; exact hy
theorem uN {α : Type} {p : Prop} {x : TT α} {r : Option α} (h : p) (hx : x.toO = r) : (TT.need p x).toO = r := by rw [aMN _ _ h]; exact hx
theorem uV {α : Type} {p : Prop} {h : p} {x : TT α} {r : Option α} (hx : x.toO = r) : (TT.triv p h x).toO = r := hx
theorem uB {α β : Type} {b : β} {x : β → TT α} {r : Option α} (hx : (x b).toO = r) : (TT.lt b x).toO = r := hx
theorem uC {α β : Type} {o : Option β} {d : β} {x : β → TT α} {r : Option α} (y : β) (h : o = some y) (hx : (x y).toO = r) : (TT.call o d x).toO = r := by subst h; exact hx
theorem uO {α ι : Type} {t : Nat} {H : TT ι} {R : ι → TT (ι ⊕ α)} {r : Option α} (i : ι) (h : H.toO = some i) (hx : abX (fun i => (R i).toO) i = r) : (TT.loop t H R).toO = r := by rw [aMO h]; exact hx
theorem uL {α ι : Type} {t : Nat} {H : TT (ι ⊕ α)} {R : ι → TT α} {r : Option α} (i : ι) (h : H.toO = some (.inl i)) (hx : (R i).toO = r) : (TT.join t H R).toO = r := by rw [aIV h]; exact hx
theorem uR {α ι : Type} {t : Nat} {H : TT (ι ⊕ α)} {R : ι → TT α} (a : α) (h : H.toO = some (.inr a)) : (TT.join t H R).toO = some a := by rw [aIU h]
def aa3 (n : Nat) : List UInt8 := Lib.decDigits n
def dec (z : Int) : List UInt8 := if z < 0 then 45 :: aa3 z.natAbs else aa3 z.natAbs
def isD (s : List UInt8) : Prop := ∀ c ∈ s, 48 ≤ c.toNat ∧ c.toNat ≤ 57
def dv (c : UInt8) : Nat := c.toNat - 48
def aCi (a : Nat) (s : List UInt8) : Nat := s.foldl (fun a c => a * 10 + dv c) a
def num (s : List UInt8) : Nat := aCi 0 s
def mag (n : Nat) : List Int := arX 1000000000 n
def awY (a b : Int) : Int := if a < b then -1 else if a = b then 0 else 1
theorem ahG (n : Nat) : Dg 1000000000 (mag n) := aE0 (B := 1000000000) zb n
theorem aR7 (n : Nat) : Cn (mag n) := aLw (B := 1000000000) zb n
theorem anA (n : Nat) : V 1000000000 (mag n) = n := aDj (B := 1000000000) zb n
theorem agP {m n : Nat} (h : mag m = mag n) : m = n := aGo (B := 1000000000) zb h
theorem ar9 {l : List Int} {n : Nat} (h1 : Dg 1000000000 l) (h2 : Cn l) (h3 : V 1000000000 l = n) : l = mag n := au9 (B := 1000000000) zb h1 h2 h3
noncomputable def ak1 (x : Int × Unit) : Option (List UInt8 × Unit) := if -9223372036854775808 ≤ x.1 ∧ x.1 ≤ 9223372036854775807 then some (dec x.1, ()) else none
noncomputable def ayZ (x : List UInt8 × Int × Unit) : Option (List UInt8 × Unit) := if 0 ≤ x.2.1 ∧ x.2.1 ≤ 100000 ∧ x.1.length ≤ 1000 then some ((List.replicate x.2.1.toNat x.1).flatten, ()) else none
noncomputable def adR (x : List Int × Unit) : Option (Bool × Unit) := some (len x.1 == 0, ())
open Classical in
noncomputable def ac5 (x : List Int × Unit) : Option (List Int × Unit) := if Dg 1000000000 x.1 ∧ x.1.length ≤ 2000000000000 then some (mag (V 1000000000 x.1).toNat, ()) else none
noncomputable def alS : List Int × Unit → Option (Int × Unit) := afO (fun n : Nat => (mag n, ())) (fun n => n < 1000000000000000000) (fun n => ((n : Int), ()))
noncomputable def aeC : List Int × List Int × Unit → Option (Int × Unit) := afO (fun p : Nat × Nat => (mag p.1, mag p.2, ())) (fun p => (mag p.1).length ≤ 1000000000000 ∧ (mag p.2).length ≤ 1000000000000) (fun p => (awY p.1 p.2, ()))
noncomputable def ak2 : List Int × List Int × Unit → Option (List Int × Unit) := afO (fun p : Nat × Nat => (mag p.1, mag p.2, ())) (fun p => (mag p.1).length ≤ 1000000000000 ∧ (mag p.2).length ≤ 1000000000000) (fun p => (mag (p.1 + p.2), ()))
noncomputable def ai3 : List Int × List Int × Unit → Option (List Int × Unit) := afO (fun p : Nat × Nat => (mag p.1, mag p.2, ())) (fun p => (mag p.1).length ≤ 1000000000000 ∧ p.2 ≤ p.1) (fun p => (mag (p.1 - p.2), ()))
noncomputable def ac0 : List Int × List Int × Unit → Option (List Int × Unit) := afO (fun p : Nat × Nat => (mag p.1, mag p.2, ())) (fun p => (mag p.1).length ≤ 1000000000000 ∧ (mag p.2).length ≤ 1000000000000) (fun p => (mag (p.1 * p.2), ()))
noncomputable def ai2 : List Int × Int × Unit → Option (List Int × Int × Unit) := afO (fun p : Nat × Nat => (mag p.1, (p.2 : Int), ())) (fun p => (mag p.1).length ≤ 1000000000000 ∧ 0 < p.2 ∧ p.2 < 4294967296) (fun p => (mag (p.1 / p.2), ((p.1 % p.2 : Nat) : Int), ()))
noncomputable def adO (x : Int × Unit) : Option (List Int × Unit) := if 0 ≤ x.1 ∧ x.1 < 18446744073709551616 then some (mag x.1.toNat, ()) else none
open Classical in
noncomputable def af0 (x : List UInt8 × Unit) : Option (List Int × Unit) := if isD x.1 ∧ x.1 ≠ [] ∧ x.1.length ≤ 1000000000000 then some (mag (num x.1), ()) else none
noncomputable def ahT : List Int × Unit → Option (Int × Unit) := afO (fun n : Nat => (mag n, ())) (fun n => (mag n).length ≤ 1000000000000) (fun n => (((aa3 n).length : Int), ()))
noncomputable def afY : List Int × Unit → Option (List UInt8 × Unit) := afO (fun n : Nat => (mag n, ())) (fun n => (mag n).length ≤ 1000000) (fun n => (aa3 n, ()))
noncomputable def abK : List Int × List Int × Unit → Option (List Int × List Int × Unit) := afO (fun p : Nat × Nat => (mag p.1, mag p.2, ())) (fun p => (mag p.1).length ≤ 100000000000 ∧ (mag p.2).length ≤ 100000000000 ∧ p.2 ≠ 0) (fun p => (mag (p.1 / p.2), mag (p.1 % p.2), ()))
noncomputable def agW : List Int × List Int × Unit → Option (List Int × Unit) := afO (fun p : Nat × Nat => (mag p.1, mag p.2, ())) (fun p => (mag p.1).length ≤ 100000000000 ∧ (mag p.2).length ≤ 100000000000) (fun p => (mag (Nat.gcd p.1 p.2), ()))
open Classical in
noncomputable def aMa (x : List Int × Unit) : Option (List Int × Unit) := if Dg 1000000000 x.1 ∧ x.1.length ≤ 2000000000000 then some (mag (V 1000000000 x.1).toNat, ()) else none
open Classical in
noncomputable def aiV (x : List UInt8 × Unit) : Option (List Int × Unit) := if isD x.1 ∧ x.1 ≠ [] ∧ x.1.length ≤ 1000000000000 then some (mag (num x.1), ()) else none
theorem aEh {B : Int} (hB : 0 < B) {i j : Nat} (h : i ≤ j) : B ^ i ≤ B ^ j := by
 obtain ⟨k, rfl⟩ := Nat.exists_eq_add_of_le h
 rw [xP]
 have h1 : 1 ≤ B ^ k := yM hB
 have h2 : 0 < B ^ i := yM hB
 have := zy h1 (wP h2)
 omega
theorem aaP {α : Type} (l : List α) (k : Nat) (d : α) : gi l (k : Int) d = l.getD k d := by unfold gi; rw [zm]
theorem ajL {l : List Int} {k : Nat} (h : k < l.length) (d : Int) : l.getD k d = l[k] := by simp [h]
theorem ahK {l : List Int} {k : Nat} (h : l.length ≤ k) (d : Int) : l.getD k d = d := by simp [h]
theorem aa5 {B : Int} (hB : 0 < B) {l : List Int} (h : Dg B l) (k : Nat) : 0 ≤ l.getD k 0 ∧ l.getD k 0 < B := by
 rcases zv k l.length with hk | hk
 ·rw [ajL hk]; exact aMr h hk
 ·rw [ahK hk]; omega
theorem aa7 (B : Int) (l : List Int) (k : Nat) : V B (l.take (k + 1)) = V B (l.take k) + B ^ k * l.getD k 0 := by
 rcases zv k l.length with hk | hk
 ·rw [ajL hk]; exact ajX B hk
 ·rw [ahK hk, zr zb, zr hk]; omega
theorem aaR (B : Int) (l : List Int) (k : Nat) : V B (l.drop k) = l.getD k 0 + B * V B (l.drop (k + 1)) := by
 rcases zv k l.length with hk | hk
 ·rw [ajL hk]; exact aL8 B hk
 ·rw [ahK hk, yr hk, yr zb]; simp [V]
theorem adK (B : Int) {l : List Int} {k : Nat} (h : l.length ≤ k) : V B (l.drop k) = 0 := by rw [yr h]; rfl
theorem abN (B : Int) {l : List Int} {k : Nat} (h : l.length ≤ k) : V B (l.take k) = V B l := by rw [zr h]
theorem acU (B : Int) (l : List Int) (k : Nat) : V B l = V B (l.take k) + B ^ k * V B (l.drop k) := by
 rcases zv k l.length with hk | hk
 ·exact aQ4 B l k zb
 ·rw [adK B hk, abN B hk]; omega
theorem adQ {B : Int} (hB : 0 < B) {l : List Int} (h : Dg B l) (k : Nat) : V B (l.take k) < B ^ k := by
 rcases zv k l.length with hk | hk
 ·have := aIz hB (acT h k)
  rwa [zT, yx zb] at this
 ·rw [abN B hk]
  have h1 := aIz hB h
  have h2 : B ^ l.length ≤ B ^ k := aEh hB hk
  omega
theorem aL7 {B : Int} (hB : 1 ≤ B) {l : List Int} (h : Dg B l) (k : Nat) : V B (l.drop k) ≤ V B l := by
 have h1 := acU B l k
 have h2 := aaO zb (acT h k)
 have h3 := aaO zb (ac8 h k)
 have h4 : 1 * V B (l.drop k) ≤ B ^ k * V B (l.drop k) := zI (yM zb) h3
 omega
theorem az4 {B : Int} (hB : 1 ≤ B) (k : Nat) : 1 ≤ B ^ k := yM zb
theorem azK (l : List Int) (k : Nat) (x : Int) : (l.set k x).take k = l.take k := by
 rw [List.take_set_of_le (zj k)]
theorem aIy (B : Int) {l : List Int} {k : Nat} (hk : k < l.length) (x : Int) : V B ((l.set k x).take (k + 1)) = V B (l.take k) + B ^ k * x := by
 rw [aa7, azK, ajL (by simpa using hk)]
 simp
theorem ahN (l : List Int) {k j : Nat} (h : k < j) (x : Int) : (l.set k x).drop j = l.drop j := by
 rw [List.drop_set_of_lt h]
theorem aw0 (B : Int) : ∀ {l : List Int} {k : Nat}, k < l.length → ∀ x, V B (l.set k x) = V B l + B ^ k * (x - l.getD k 0)
 | [], k, h, _ => by simp at h
 | d :: l, 0, _, x => by simp [V]; omega
 | d :: l, k + 1, h, x => by
  simp only [List.set_cons_succ, V, List.getD_cons_succ]
  rw [aw0 B (by simpa using h) x, yu]
  grind
theorem amT (l : List Int) {k j : Nat} (h : k ≠ j) (x : Int) : (l.set k x).getD j 0 = l.getD j 0 := by
 simp [yz, List.getElem?_set_ne h]
theorem amU {l : List Int} {k : Nat} (h : k < l.length) (x : Int) : (l.set k x).getD k 0 = x := by
 simp [yz, h]
theorem akP {B : Int} (hB : 1 < B) {l : List Int} (h : Dg B l) {k : Nat} (hv : V B l < B ^ k) : ∀ j, k ≤ j → l.getD j 0 = 0 := by
 intro j hj
 have h1 := acU B l j
 have h2 := aaO zb (acT h j)
 have h3 := aaO zb (ac8 h j)
 have h4 := aaR B l j
 have h5 := aaO zb (ac8 h (j + 1))
 have h6 := aa5 zb h j
 have h7 : B ^ k ≤ B ^ j := aEh zb hj
 have h8 := xr (show 0 ≤ B by omega) h5
 rcases zP 0 (V B (l.drop j)) with h9 | h9
 ·have : B ^ j * 1 ≤ B ^ j * V B (l.drop j) := zy zb (by have := az4 (show 1 ≤ B by omega) j; omega)
  omega
 ·omega
theorem aOM {B : Int} (hB : 0 < B) {l : List Int} (h : Dg B l) (hv : l = [] ∨ B ^ (l.length - 1) ≤ V B l) : Cn l := by
 rcases hv with rfl | hv
 ·exact arS
 ·rcases zC l.length with hl | hl
  ·rw [zU.1 hl]; exact arS
  ·unfold Cn
   rw [yR, zJ zb]
   intro h0
   injection h0 with h0
   have h1 := ajX B (l := l) (i := l.length - 1) zb
   rw [h0, show l.length - 1 + 1 = l.length by omega, zu] at h1
   have h2 := adQ hB h (l.length - 1)
   omega
theorem mag_length_le_iff {n k : Nat} : (mag n).length ≤ k ↔ n < 1000000000 ^ k := by
 constructor
 ·intro h
  have h1 := auA (B := 1000000000) zb n
  exact zR h1 (zO zb h)
 ·intro h
  exact af7 zb h
theorem ab3 {m n : Nat} (h : m ≤ n) : (mag m).length ≤ (mag n).length := by
 rw [mag_length_le_iff]
 exact we h (mag_length_le_iff.1 (zj _))
theorem aiF (m n : Nat) : (mag (m + n)).length ≤ max (mag m).length (mag n).length + 1 := by
 rw [mag_length_le_iff]
 have h1 := mag_length_le_iff.1 (Nat.le_max_left (mag m).length (mag n).length)
 have h2 := mag_length_le_iff.1 (Nat.le_max_right (mag m).length (mag n).length)
 rw [yw]
 have := yf (1000000000 ^ max (mag m).length (mag n).length) (show 2 ≤ 1000000000 by omega)
 omega
theorem af5 (m n : Nat) : (mag (m * n)).length ≤ (mag m).length + (mag n).length := by
 rw [mag_length_le_iff, wY]
 have h1 := mag_length_le_iff.1 (zj (mag m).length)
 have h2 := mag_length_le_iff.1 (zj (mag n).length)
 exact Nat.mul_lt_mul'' h1 h2
theorem mag_zero : mag 0 = [] := ad7 _
theorem mag_nil_iff {n : Nat} : mag n = [] ↔ n = 0 := by
 constructor
 ·intro h
  exact agP (h.trans mag_zero.symm)
 ·rintro rfl; exact mag_zero
theorem an0 {d : Nat} (h0 : d ≠ 0) (h1 : d < 1000000000) : mag d = [(d : Int)] := ayM zb h0 h1
theorem al8 {m n : Nat} (h : (mag m).length < (mag n).length) : m < n := by
 have h1 := mag_length_le_iff.1 (zj (mag m).length)
 rcases zv m n with h2 | h2
 ·exact h2
 ·have := ab3 h2; omega
theorem agS {p q : Nat × Nat} (h : (mag p.1, mag p.2, ()) = (mag q.1, mag q.2, ())) : p = q := by
 injection h with h1 h2
 injection h2 with h2 _
 exact Prod.ext (agP h1) (agP h2)
theorem ab2 {n : Nat} (h : n < 10) : aa3 n = [UInt8.ofNat (48 + n)] := by unfold aa3; rw [Lib.decDigits, dif_pos h]
theorem afK {n : Nat} (h : 10 ≤ n) : aa3 n = aa3 (n / 10) ++ [UInt8.ofNat (48 + n % 10)] := by
 unfold aa3; conv => lhs; rw [Lib.decDigits, dif_neg zb]
theorem ahP (n : Nat) : aa3 n ≠ [] := by
 rcases zv n 10 with h | h
 ·rw [ab2 h]; simp
 ·rw [afK h]; simp
theorem aDJ {α : Type} {P : List α → Prop} (nil : P []) (snoc : ∀ l a, P l → P (l ++ [a])) (l : List α) : P l := by
 have H : ∀ m : List α, P m.reverse := by
  intro m
  induction m with
  | nil => exact nil
  | cons a m ih => rw [List.reverse_cons]; exact snoc _ _ ih
 have := H l.reverse
 rwa [List.reverse_reverse] at this
theorem asG {d : Nat} (h : d < 10) : (UInt8.ofNat (48 + d)).toNat = 48 + d := by simp [UInt8.toNat_ofNat]; omega
theorem isD_append {s t : List UInt8} : isD (s ++ t) ↔ isD s ∧ isD t := by
 constructor
 ·intro h
  exact ⟨fun c hc => h c (vo _ hc), fun c hc => h c (List.mem_append_right _ hc)⟩
 ·rintro ⟨h1, h2⟩ c hc
  rcases zG.1 hc with h | h
  ·exact h1 c h
  ·exact h2 c h
theorem aKN {d : Nat} (h : d < 10) : isD [UInt8.ofNat (48 + d)] := by
 intro c hc
 have := yj.1 hc
 subst this
 rw [asG h]; omega
theorem ahE (a : Nat) (c : UInt8) (s : List UInt8) : aCi a (c :: s) = aCi (a * 10 + dv c) s := List.foldl_cons ..
theorem aEr (s t : List UInt8) (a : Nat) : aCi a (s ++ t) = aCi (aCi a s) t := List.foldl_append ..
theorem aNS (s : List UInt8) : ∀ a : Nat, aCi a s = a * 10 ^ s.length + aCi 0 s := by
 induction s with
 | nil => intro a; simp [aCi]
 | cons c s ih =>
  intro a
  rw [ahE, ahE, wQ, zp]
  generalize dv c = x
  rw [ih (a * 10 + x), ih x, zH, yw]
  generalize 10 ^ s.length = y
  rw [ym, yW y 10, wI, ve]
theorem ayL {d : Nat} (h : d < 10) : dv (UInt8.ofNat (48 + d)) = d := by unfold dv; rw [asG h]; omega
theorem aQn (s : List UInt8) (a : Nat) : aCi a s = a * 10 ^ s.length + num s := aNS s a
theorem alC (s t : List UInt8) : num (s ++ t) = num s * 10 ^ t.length + num t := by
 show aCi 0 (s ++ t) = _
 rw [aEr, aQn]
 rfl
theorem aQm {d : Nat} (h : d < 10) : num [UInt8.ofNat (48 + d)] = d := by
 show aCi 0 [_] = d
 rw [ahE, ayL h]; simp [aCi]
theorem alB (s : List UInt8) (c : UInt8) : num (s ++ [c]) = num s * 10 + dv c := by
 rw [alC]; simp [num, aCi]
theorem aCh {s : List UInt8} : isD s → num s < 10 ^ s.length := by
 induction s using aDJ with
 | nil => intro _; simp [num, aCi]
 | snoc s c ih =>
  intro h
  rw [isD_append] at h
  have h1 := ih h.1
  have h2 := h.2 c zh
  have h3 : dv c = c.toNat - 48 := rfl
  rw [alB, zo, yo, yw]
  omega
theorem aoB (n : Nat) : isD (aa3 n) := by
 induction n using Nat.strongRecOn with
 | _ n ih =>
  rcases zv n 10 with h | h
  ·rw [ab2 h]; exact aKN h
  ·rw [afK h, isD_append]
   exact ⟨ih (n / 10) zb, aKN zb⟩
theorem anX (n : Nat) : num (aa3 n) = n := by
 induction n using Nat.strongRecOn with
 | _ n ih =>
  rcases zv n 10 with h | h
  ·rw [ab2 h, aQm h]
  ·rw [afK h, alB, ih (n / 10) zb, ayL zb]
   omega
theorem asE {m n : Nat} (h : aa3 m = aa3 n) : m = n := by rw [← anX m, ← anX n, h]
theorem ahH (n : Nat) : n < 10 ^ (aa3 n).length := by
 have := aCh (aoB n)
 rwa [anX] at this
theorem acF : ∀ {k n : Nat}, n < 10 ^ (k + 1) → (aa3 n).length ≤ k + 1
 | 0, n, h => by rw [ab2 (by simpa using h)]; simp
 | k + 1, n, h => by
  rcases zv n 10 with h9 | h9
  ·rw [ab2 h9]; simp
  ·have := acF (k := k) (n := n / 10) (by rw [yV zb]; rw [yw] at h; exact h)
   rw [afK h9]; simp; omega
theorem afL (n : Nat) : 1 ≤ (aa3 n).length := zM.2 (ahP n)
theorem aaZ {k n : Nat} (hk : 1 ≤ k) : (aa3 n).length ≤ k ↔ n < 10 ^ k := by
 constructor
 ·intro h
  exact zR (ahH n) (zO zb h)
 ·intro h
  obtain ⟨j, rfl⟩ : ∃ j, k = j + 1 := ⟨k - 1, by omega⟩
  exact acF h
theorem al6 {k n : Nat} (h1 : 10 ^ k ≤ n) (h2 : n < 10 ^ (k + 1)) : (aa3 n).length = k + 1 := by
 have h3 := acF h2
 rcases zv k (aa3 n).length with h | h
 ·omega
 ·have := ahH n
  have h4 := zO (n := 10) zb h
  omega
theorem aEg {n : Nat} (hn : n ≠ 0) : 10 ^ ((aa3 n).length - 1) ≤ n := by
 rcases zv n (10 ^ ((aa3 n).length - 1)) with h | h
 ·have h1 := afL n
  rcases zv 1 (aa3 n).length with h2 | h2
  ·have := (aaZ (k := (aa3 n).length - 1) zb).2 h
   omega
  ·have : (aa3 n).length - 1 = 0 := zb
   rw [this] at h; simp at h; omega
 ·exact h
theorem aC0 {s : List UInt8} : isD s → s ≠ [] → (s.head? ≠ some 48 ∨ s.length = 1) → s = aa3 (num s) := by
 induction s using aDJ with
 | nil => intro _ h; exact absurd rfl h
 | snoc s c ih =>
  intro h _ hz
  rw [isD_append] at h
  have h2 := h.2 c zh
  have hdv : dv c = c.toNat - 48 := rfl
  have hc : c = UInt8.ofNat (48 + (c.toNat - 48)) := by
   rw [show 48 + (c.toNat - 48) = c.toNat by omega]; simp
  rw [alB]
  by_cases hs : s = []
  ·subst hs
   simp only [yX]
   rw [show num [] * 10 + dv c = c.toNat - 48 by simp [num, aCi, hdv], ab2 zb, ← hc]
  ·have hz' : s.head? ≠ some 48 := by
    rcases hz with h0 | h0
    ·cases s with
     | nil => exact absurd rfl hs
     | cons a s => simpa using h0
    ·have := zM.2 hs
     rw [zo, yo] at h0; omega
   have h3 := ih h.1 hs (Or.inl hz')
   have h4 : 1 ≤ num s := by
    rcases zC (num s) with h0 | h0
    ·rw [h0, ab2 zb] at h3
     rw [h3] at hz'
     simp at hz'
    ·exact h0
   rw [afK (n := num s * 10 + dv c) zb]
   rw [show (num s * 10 + dv c) / 10 = num s by omega, show (num s * 10 + dv c) % 10 = c.toNat - 48 by omega, ← h3, ← hc]
theorem aLE {n : Nat} (h : n ≠ 0) : (aa3 n).head? ≠ some 48 := by
 induction n using Nat.strongRecOn with
 | _ n ih =>
  rcases zv n 10 with h9 | h9
  ·rw [ab2 h9]
   simp only [vq]
   intro h0
   injection h0 with h0
   have := asG h9
   rw [h0] at this
   simp at this; omega
  ·rw [afK h9]
   have := ih (n / 10) zb zb
   cases hd : aa3 (n / 10) with
   | nil => exact absurd hd (ahP _)
   | cons a l => rw [hd] at this; simpa using this
theorem ajR (n : Nat) : dec (n : Int) = aa3 n := by unfold dec; rw [if_neg zb]; simp
theorem aiG {z : Int} (h : z < 0) : dec z = 45 :: aa3 z.natAbs := by unfold dec; rw [if_pos h]
theorem acK {z : Int} (h : 0 ≤ z) : dec z = aa3 z.natAbs := by unfold dec; rw [if_neg zb]
theorem adX (n : Nat) : (aa3 n).head? ≠ some 45 := by
 cases hd : aa3 n with
 | nil => simp
 | cons a l =>
  have := aoB n a (by rw [hd]; simp)
  simp only [vq]
  intro h
  injection h with h
  rw [h] at this
  simp at this
theorem am4 {a b : Int} (h : dec a = dec b) : a = b := by
 rcases zP a 0 with ha | ha <;> rcases zP b 0 with hb | hb
 ·rw [aiG ha, aiG hb] at h
  injection h with _ h
  have := asE h
  omega
 ·rw [aiG ha, acK hb] at h
  have := adX b.natAbs
  rw [← h] at this
  simp at this
 ·rw [aiG hb, acK ha] at h
  have := adX a.natAbs
  rw [h] at this
  simp at this
 ·rw [acK ha, acK hb] at h
  have := asE h
  omega
theorem afJ (z : Int) : (dec z).length ≤ (aa3 z.natAbs).length + 1 := by unfold dec; split <;> simp
theorem sd {p : Prop} (h : p := by first | omega | ((try simp only [zX, xj, yA, xn, beq_eq_false_iff_ne, bne_eq_false_iff_eq, yh, xz]) <;> (try simp only [aaI, inb, inc, ge_iff_le, gt_iff_lt, zm, asT, ne_eq]) <;> omega) | ((try simp only [zX, xj, yA, xn, beq_eq_false_iff_ne, bne_eq_false_iff_eq, yh, xz]) <;> (try simp only [aaI, inb, inc, ge_iff_le, gt_iff_lt, zm, asT, ne_eq]) <;> (simp (disch := omega) only [aaA, aaM, aa4, acE, aaP, zp, zm, aaI]; omega)) | fail) : p := h
theorem za {α : Type} {x y : TT α} {r : Option α} (k : y.toO = r) (h : x.toO = y.toO := by first | exact uV rfl | exact uB rfl | exact uN sd rfl | exact uT sd rfl | exact uF sd rfl | exact uN (by simp) rfl) : x.toO = r := h.trans k
theorem sn {p : Prop} (h : p := by (try simp only [aaI, inb, inc, ge_iff_le, gt_iff_lt, zm, asT, ne_eq]); omega) : p := h
def atV (k n : Nat) : List UInt8 := List.replicate (k - (aa3 n).length) 48 ++ aa3 n
theorem aNk {r : Nat} (h : r < 10) : atV 1 r = [UInt8.ofNat (48 + r)] := by
 unfold atV; rw [ab2 h]; rfl
theorem aJB {k r : Nat} (hk : 1 ≤ k) : atV (k + 1) r = atV k (r / 10) ++ [UInt8.ofNat (48 + r % 10)] := by
 unfold atV
 rcases zv r 10 with h | h
 ·rw [ab2 h, yQ h, yv h, ab2 (by omega : 0 < 10)]
  obtain ⟨j, rfl⟩ : ∃ j, k = j + 1 := ⟨k - 1, by omega⟩
  have e1 : j + 1 + 1 - [UInt8.ofNat (48 + r)].length = j + 1 := zh
  have e2 : j + 1 - [UInt8.ofNat (48 + 0)].length = j := zh
  rw [e1, e2, vt]
  rfl
 ·rw [afK h, zo, yo, Nat.add_sub_add_right, zY]
theorem ayP {q : Nat} (hq : q ≠ 0) : ∀ {k r : Nat}, 1 ≤ k → r < 10 ^ k → aa3 (q * 10 ^ k + r) = aa3 q ++ atV k r := by
 intro k
 induction k with
 | zero => intro r h; omega
 | succ k ih =>
  intro r _ hr
  have h10 : 10 ≤ q * 10 ^ (k + 1) + r := by
   have h1 : 10 ^ (k + 1) ≤ q * 10 ^ (k + 1) := Nat.le_mul_of_pos_left _ zb
   have h2 : 10 ≤ 10 ^ (k + 1) := by
    have := zO (show 1 ≤ 10 by omega) (show 1 ≤ k + 1 by omega)
    simpa using this
   omega
  rw [afK h10]
  have e1 : q * 10 ^ (k + 1) + r = 10 * (q * 10 ^ k) + r := by rw [yw]; congr 1; rw [← wI, yW]
  have ed : (q * 10 ^ (k + 1) + r) / 10 = q * 10 ^ k + r / 10 := by rw [e1]; omega
  have em : (q * 10 ^ (k + 1) + r) % 10 = r % 10 := by rw [e1]; omega
  rw [ed, em]
  rcases zC k with h | h
  ·subst h
   have hr' : r < 10 := by simpa using hr
   rw [yQ hr', yv hr', aNk hr']
   simp
  ·have hr2 : r / 10 < 10 ^ k := by rw [yV zb]; rw [yw] at hr; exact hr
   rw [ih h hr2, aJB h, zY]
def aFc : List Int → List UInt8
 | [] => []
 | d :: r => match r with
  | [] => aa3 d.toNat
  | _ :: _ => aFc r ++ atV 9 d.toNat
theorem aGw (n : Nat) (hn : n ≠ 0) : aFc (mag n) = aa3 n := by
 induction n using Nat.strongRecOn with
 | _ n ih =>
  unfold mag
  rw [ah6 zb hn]
  by_cases hq : n / 1000000000 = 0
  ·rw [hq, ad7]
   have : n < 1000000000 := by
    rcases zv n 1000000000 with h | h
    ·exact h
    ·have := Nat.div_pos h zb; omega
   simp only [aFc, zm]
   rw [yv this]
  ·have h1 := ih (n / 1000000000) (wM zb zb) hq
   unfold mag at h1
   cases hd : arX 1000000000 (n / 1000000000) with
   | nil => exact absurd hd (am3 zb hq)
   | cons e r =>
    rw [hd] at h1
    simp only [aFc, zm]
    have h2 := ayP hq (k := 9) (r := n % 1000000000) zb (yy _ zb)
    have e : n / 1000000000 * 10 ^ 9 + n % 1000000000 = n := by
     have := Nat.div_add_mod n 1000000000
     omega
    rw [e] at h2
    rw [h2, ← h1]
    rfl
theorem aLV {l : List Int} {k : Nat} (hk : k + 1 = l.length) : aFc (l.drop k) = aa3 (l[k]'zb).toNat := by
 rw [yB zb, List.drop_eq_nil_of_le zb]
 rfl
theorem aIq {l : List Int} {k : Nat} (hk : k + 1 < l.length) : aFc (l.drop k) = aFc (l.drop (k + 1)) ++ atV 9 (l[k]'zb).toNat := by
 rw [yB zb, yB (i := k + 1) hk]
 rfl
theorem aQW {d : Nat} (h : d < 1000000000) : (aa3 d).length ≤ 9 := acF (k := 8) h
theorem aNl {d : Nat} (h : d < 1000000000) : (atV 9 d).length = 9 := by
 have := aQW h
 unfold atV; simp; omega
theorem aAQ : ∀ {l : List Int}, Dg 1000000000 l → (aFc l).length ≤ 9 * l.length
 | [], _ => by simp [aFc]
 | [d], h => by
  have := (aqR h).2
  have := aQW (d := d.toNat) zb
  simp only [aFc, yo]; omega
 | d :: e :: r, h => by
  have h1 := aAQ (anH h)
  have := (aqR h).2
  have h2 := aNl (d := d.toNat) zb
  rw [show aFc (d :: e :: r) = aFc (e :: r) ++ atV 9 d.toNat from rfl, zo]
  simp only [zH] at h1 ⊢
  omega
def Bd (k n : Nat) : Prop := (mag n).length ≤ 1000000 * 4 ^ k
theorem aaG {k j n : Nat} (h : Bd k n) (hk : k ≤ j) : Bd j n := zw h (yf _ (zO zb hk))
theorem asH {k m n : Nat} (h : Bd k n) (hm : m ≤ n) : Bd k m := zw (ab3 hm) h
theorem aaU {k m n : Nat} (h1 : Bd k m) (h2 : Bd k n) : Bd (k + 1) (m * n) := by
 have := af5 m n
 unfold Bd at *
 rw [yw]
 omega
theorem aa1 {k m n : Nat} (h1 : Bd k m) (h2 : Bd k n) : Bd (k + 1) (m + n) := by
 have := aiF m n
 have h3 : 1 ≤ 4 ^ k := wZ zb
 unfold Bd at *
 rw [yw]
 omega
theorem aaL {k m : Nat} (n : Nat) (h1 : Bd k m) : Bd k (m / n) := asH h1 (xp _ _)
theorem aa0 {k m : Nat} (n : Nat) (h1 : Bd k m) : Bd k (m % n) := asH h1 (Nat.mod_le _ _)
theorem aaY {k m n : Nat} (h1 : Bd k m) (h2 : Bd k n) : Bd k (Nat.gcd m n) := by
 rcases zC m with h | h
 ·subst h; rw [Nat.gcd_zero_left]; exact h2
 ·exact asH h1 (Nat.gcd_le_left _ h)
theorem aaC {k : Nat} {a b : Int} (h1 : Bd k a.natAbs) (h2 : Bd k b.natAbs) : Bd (k + 1) (a + b).natAbs := asH (aa1 h1 h2) (wW a b)
theorem aaB {k : Nat} {a b : Int} (h1 : Bd k a.natAbs) (h2 : Bd k b.natAbs) : Bd (k + 1) (a * b).natAbs := by rw [yp]; exact aaU h1 h2
theorem aaT {k : Nat} {a : Int} (h1 : Bd k a.natAbs) : Bd k (-a).natAbs := by rw [wV]; exact h1
theorem aaK {k n : Nat} (h : Bd k n) : Bd k (n : Int).natAbs := h
theorem aaD {n : Nat} (h : n < 1000000000000000000000000000) : Bd 0 n := by
 unfold Bd
 have : (mag n).length ≤ 3 := mag_length_le_iff.2 zb
 omega
theorem zc {p : Prop} (h : p := by repeat (first | assumption | exact aaG (by assumption) (by omega) | exact aaD (by omega) | refine aaY ?_ ?_ | refine aaL _ ?_ | refine aa0 _ ?_ | refine aaC ?_ ?_ | refine aaB ?_ ?_ | refine aaT ?_ | refine aaU ?_ ?_ | refine aa1 ?_ ?_ | refine aaK ?_)) : p := h
theorem al2 {n k : Nat} (h : (aa3 n).length ≤ k) : (mag n).length ≤ k := by
 rw [mag_length_le_iff]
 have h1 := ahH n
 have h2 : (10 : Nat) ^ (aa3 n).length ≤ 10 ^ (9 * k) := zO zb zb
 have h3 : (10 : Nat) ^ (9 * k) = 1000000000 ^ k := by rw [Nat.pow_mul]
 omega
theorem aeV {n k : Nat} (h : (mag n).length ≤ k) : (aa3 n).length ≤ 9 * k + 1 := by
 rw [mag_length_le_iff] at h
 have h3 : (10 : Nat) ^ (9 * k) = 1000000000 ^ k := by rw [Nat.pow_mul]
 have h4 : (10 : Nat) ^ (9 * k) ≤ 10 ^ (9 * k + 1) := zO zb zb
 exact acF zb
theorem aSA {n : Nat} (h : (aa3 n).length ≤ 1000000) : Bd 0 n := al2 h
@[reducible] def sg (z : Int) : List Int × Bool × Unit := (mag z.natAbs, decide (z < 0), ())
theorem aqW {a b : Int} (h : sg a = sg b) : a = b := by
 obtain ⟨h1, h2⟩ := Prod.mk.inj h
 obtain ⟨h2, -⟩ := Prod.mk.inj h2
 have := agP h1
 simp only [decide_eq_decide] at h2
 omega
@[reducible] def rt (q : Rat) : (List Int × Bool × Unit) × List Int × Unit := (sg q.num, mag q.den, ())
theorem axB {a b : Rat} (h : rt a = rt b) : a = b := by
 obtain ⟨h1, h2⟩ := Prod.mk.inj h
 obtain ⟨h2, -⟩ := Prod.mk.inj h2
 exact Rat.ext (aqW h1) (agP h2)
@[reducible] def fx (q : Rat) : List UInt8 × List UInt8 × Unit := (dec q.num, aa3 q.den, ())
theorem aPz {a b : Rat} (h : fx a = fx b) : a = b := by
 obtain ⟨h1, h2⟩ := Prod.mk.inj h
 obtain ⟨h2, -⟩ := Prod.mk.inj h2
 exact Rat.ext (am4 h1) (asE h2)
def Fit (z : Int) : Prop := (aa3 z.natAbs).length ≤ 600
instance (z : Int) : Decidable (Fit z) := inferInstanceAs (Decidable (_ ≤ _))
def aiB (q : Rat) : Prop := Fit q.num ∧ Fit q.den
instance (q : Rat) : Decidable (aiB q) := inferInstanceAs (Decidable (_ ∧ _))
theorem aoF {z : Int} (h : Fit z) : Bd 0 z.natAbs := aSA (zw h zb)
noncomputable def rdW (s : List UInt8) : Option Int := open Classical in if h : ∃ z : Int, Fit z ∧ dec z = s then some h.choose else none
theorem apB {z : Int} (h : Fit z) : rdW (dec z) = some z := by
 have hex : ∃ w : Int, Fit w ∧ dec w = dec z := ⟨z, h, rfl⟩
 unfold rdW
 rw [dif_pos hex, am4 hex.choose_spec.2]
theorem agR {s : List UInt8} {z : Int} (h : rdW s = some z) : Fit z ∧ s = dec z := by
 unfold rdW at h
 split at h
 ·rename_i hex
  injection h with h
  subst h
  exact ⟨hex.choose_spec.1, hex.choose_spec.2.symm⟩
 ·cases h
theorem aM4 {s : List UInt8} (h : ∀ z : Int, Fit z → dec z ≠ s) : rdW s = none := by
 unfold rdW
 rw [dif_neg (fun ⟨z, h1, h2⟩ => h z h1 h2)]
noncomputable def rdF (s : List UInt8 × List UInt8 × Unit) : Option Rat := open Classical in if h : ∃ q : Rat, aiB q ∧ fx q = s then some h.choose else none
theorem ahY {q : Rat} (h : aiB q) : rdF (fx q) = some q := by
 have hex : ∃ w : Rat, aiB w ∧ fx w = fx q := ⟨q, h, rfl⟩
 unfold rdF
 rw [dif_pos hex, aPz hex.choose_spec.2]
theorem ac1 {s : List UInt8 × List UInt8 × Unit} {q : Rat} (h : rdF s = some q) : aiB q ∧ s = fx q := by
 unfold rdF at h
 split at h
 ·rename_i hex
  injection h with h
  subst h
  exact ⟨hex.choose_spec.1, hex.choose_spec.2.symm⟩
 ·cases h
theorem azU {s : List UInt8 × List UInt8 × Unit} (h : ∀ q : Rat, aiB q → fx q ≠ s) : rdF s = none := by
 unfold rdF
 rw [dif_neg (fun ⟨z, h1, h2⟩ => h z h1 h2)]
def wrW (z : Int) : List UInt8 × Int × Unit := if Fit z then (dec z, 0, ()) else ([], 6, ())
def wrF (q : Rat) : (List UInt8 × List UInt8 × Unit) × Int × Unit := if aiB q then (fx q, 0, ()) else (([], [], ()), 6, ())
def acB (x : List UInt8 × List UInt8 × Unit) : Option (List UInt8 × Bool × Unit) := some (if x.2.1.isPrefixOf x.1 then (x.1.drop x.2.1.length, true, ()) else (x.1, false, ()))
theorem aoX (n : Nat) : adR (mag n, ()) = some (decide (n = 0), ()) := by
 unfold adR
 rcases zC n with h | h
 ·subst h; simp [mag_zero, len]
 ·have : (mag n) ≠ [] := fun h2 => by have := mag_nil_iff.1 h2; omega
  have h3 : (mag n).length ≠ 0 := fun h2 => this (zU.1 h2)
  have : (len (mag n) == 0) = false := by rw [aaI, beq_eq_false_iff_ne]; omega
  rw [this, zk zb]
theorem arQ {a b : Nat} (h1 : Bd 8 a) (h2 : Bd 8 b) : aeC (mag a, mag b, ()) = some (awY a b, ()) := aaN (enc := fun p : Nat × Nat => (mag p.1, mag p.2, ())) (a, b) ⟨zw h1 zf, zw h2 zf⟩ (fun b hb => agS hb)
theorem aDr {a b : Nat} (h1 : Bd 8 a) (h2 : Bd 8 b) : ak2 (mag a, mag b, ()) = some (mag (a + b), ()) := aaN (enc := fun p : Nat × Nat => (mag p.1, mag p.2, ())) (a, b) ⟨zw h1 zf, zw h2 zf⟩ (fun b hb => agS hb)
theorem ay7 {a b : Nat} (h1 : Bd 8 a) (h2 : b ≤ a) : ai3 (mag a, mag b, ()) = some (mag (a - b), ()) := aaN (enc := fun p : Nat × Nat => (mag p.1, mag p.2, ())) (a, b) ⟨zw h1 zf, h2⟩ (fun b hb => agS hb)
theorem ag7 {a b : Nat} (h1 : Bd 8 a) (h2 : Bd 8 b) : ac0 (mag a, mag b, ()) = some (mag (a * b), ()) := aaN (enc := fun p : Nat × Nat => (mag p.1, mag p.2, ())) (a, b) ⟨zw h1 zf, zw h2 zf⟩ (fun b hb => agS hb)
theorem ay8 {n : Nat} (h : Bd 8 n) : af0 (aa3 n, ()) = some (mag n, ()) := by
 unfold af0
 have hl : (aa3 n).length ≤ 1000000000000 :=  zw (aeV h) zf
 rw [if_pos ⟨aoB n, ahP n, hl⟩]
 simp only [anX]
theorem awB {n : Nat} (h : Bd 8 n) : ahT (mag n, ()) = some (((aa3 n).length : Int), ()) := aaN (enc := fun n : Nat => (mag n, ())) n (zw h zf) (fun b hb => agP (Prod.mk.inj hb).1)
theorem aj3 {n : Nat} (h : Bd 0 n) : afY (mag n, ()) = some (aa3 n, ()) := aaN (enc := fun n : Nat => (mag n, ())) n (zw h zf) (fun b hb => agP (Prod.mk.inj hb).1)
theorem acS {a b : Nat} (h1 : Bd 8 a) (h2 : Bd 8 b) (h3 : b ≠ 0) : abK (mag a, mag b, ()) = some (mag (a / b), mag (a % b), ()) := aaN (enc := fun p : Nat × Nat => (mag p.1, mag p.2, ())) (a, b) ⟨zw h1 zf, zw h2 zf, h3⟩ (fun b hb => agS hb)
theorem alW {a b : Nat} (h1 : Bd 8 a) (h2 : Bd 8 b) : agW (mag a, mag b, ()) = some (mag (Nat.gcd a b), ()) := aaN (enc := fun p : Nat × Nat => (mag p.1, mag p.2, ())) (a, b) ⟨zw h1 zf, zw h2 zf⟩ (fun b hb => agS hb)
abbrev SgT := List Int × Bool × Unit
abbrev RtT := (List Int × Bool × Unit) × List Int × Unit
abbrev FxT := List UInt8 × List UInt8 × Unit
def BdQ (k : Nat) (q : Rat) : Prop := Bd k q.num.natAbs ∧ Bd k q.den
def aDu (p q : Rat) : Int := if p < q then -1 else if p = q then 0 else 1
def fl (q : Rat) : Int := q.num / q.den
def aj6 (q : Rat) (s : Nat) : Int := fl (q * (s : Rat) + mkRat 1 2)
def ofQ (n d : Int) : FxT × Int × Unit := if d = 0 then (([], [], ()), 7, ()) else wrF (Rat.divInt n d)
def aeI (z : Int) : Prop := -9223372036854775808 ≤ z ∧ z ≤ 9223372036854775807
instance (z : Int) : Decidable (aeI z) := inferInstanceAs (Decidable (_ ∧ _))
def abH (x : List Int × Bool × Unit) : Option (SgT × Unit) := some ((x.1, x.2.1 && !(len x.1 == 0), ()), ())
noncomputable def agX : SgT × Unit → Option (SgT × Unit) := afO (fun x : Int => (sg x, ())) (fun x => Bd 8 x.natAbs) (fun x => (sg (-x), ()))
noncomputable def ai4 : SgT × Unit → Option (Int × Unit) := afO (fun x : Int => (sg x, ())) (fun x => Bd 8 x.natAbs) (fun x => (x.sign, ()))
noncomputable def alT : SgT × SgT × Unit → Option (SgT × Unit) := afO (fun x : Int × Int => (sg x.1, sg x.2, ())) (fun x => Bd 7 x.1.natAbs ∧ Bd 7 x.2.natAbs) (fun x => (sg (x.1 + x.2), ()))
noncomputable def arO : SgT × SgT × Unit → Option (SgT × Unit) := afO (fun x : Int × Int => (sg x.1, sg x.2, ())) (fun x => Bd 7 x.1.natAbs ∧ Bd 7 x.2.natAbs) (fun x => (sg (x.1 * x.2), ()))
noncomputable def aoS : SgT × Unit → Option (List UInt8 × Unit) := afO (fun x : Int => (sg x, ())) (fun x => Bd 0 x.natAbs) (fun x => (dec x, ()))
noncomputable def aeD : SgT × List Int × Unit → Option (SgT × Unit) := afO (fun x : Int × Nat => (sg x.1, mag x.2, ())) (fun x => Bd 7 x.1.natAbs ∧ Bd 7 x.2) (fun x => (sg (x.1 * x.2), ()))
noncomputable def alU : SgT × List Int × Unit → Option (SgT × Unit) := afO (fun x : Int × Nat => (sg x.1, mag x.2, ())) (fun x => Bd 7 x.1.natAbs ∧ Bd 7 x.2 ∧ x.2 ≠ 0) (fun x => (sg (x.1 / x.2), ()))
noncomputable def afZ : List UInt8 × Unit → Option (SgT × Unit) := afO (fun x : Int => (dec x, ())) (fun x => Bd 7 x.natAbs) (fun x => (sg x, ()))
noncomputable def ajY (x : List UInt8 × Unit) : Option (SgT × Bool × Unit) := some (match rdW x.1 with | some z => (sg z, true, ()) | none => (([], false, ()), false, ()))
noncomputable def agK (x : List UInt8 × Unit) : Option (Int × Unit) := some (if (rdW x.1).isSome then 0 else 10, ())
noncomputable def asK (x : List UInt8 × List UInt8 × Unit) : Option (SgT × SgT × Int × Unit) := some (match rdW x.1, rdW x.2.1 with | some z, some w => (sg z, sg w, 0, ()) | _, _ => (([], false, ()), ([], false, ()), 10, ()))
noncomputable def aDl : SgT × Unit → Option (List UInt8 × Int × Unit) := afO (fun x : Int => (sg x, ())) (fun x => Bd 8 x.natAbs) (fun x => wrW x)
noncomputable def afX : RtT × Unit → Option (FxT × Int × Unit) := afO (fun x : Rat => (rt x, ())) (fun x => BdQ 8 x) (fun x => wrF x)
noncomputable def aj2 : SgT × List Int × Unit → Option (RtT × Unit) := afO (fun x : Int × Nat => (sg x.1, mag x.2, ())) (fun x => Bd 7 x.1.natAbs ∧ Bd 7 x.2 ∧ x.2 ≠ 0) (fun x => (rt (mkRat x.1 x.2), ()))
noncomputable def arP : RtT × Unit → Option (RtT × Unit) := afO (fun x : Rat => (rt x, ())) (fun x => BdQ 7 x) (fun x => (rt (-x), ()))
noncomputable def ah9 : RtT × Unit → Option (RtT × Unit) := afO (fun x : Rat => (rt x, ())) (fun x => BdQ 7 x ∧ x ≠ 0) (fun x => (rt x⁻¹, ()))
noncomputable def aoR : RtT × RtT × Unit → Option (RtT × Unit) := afO (fun x : Rat × Rat => (rt x.1, rt x.2, ())) (fun x => BdQ 3 x.1 ∧ BdQ 3 x.2) (fun x => (rt (x.1 + x.2), ()))
noncomputable def aOI : RtT × RtT × Unit → Option (RtT × Unit) := afO (fun x : Rat × Rat => (rt x.1, rt x.2, ())) (fun x => BdQ 3 x.1 ∧ BdQ 3 x.2) (fun x => (rt (x.1 - x.2), ()))
noncomputable def aoQ : RtT × RtT × Unit → Option (RtT × Unit) := afO (fun x : Rat × Rat => (rt x.1, rt x.2, ())) (fun x => BdQ 3 x.1 ∧ BdQ 3 x.2) (fun x => (rt (x.1 * x.2), ()))
noncomputable def alR : RtT × RtT × Unit → Option (Int × Unit) := afO (fun x : Rat × Rat => (rt x.1, rt x.2, ())) (fun x => BdQ 3 x.1 ∧ BdQ 3 x.2) (fun x => (aDu x.1 x.2, ()))
noncomputable def aoP : RtT × List Int × Unit → Option (SgT × Unit) := afO (fun x : Rat × Nat => (rt x.1, mag x.2, ())) (fun x => BdQ 1 x.1 ∧ Bd 1 x.2) (fun x => (sg (aj6 x.1 x.2), ()))
noncomputable def acV (x : FxT × Unit) : Option (RtT × Bool × Unit) := some (match rdF x.1 with | some q => (rt q, true, ()) | none => ((([], false, ()), [], ()), false, ()))
noncomputable def adS (x : FxT × Unit) : Option (Int × Unit) := some (if (rdF x.1).isSome then 0 else 20, ())
noncomputable def aoU (x : List UInt8 × List UInt8 × Unit) : Option (FxT × Int × Unit) := some (match rdW x.1, rdW x.2.1 with | some n, some d => ofQ n d | _, _ => (([], [], ()), 10, ()))
noncomputable def aoT (x : Int × Int × Unit) : Option (FxT × Int × Unit) := if aeI x.1 ∧ aeI x.2.1 then some (ofQ x.1 x.2.1) else none
noncomputable def agY (x : FxT × Unit) : Option (Int × Int × Unit) := some (match rdF x.1 with | some q => (q.num.sign, 0, ()) | none => (0, 20, ()))
noncomputable def ae4 (x : FxT × FxT × Unit) : Option (Int × Int × Unit) := some (match rdF x.1, rdF x.2.1 with | some p, some q => (aDu p q, 0, ()) | _, _ => (0, 20, ()))
noncomputable def aPs (f : Rat → Rat → Rat) (x : FxT × FxT × Unit) : FxT × Int × Unit := match rdF x.1, rdF x.2.1 with | some p, some q => wrF (f p q) | _, _ => (([], [], ()), 20, ())
noncomputable def aiJ (x : FxT × FxT × Unit) : Option (FxT × Int × Unit) := some (aPs (· + ·) x)
noncomputable def af1 (x : FxT × FxT × Unit) : Option (FxT × Int × Unit) := some (aPs (· * ·) x)
noncomputable def aiI (x : FxT × FxT × Unit) : Option (FxT × Int × Unit) := some (match rdF x.1, rdF x.2.1 with | some p, some q => if q = 0 then (([], [], ()), 7, ()) else wrF (p / q) | _, _ => (([], [], ()), 20, ()))
noncomputable def av1 (x : Int × Unit) : Option (List UInt8 × Unit) := if aeI x.1 then some (dec x.1, ()) else none
noncomputable def aMb (x : List UInt8 × List UInt8 × Unit) : Option (List UInt8 × Int × Unit) := some (match rdW x.1, rdW x.2.1 with | some z, some w => wrW (z * w) | _, _ => ([], 10, ()))
theorem aN3 (z : Int) : Lib.itoa z = dec z := by
 unfold Lib.itoa dec aa3
 by_cases hz : z < 0
 ·rw [if_pos hz, if_pos hz]
 ·rw [if_neg hz, if_neg hz]
  congr 1
  omega
theorem as6 (s : List UInt8) : ∀ n, Lib.repeatL s n = (List.replicate n s).flatten
 | 0 => rfl
 | n + 1 => by rw [Lib.repeatL, as6 s n, xe, wj]
theorem aOX {q : Rat} {n : Int} {D : Nat} (nz : D ≠ 0) (c : n.natAbs.Coprime D) (h : q = mkRat n D) : q.num = n ∧ q.den = D := by
 rw [h, ← Rat.mk_eq_mkRat n D nz c]; exact ⟨rfl, rfl⟩
theorem aIe {a b : Nat} (h : ∀ k, k ∣ a → k ∣ b → k = 1) : a.Coprime b := h _ (xV a b) (xO a b)
theorem aLG {n1 n2 : Int} {b' d' b : Nat} (h1 : n1.natAbs.Coprime b) (hb : b' ∣ b) (h3 : b'.Coprime d') : (n1 * d' + n2 * b').natAbs.Coprime b' := by
 refine aIe fun k hk hkb => ?_
 have e1 : (k : Int) ∣ n1 * d' + n2 * b' := xA.2 hk
 have e2 : (k : Int) ∣ n2 * b' := Int.dvd_trans (Int.natCast_dvd_natCast.2 hkb) (Int.dvd_mul_left _ _)
 have e3 : (k : Int) ∣ n1 * d' := by
  have := Int.dvd_sub e1 e2
  rwa [Int.add_sub_cancel] at this
 have e4 : k ∣ n1.natAbs * d' := by
  have := xA.1 e3
  rwa [yp] at this
 have e5 : k.Coprime d' := Nat.Coprime.coprime_dvd_left hkb h3
 have e6 := Nat.Coprime.dvd_of_dvd_mul_right e5 e4
 exact Nat.Coprime.eq_one_of_dvd (Nat.Coprime.coprime_dvd_left e6 h1) (Nat.dvd_trans hkb hb)
theorem aDg (p q : Rat) : ∃ g h : Nat, ∃ top t : Int, g = Nat.gcd p.den q.den ∧ top = p.num * (q.den / g : Nat) + q.num * (p.den / g : Nat) ∧ h = Nat.gcd top.natAbs g ∧ g ≠ 0 ∧ h ≠ 0 ∧ top = h * t ∧ (p + q).num = t ∧ (p + q).den = (p.den / g) * (q.den / h) := by
 obtain ⟨g, hg⟩ : ∃ g, g = Nat.gcd p.den q.den := ⟨_, rfl⟩
 have g0 : 0 < g := by rw [hg]; exact Nat.gcd_pos_of_pos_left _ p.den_pos
 obtain ⟨b', hb⟩ : g ∣ p.den := hg ▸ xV _ _
 obtain ⟨d', hd⟩ : g ∣ q.den := hg ▸ xO _ _
 have hb' : p.den / g = b' := by rw [hb, yn _ g0]
 have hd' : q.den / g = d' := by rw [hd, yn _ g0]
 have hbd : b'.Coprime d' := by
  have := xB (m := p.den) (n := q.den) (by rw [← hg]; exact g0)
  rwa [← hg, hb', hd'] at this
 obtain ⟨top, ht⟩ : ∃ top : Int, top = p.num * (q.den / g : Nat) + q.num * (p.den / g : Nat) := ⟨_, rfl⟩
 obtain ⟨h, hh⟩ : ∃ h, h = Nat.gcd top.natAbs g := ⟨_, rfl⟩
 have h0 : 0 < h := by rw [hh]; exact xW _ g0
 obtain ⟨t, htt⟩ : (h : Int) ∣ top := xA.2 (hh ▸ xV _ _)
 obtain ⟨g', hg'⟩ : h ∣ g := hh ▸ xO _ _
 have c1 : top.natAbs.Coprime b' := by rw [ht, hb', hd']; exact aLG p.reduced ⟨g, by rw [hb, yW]⟩ hbd
 have c2 : top.natAbs.Coprime d' := by rw [ht, hb', hd', Int.add_comm]; exact aLG q.reduced ⟨g, by rw [hd, yW]⟩ hbd.symm
 have c3 : t.natAbs.Coprime g' := by
  have := xB (m := top.natAbs) (n := g) (by rw [← hh]; exact h0)
  rw [← hh, htt, yp, yc, yn _ h0] at this
  conv at this => rhs; rw [hg']
  rwa [yn _ h0] at this
 have ct : t.natAbs ∣ top.natAbs := by rw [htt, yp]; exact Nat.dvd_mul_left _ _
 have e : q.den / h = g' * d' := by rw [hd, hg', wI, yn _ h0]
 have hc : t.natAbs.Coprime (b' * (g' * d')) := Nat.Coprime.mul_right (Nat.Coprime.coprime_dvd_left ct c1) (Nat.Coprime.mul_right c3 (Nat.Coprime.coprime_dvd_left ct c2))
 have nb : b' ≠ 0 := by rintro rfl; exact p.den_nz (by rw [hb]; simp)
 have nd : d' ≠ 0 := by rintro rfl; exact q.den_nz (by rw [hd]; simp)
 have ng : g' ≠ 0 := by rintro rfl; simp at hg'; omega
 have nz : b' * (g' * d') ≠ 0 := yP nb (yP ng nd)
 have hv : p + q = mkRat t (b' * (g' * d')) := by
  rw [Rat.add_def', Rat.mkRat_eq_iff (yP p.den_nz q.den_nz) nz, hb, hd]
  rw [hb', hd', htt] at ht
  simp only [yH]
  have hgz : (g : Int) = h * g' := by rw [hg']; simp
  have e1 : (p.num * ((g : Int) * d') + q.num * ((g : Int) * b')) = (g : Int) * (h * t) := by rw [ht]; grind
  rw [e1, hgz]
  grind
 obtain ⟨r1, r2⟩ := aOX nz hc hv
 exact ⟨g, h, top, t, hg, ht, hh, by omega, by omega, htt, r1, by rw [r2, hb', e]⟩
theorem aCl (p q : Rat) : ∃ g h : Nat, ∃ s t : Int, g = Nat.gcd p.num.natAbs q.den ∧ h = Nat.gcd q.num.natAbs p.den ∧ g ≠ 0 ∧ h ≠ 0 ∧ p.num = g * s ∧ q.num = h * t ∧ (p * q).num = s * t ∧ (p * q).den = (p.den / h) * (q.den / g) := by
 obtain ⟨g, hg⟩ : ∃ g, g = Nat.gcd p.num.natAbs q.den := ⟨_, rfl⟩
 obtain ⟨h, hh⟩ : ∃ h, h = Nat.gcd q.num.natAbs p.den := ⟨_, rfl⟩
 have g0 : 0 < g := by rw [hg]; exact xW _ q.den_pos
 have h0 : 0 < h := by rw [hh]; exact xW _ p.den_pos
 obtain ⟨s, hs⟩ : (g : Int) ∣ p.num := xA.2 (hg ▸ xV _ _)
 obtain ⟨t, ht⟩ : (h : Int) ∣ q.num := xA.2 (hh ▸ xV _ _)
 obtain ⟨d', hd⟩ : g ∣ q.den := hg ▸ xO _ _
 obtain ⟨b', hb⟩ : h ∣ p.den := hh ▸ xO _ _
 have hb' : p.den / h = b' := by rw [hb, yn _ h0]
 have hd' : q.den / g = d' := by rw [hd, yn _ g0]
 have as1 : p.num.natAbs / g = s.natAbs := by rw [hs, yp, yc, yn _ g0]
 have at' : q.num.natAbs / h = t.natAbs := by rw [ht, yp, yc, yn _ h0]
 have ds : s.natAbs ∣ p.num.natAbs := by rw [hs, yp]; exact Nat.dvd_mul_left _ _
 have dt : t.natAbs ∣ q.num.natAbs := by rw [ht, yp]; exact Nat.dvd_mul_left _ _
 have db : b' ∣ p.den := ⟨h, by rw [hb, yW]⟩
 have dd : d' ∣ q.den := ⟨g, by rw [hd, yW]⟩
 have c1 : s.natAbs.Coprime b' := Nat.Coprime.coprime_dvd_left ds (Nat.Coprime.coprime_dvd_right db p.reduced)
 have c2 : s.natAbs.Coprime d' := by
  have := xB (m := p.num.natAbs) (n := q.den) (by rw [← hg]; exact g0)
  rwa [← hg, as1, hd'] at this
 have c3 : t.natAbs.Coprime d' := Nat.Coprime.coprime_dvd_left dt (Nat.Coprime.coprime_dvd_right dd q.reduced)
 have c4 : t.natAbs.Coprime b' := by
  have := xB (m := q.num.natAbs) (n := p.den) (by rw [← hh]; exact h0)
  rwa [← hh, at', hb'] at this
 have hc : (s * t).natAbs.Coprime (b' * d') := by
  rw [yp]
  exact Nat.Coprime.mul_left (Nat.Coprime.mul_right c1 c2) (Nat.Coprime.mul_right c4 c3)
 have nb : b' ≠ 0 := by rintro rfl; exact p.den_nz (by rw [hb]; simp)
 have nd : d' ≠ 0 := by rintro rfl; exact q.den_nz (by rw [hd]; simp)
 have nz : b' * d' ≠ 0 := yP nb nd
 have hv : p * q = mkRat (s * t) (b' * d') := by
  rw [Rat.mul_def', Rat.mkRat_eq_iff (yP p.den_nz q.den_nz) nz, hs, ht]
  conv => lhs; rw [yH]
  rw [hb, hd]
  simp only [yH]
  grind
 obtain ⟨r1, r2⟩ := aOX nz hc hv
 exact ⟨g, h, s, t, hg, hh, by omega, by omega, hs, ht, r1, by rw [r2, hb', hd']⟩
theorem ae1 (n : Int) {d : Nat} (hd : d ≠ 0) : ∃ g : Nat, ∃ t : Int, g = Nat.gcd n.natAbs d ∧ g ≠ 0 ∧ n = g * t ∧ (mkRat n d).num = t ∧ (mkRat n d).den = d / g := by
 obtain ⟨g, hg⟩ : ∃ g, g = Nat.gcd n.natAbs d := ⟨_, rfl⟩
 have g0 : 0 < g := by rw [hg]; exact xW _ zb
 obtain ⟨t, ht⟩ : (g : Int) ∣ n := xA.2 (hg ▸ xV _ _)
 refine ⟨g, t, hg, by omega, ht, ?_, ?_⟩
 ·rw [Rat.num_mkRat, if_neg hd, xX, ← hg, ht, Int.mul_ediv_cancel_left _ zb]
 ·rw [Rat.den_mkRat, if_neg hd, xX, ← hg]
theorem aOg (n : Int) {d : Nat} (hd : d ≠ 0) : fl (mkRat n d) = n / d := by
 obtain ⟨g, t, hg, g0, hn, h1, h2⟩ := ae1 n hd
 obtain ⟨d', hd'⟩ : g ∣ d := hg ▸ xO _ _
 have : d / g = d' := by rw [hd', yn _ zb]
 unfold fl
 rw [h1, h2, this, hn, hd', yH, Int.mul_ediv_mul_of_pos _ _ zb]
theorem aEs (q : Rat) (s : Nat) : aj6 q s = (q.num * (s * 2 : Nat) + q.den) / (q.den * 2 : Nat) := by
 unfold aj6
 have h1 : (s : Rat) = mkRat s 1 := by
  have := Rat.mkRat_self (s : Rat)
  rw [Rat.num_natCast, Rat.den_natCast] at this
  exact this.symm
 have h2 : q * (s : Rat) + mkRat 1 2 = mkRat (q.num * (s * 2 : Nat) + q.den) (q.den * 2) := by
  conv => lhs; rw [h1, ← Rat.mkRat_self q]
  rw [Rat.mkRat_mul_mkRat, Rat.mkRat_add_mkRat _ _ (by have := q.den_nz; omega) zb, wX, Int.one_mul]
  congr 1
  simp only [yH]
  grind
 rw [h2, aOg _ (yP q.den_nz zb)]
theorem aEj (p q : Rat) : aDu p q = (p.num * q.den + -(q.num * p.den)).sign := by
 unfold aDu
 simp only [Rat.lt_iff, Rat.eq_iff_mul_eq_mul]
 split
 ·rename_i h; exact (xc zb).symm
 ·split
  ·rename_i h; rw [h, Int.add_right_neg]; rfl
  ·exact (xl zb).symm
theorem aOW (a b : List UInt8) : rdF (a, b, ()) = match rdW a, rdW b with
  | some n, some d => if h : 0 < d ∧ n.natAbs.Coprime d.natAbs then some ⟨n, d.natAbs, by omega, h.2⟩ else none
  | _, _ => none := by
 cases ha : rdW a with
 | none =>
  refine azU fun q hq he => ?_
  obtain ⟨h1, -⟩ := Prod.mk.inj he
  rw [← h1, apB hq.1] at ha
  cases ha
 | some n =>
  obtain ⟨fa, rfl⟩ := agR ha
  cases hb : rdW b with
  | none =>
   refine azU fun q hq he => ?_
   obtain ⟨-, h1⟩ := Prod.mk.inj he
   obtain ⟨h1, -⟩ := Prod.mk.inj h1
   rw [← h1, ← ajR, apB hq.2] at hb
   cases hb
  | some d =>
   obtain ⟨fb, rfl⟩ := agR hb
   simp only
   split
   ·rename_i h
    have e : (dec n, dec d, ()) = fx ⟨n, d.natAbs, by omega, h.2⟩ := by
     unfold fx
     rw [acK (z := d) zb]
    rw [e, ahY ⟨fa, ?_⟩]
    unfold Fit at *
    simpa using fb
   ·rename_i h
    refine azU fun q hq he => h ?_
    obtain ⟨h1, h2⟩ := Prod.mk.inj he
    obtain ⟨h2, -⟩ := Prod.mk.inj h2
    have e1 := am4 h1
    have e2 : (q.den : Int) = d := am4 (by rw [ajR]; exact h2)
    rw [← e1, ← e2]
    exact ⟨by have := q.den_pos; omega, q.reduced⟩
abbrev BdT := Int × Int × Unit
def okB (lo hi : Int) : Prop := -1000000000000000000 ≤ lo ∧ lo ≤ hi ∧ hi ≤ 1000000000000000000
instance (lo hi : Int) : Decidable (okB lo hi) := inferInstanceAs (Decidable (_ ∧ _))
def mkB (e lo hi : Int) : BdT × Int × Unit := if okB lo hi then ((lo, hi, ()), 0, ()) else ((0, 0, ()), e, ())
def aSU (a b : BdT) : BdT × Int × Unit := if okB a.1 a.2.1 ∧ okB b.1 b.2.1 then mkB 6 (a.1 + b.1) (a.2.1 + b.2.1) else ((0, 0, ()), 30, ())
def okE (p q : Int) : Prop := 1 ≤ p ∧ p ≤ 36 ∧ 1 ≤ q ∧ q ≤ 12
instance (p q : Int) : Decidable (okE p q) := inferInstanceAs (Decidable (_ ∧ _))
abbrev aL9 := Int × Int × Int × Int × Int × Int × Unit
abbrev CvT := Int × List Int × List aL9 × Unit
def inR (n a b : Int) : Prop := a ≤ n ∧ n ≤ b
instance (n a b : Int) : Decidable (inR n a b) := inferInstanceAs (Decidable (_ ∧ _))
def aPt (s : aL9) : Prop := inR s.2.1 (-100000000) 100000000 ∧ inR s.2.2.1 (-100000000) 100000000 ∧ inR s.2.2.2.2.2.1 (-100000000) 100000000 ∧ inR s.2.2.2.1 1 36 ∧ inR s.2.2.2.2.1 1 12 ∧ Nat.gcd s.2.2.2.1.natAbs s.2.2.2.2.1.natAbs = 1
instance (s : aL9) : Decidable (aPt s) := inferInstanceAs (Decidable (_ ∧ _))
def aP2 (last : Int) (s : aL9) : Prop := aPt s ∧ inR s.1 (last + 1) 1000000
instance (last : Int) (s : aL9) : Decidable (aP2 last s) := inferInstanceAs (Decidable (_ ∧ _))
def aFA : Int → List aL9 → Prop
 | last, [] => last = 1000000
 | last, s :: r => aP2 last s ∧ aFA s.1 r
def aI1 : (last : Int) → (l : List aL9) → Decidable (aFA last l)
 | last, [] => inferInstanceAs (Decidable (last = 1000000))
 | last, s :: r => @instDecidableAnd _ _ (inferInstanceAs (Decidable (aP2 last s))) (aI1 s.1 r)
instance (last : Int) (l : List aL9) : Decidable (aFA last l) := aI1 last l
def aRq (l : List Int) : Prop := 2 ≤ l.length ∧ l.length ≤ 17 ∧ ∀ v ∈ l, inR v 0 65535
instance (l : List Int) : Decidable (aRq l) := inferInstanceAs (Decidable (_ ∧ _ ∧ _))
def aOS (l : List aL9) : Prop := 1 ≤ l.length ∧ l.length ≤ 4 ∧ aFA 0 l
instance (l : List aL9) : Decidable (aOS l) := inferInstanceAs (Decidable (_ ∧ _ ∧ _))
def aOV (c : CvT) : Prop := (c.1 = 1 ∧ c.2.1 = [] ∧ c.2.2.1 = []) ∨ (c.1 = 2 ∧ aRq c.2.1 ∧ c.2.2.1 = []) ∨ (c.1 = 3 ∧ c.2.1 = [] ∧ aOS c.2.2.1)
instance (c : CvT) : Decidable (aOV c) := inferInstanceAs (Decidable (_ ∨ _ ∨ _))
noncomputable def eqb {α : Type} (a b : α) : Bool := open Classical in if a = b then true else false
theorem asD {α : Type} {a b : α} (h : a = b) : eqb a b = true := if_pos h
theorem agI {α : Type} {a b : α} (h : ¬ a = b) : eqb a b = false := if_neg h
def aAY (x : Int × Int × Unit) : Option (FxT × Unit) := if aeI x.1 ∧ aeI x.2.1 then some ((ofQ x.1 x.2.1).1, ()) else none
def av3 (x : Int × Unit) : Option (FxT × Unit) := if aeI x.1 then some (fx (mkRat x.1 1), ()) else none
def aSr (q : Rat) : Rat := if q < 0 then 0 else if q > 1 then 1 else q
def aSm (c : CvT) : Prop := aOV c ∧ ∀ s ∈ c.2.2.1, s.2.2.2.2.1 = 1
instance (c : CvT) : Decidable (aSm c) := inferInstanceAs (Decidable (_ ∧ _))
def dig (n : Nat) : List Int := arX 10000 n
theorem adW (n : Nat) : Dg 10000 (dig n) := aE0 (B := 10000) zb n
theorem aGp (n : Nat) : Cn (dig n) := aLw (B := 10000) zb n
theorem ahS (n : Nat) : V 10000 (dig n) = n := aDj (B := 10000) zb n
theorem avA {m n : Nat} (h : dig m = dig n) : m = n := aGo (B := 10000) zb h
theorem aAE {l : List Int} {n : Nat} (h1 : Dg 10000 l) (h2 : Cn l) (h3 : V 10000 l = n) : l = dig n := au9 (B := 10000) zb h1 h2 h3
theorem dig_length_le_iff {n k : Nat} : (dig n).length ≤ k ↔ n < 10000 ^ k := by
 constructor
 ·intro h
  have h1 := auA (B := 10000) zb n
  exact zR h1 (zO zb h)
 ·intro h
  exact af7 zb h
theorem acQ {m n : Nat} (h : m ≤ n) : (dig m).length ≤ (dig n).length := by
 rw [dig_length_le_iff]
 exact we h (dig_length_le_iff.1 (zj _))
theorem dig_zero : dig 0 = [] := ad7 _
theorem dig_nil_iff {n : Nat} : dig n = [] ↔ n = 0 := by
 constructor
 ·intro h
  exact avA (h.trans dig_zero.symm)
 ·rintro rfl; exact dig_zero
theorem aLx {d : Nat} (h0 : d ≠ 0) (h1 : d < 10000) : dig d = [(d : Int)] := ayM zb h0 h1
theorem al5 {m n : Nat} (h : (dig m).length < (dig n).length) : m < n := by
 rcases zv m n with h2 | h2
 ·exact h2
 ·have := acQ h2; omega
theorem ayO {n k : Nat} (h : (mag n).length ≤ k) : (dig n).length ≤ 3 * k := by
 rw [mag_length_le_iff] at h
 rw [dig_length_le_iff, Nat.pow_mul]
 exact zR h (Nat.pow_le_pow_left zb _)
theorem avU {k n : Nat} (h : Bd k n) (hk : k ≤ 8) : (dig n).length ≤ 200000000000 := by
 have h1 : Bd 8 n := aaG h hk
 have h2 := ayO (k := 1000000 * 4 ^ 8) h1
 omega
@[reducible] def pl (z : Int) : Bool × List Int × Unit := (decide (z < 0), dig z.natAbs, ())
theorem aq2 {a b : Int} (h : pl a = pl b) : a = b := by
 obtain ⟨h1, h2⟩ := Prod.mk.inj h
 obtain ⟨h2, -⟩ := Prod.mk.inj h2
 have := avA h2
 simp only [decide_eq_decide] at h1
 omega
abbrev PlT := Bool × List Int × Unit
abbrev RaT := PlT × PlT × Unit
@[reducible] def ra (q : Rat) : RaT := (pl q.num, pl q.den, ())
theorem aBz {a b : Rat} (h : ra a = ra b) : a = b := by
 obtain ⟨h1, h2⟩ := Prod.mk.inj h
 obtain ⟨h2, -⟩ := Prod.mk.inj h2
 have := aq2 h2
 exact Rat.ext (aq2 h1) zb
def aMM (a b : List Int) : Nat → Int
 | 0 => 0
 | k + 1 => if a.getD k 0 ≠ b.getD k 0 then a.getD k 0 - b.getD k 0 else aMM a b k
def aPq (a b : List Int) : Int := if a.length ≠ b.length then (a.length : Int) - b.length else aMM a b a.length
open Classical in
noncomputable def adE (x : List Int × Unit) : Option (List Int × Unit) := if Dg 10000 x.1 ∧ x.1.length ≤ 1000000000000 then some (dig (V 10000 x.1).toNat, ()) else none
open Classical in
noncomputable def abO (x : Bool × List Int × Unit) : Option (PlT × Unit) := if Dg 10000 x.2.1 ∧ x.2.1.length ≤ 1000000000000 then some ((x.1 && decide (V 10000 x.2.1 ≠ 0), dig (V 10000 x.2.1).toNat, ()), ()) else none
noncomputable def afW (x : List UInt8 × Unit) : Option (Bool × Unit) := if x.1.length ≤ 1000000000000 then some ((rdW x.1).isSome, ()) else none
noncomputable def anC : List UInt8 × Unit → Option (PlT × Unit) := afO (fun z : Int => (dec z, ())) (fun z => Fit z) (fun z => (pl z, ()))
noncomputable def abU (x : Int × Unit) : Option (PlT × Unit) := if aeI x.1 then some (pl x.1, ()) else none
def awU (n : Nat) : List UInt8 := [UInt8.ofNat (48 + n / 1000), UInt8.ofNat (48 + n / 100 % 10), UInt8.ofNat (48 + n / 10 % 10), UInt8.ofNat (48 + n % 10)]
noncomputable def aoO : Int × Unit → Option (List UInt8 × Unit) := afO (fun n : Nat => ((n : Int), ())) (fun n => n < 10000) (fun n => (awU n, ()))
noncomputable def ai0 : PlT × Unit → Option (List UInt8 × Unit) := afO (fun z : Int => (pl z, ())) (fun z => Bd 6 z.natAbs) (fun z => (dec z, ()))
noncomputable def aj1 : PlT × Unit → Option (List UInt8 × Int × Unit) := afO (fun z : Int => (pl z, ())) (fun z => Bd 6 z.natAbs) (fun z => wrW z)
noncomputable def afV (x : List Int × List Int × Unit) : Option (Int × Unit) := open Classical in if Dg 10000 x.1 ∧ Dg 10000 x.2.1 ∧ x.1.length ≤ 1000000000000 ∧ x.2.1.length ≤ 1000000000000 then some (aPq x.1 x.2.1, ()) else none
noncomputable def asL : List Int × List Int × Unit → Option (List Int × Unit) := afO (fun p : Nat × Nat => (dig p.1, dig p.2, ())) (fun p => (dig p.1).length ≤ 1000000000000 ∧ (dig p.2).length ≤ 1000000000000) (fun p => (dig (p.1 + p.2), ()))
open Classical in
noncomputable def abJ (x : List Int × List Int × Unit) : Option (List Int × Unit) := if Dg 10000 x.1 ∧ Dg 10000 x.2.1 ∧ x.1.length ≤ 1000000000000 ∧ x.2.1.length ≤ x.1.length ∧ V 10000 x.2.1 ≤ V 10000 x.1 then some (dig (V 10000 x.1 - V 10000 x.2.1).toNat, ()) else none
open Classical in
noncomputable def ab5 (x : List Int × List Int × Unit) : Option (List Int × Unit) := if Dg 10000 x.1 ∧ (Dg 10000 x.2.1 ∨ x.2.1 = [10000]) ∧ x.1.length ≤ 400000000000 ∧ x.2.1.length ≤ 400000000000 then some (dig (V 10000 x.1 * V 10000 x.2.1).toNat, ()) else none
noncomputable def aoN : List Int × Int × Unit → Option (List Int × Int × Unit) := afO (fun p : Nat × Nat => (dig p.1, (p.2 : Int), ())) (fun p => (dig p.1).length ≤ 1000000000000 ∧ 0 < p.2 ∧ p.2 < 10000) (fun p => (dig (p.1 / p.2), ((p.1 % p.2 : Nat) : Int), ()))
noncomputable def aiY : List Int × List Int × Unit → Option (List Int × List Int × Unit) := afO (fun p : Nat × Nat => (dig p.1, dig p.2, ())) (fun p => (dig p.1).length ≤ 200000000000 ∧ (dig p.2).length ≤ 200000000000 ∧ p.2 ≠ 0) (fun p => (dig (p.1 / p.2), dig (p.1 % p.2), ()))
noncomputable def aiZ : PlT × Unit → Option (PlT × Unit) := afO (fun z : Int => (pl z, ())) (fun z => Bd 8 z.natAbs) (fun z => (pl (-z), ()))
noncomputable def agN : PlT × PlT × Unit → Option (PlT × Unit) := afO (fun p : Int × Int => (pl p.1, pl p.2, ())) (fun p => Bd 7 p.1.natAbs ∧ Bd 7 p.2.natAbs) (fun p => (pl (p.1 + p.2), ()))
noncomputable def ai1 : PlT × PlT × Unit → Option (PlT × Unit) := afO (fun p : Int × Int => (pl p.1, pl p.2, ())) (fun p => Bd 7 p.1.natAbs ∧ Bd 7 p.2.natAbs) (fun p => (pl (p.1 - p.2), ()))
noncomputable def acN : PlT × PlT × Unit → Option (PlT × Unit) := afO (fun p : Int × Int => (pl p.1, pl p.2, ())) (fun p => Bd 7 p.1.natAbs ∧ Bd 7 p.2.natAbs) (fun p => (pl (p.1 * p.2), ()))
noncomputable def aeN : PlT × PlT × Unit → Option (PlT × PlT × Unit) := afO (fun p : Int × Int => (pl p.1, pl p.2, ())) (fun p => Bd 6 p.1.natAbs ∧ Bd 6 p.2.natAbs ∧ p.2 ≠ 0) (fun p => (pl (p.1 / p.2), pl (p.1 % p.2), ()))
noncomputable def alQ : PlT × PlT × Unit → Option (Int × Unit) := afO (fun p : Int × Int => (pl p.1, pl p.2, ())) (fun p => Bd 7 p.1.natAbs ∧ Bd 7 p.2.natAbs) (fun p => ((p.1 - p.2).sign, ()))
noncomputable def afE : PlT × PlT × Unit → Option (PlT × Unit) := afO (fun p : Int × Int => (pl p.1, pl p.2, ())) (fun p => Bd 8 p.1.natAbs ∧ Bd 8 p.2.natAbs) (fun p => (pl (Nat.gcd p.1.natAbs p.2.natAbs), ()))
noncomputable def aj0 : PlT × Int × Unit → Option (PlT × Unit) := afO (fun p : Int × Nat => (pl p.1, (p.2 : Int), ())) (fun p => (p.2 ≤ 40 ∧ Bd 2 p.1.natAbs) ∨ (p.2 ≤ 500 ∧ p.1 = 10)) (fun p => (pl (p.1 ^ p.2), ()))
def shF (x : FxT) : Prop := x.1.length ≤ 1000000000000 ∧ x.2.1.length ≤ 1000000000000
instance (x : FxT) : Decidable (shF x) := inferInstanceAs (Decidable (_ ∧ _))
noncomputable def aeB : PlT × PlT × Unit → Option (RaT × Unit) := afO (fun x : Int × Int => (pl x.1, pl x.2, ())) (fun x => Bd 6 x.1.natAbs ∧ Bd 6 x.2.natAbs ∧ x.2 ≠ 0) (fun x => (ra (Rat.divInt x.1 x.2), ()))
noncomputable def ag4 : Int × Int × Unit → Option (RaT × Unit) := afO (fun x : Int × Int => (x.1, x.2, ())) (fun x => aeI x.1 ∧ aeI x.2 ∧ x.2 ≠ 0) (fun x => (ra (Rat.divInt x.1 x.2), ()))
noncomputable def abR (x : FxT × Unit) : Option (Bool × Unit) := if shF x.1 then some ((rdF x.1).isSome, ()) else none
noncomputable def ag5 (x : FxT × Unit) : Option (Int × Unit) := if shF x.1 then adS x else none
noncomputable def afU : FxT × Unit → Option (RaT × Unit) := afO (fun x : Rat => (fx x, ())) (fun x => aiB x) (fun x => (ra x, ()))
noncomputable def ajZ : RaT × Unit → Option (FxT × Int × Unit) := afO (fun x : Rat => (ra x, ())) (fun x => BdQ 6 x) (fun x => wrF x)
noncomputable def ak0 : RaT × RaT × Unit → Option (RaT × Unit) := afO (fun x : Rat × Rat => (ra x.1, ra x.2, ())) (fun x => BdQ 3 x.1 ∧ BdQ 3 x.2) (fun x => (ra (x.1 + x.2), ()))
noncomputable def aiW : RaT × RaT × Unit → Option (RaT × Unit) := afO (fun x : Rat × Rat => (ra x.1, ra x.2, ())) (fun x => BdQ 3 x.1 ∧ BdQ 3 x.2) (fun x => (ra (x.1 * x.2), ()))
noncomputable def aoK : RaT × RaT × Unit → Option (RaT × Unit) := afO (fun x : Rat × Rat => (ra x.1, ra x.2, ())) (fun x => BdQ 3 x.1 ∧ BdQ 3 x.2 ∧ x.2 ≠ 0) (fun x => (ra (x.1 / x.2), ()))
noncomputable def aiX : RaT × RaT × Unit → Option (Int × Unit) := afO (fun x : Rat × Rat => (ra x.1, ra x.2, ())) (fun x => BdQ 3 x.1 ∧ BdQ 3 x.2) (fun x => (aDu x.1 x.2, ()))
noncomputable def aoL : RaT × Unit → Option (PlT × Unit) := afO (fun x : Rat => (ra x, ())) (fun x => BdQ 6 x) (fun x => (pl (fl x), ()))
noncomputable def av2 (x : Int × Int × Unit) : Option (FxT × Int × Unit) := aoT x
noncomputable def aoM (x : FxT × FxT × Unit) : Option (Int × Int × Unit) := if shF x.1 ∧ shF x.2.1 then ae4 x else none
noncomputable def adC (x : FxT × FxT × Unit) : Option (FxT × Int × Unit) := if shF x.1 ∧ shF x.2.1 then aiJ x else none
noncomputable def abW (x : FxT × FxT × Unit) : Option (FxT × Int × Unit) := if shF x.1 ∧ shF x.2.1 then af1 x else none
noncomputable def adB (x : FxT × FxT × Unit) : Option (FxT × Int × Unit) := if shF x.1 ∧ shF x.2.1 then aiI x else none
def shC (c : CvT) : Prop := c.2.1.length ≤ 1000000000000 ∧ c.2.2.1.length ≤ 1000000000000
instance (c : CvT) : Decidable (shC c) := inferInstanceAs (Decidable (_ ∧ _))
noncomputable def aS2 (q : Rat) : Option Rat := if aiB q then some q else none
end Go.Vs
namespace Go.Vg
abbrev TT.tt {α : Type} (x : TT α) : TT α := .triv (true = true) rfl x
abbrev TT.tr {α : Type} (x : TT α) : TT α := .triv True trivial x
abbrev TT.vA {α : Type} (p : Prop) (x : TT α) (h : p := by repeat' constructor) : TT α := .triv p h x
end Go.Vg
namespace Go.Vs
open Go Go.Vg
abbrev Qq {α : Sort _} (x : α) : Prop := x = x
theorem tv {p : Prop} (h : p := by repeat' constructor) : p := h
abbrev vE {α₁ : Sort _} (a : α₁) : Prop := Qq a ∧ True
abbrev vN {α₁ α₂ : Sort _} (a : α₁) (b : α₂) : Prop := Qq a ∧ Qq b ∧ True
abbrev vH {α₁ α₂ α₃ : Sort _} (a : α₁) (b : α₂) (c : α₃) : Prop := Qq a ∧ Qq b ∧ Qq c ∧ True
abbrev vG {α₁ α₂ α₃ α₄ : Sort _} (a : α₁) (b : α₂) (c : α₃) (d : α₄) : Prop := Qq a ∧ Qq b ∧ Qq c ∧ Qq d ∧ True
abbrev vR {α₁ α₂ α₃ α₄ α₅ α₆ : Sort _} (a : α₁) (b : α₂) (c : α₃) (d : α₄) (e : α₅) (f : α₆) : Prop := Qq a ∧ Qq b ∧ Qq c ∧ Qq d ∧ Qq e ∧ Qq f ∧ True
abbrev vP {α₁ α₂ α₃ α₄ α₅ α₆ α₇ : Sort _} (a : α₁) (b : α₂) (c : α₃) (d : α₄) (e : α₅) (f : α₆) (g : α₇) : Prop := Qq a ∧ Qq b ∧ Qq c ∧ Qq d ∧ Qq e ∧ Qq f ∧ Qq g ∧ True
abbrev vQ {α₁ α₂ α₃ α₄ α₅ α₆ α₇ α₈ : Sort _} (a : α₁) (b : α₂) (c : α₃) (d : α₄) (e : α₅) (f : α₆) (g : α₇) (h : α₈) : Prop := Qq a ∧ Qq b ∧ Qq c ∧ Qq d ∧ Qq e ∧ Qq f ∧ Qq g ∧ Qq h ∧ True
abbrev vI {α₁ α₂ : Sort _} (a : α₁) (b : α₂) : Prop := Qq a ∧ Qq b
abbrev vC {α₁ α₂ α₃ : Sort _} (a : α₁) (b : α₂) (c : α₃) : Prop := Qq a ∧ Qq b ∧ Qq c
abbrev vJ {α₁ α₂ α₃ α₄ : Sort _} (a : α₁) (b : α₂) (c : α₃) (d : α₄) : Prop := Qq a ∧ Qq b ∧ Qq c ∧ Qq d
abbrev vD {α₁ : Sort _} (a : α₁) (R : Prop) : Prop := Qq a ∧ R
abbrev vL {α₁ α₂ : Sort _} (a : α₁) (b : α₂) (R : Prop) : Prop := Qq a ∧ Qq b ∧ R
abbrev vF {α₁ α₂ α₃ : Sort _} (a : α₁) (b : α₂) (c : α₃) (R : Prop) : Prop := Qq a ∧ Qq b ∧ Qq c ∧ R
abbrev vB {α₁ α₂ α₃ α₄ : Sort _} (a : α₁) (b : α₂) (c : α₃) (d : α₄) (R : Prop) : Prop := Qq a ∧ Qq b ∧ Qq c ∧ Qq d ∧ R
abbrev vK {α₁ α₂ α₃ α₄ α₅ : Sort _} (a : α₁) (b : α₂) (c : α₃) (d : α₄) (e : α₅) (R : Prop) : Prop := Qq a ∧ Qq b ∧ Qq c ∧ Qq d ∧ Qq e ∧ R
abbrev vO {α₁ α₂ α₃ α₄ α₅ α₆ α₇ : Sort _} (a : α₁) (b : α₂) (c : α₃) (d : α₄) (e : α₅) (f : α₆) (g : α₇) (R : Prop) : Prop := Qq a ∧ Qq b ∧ Qq c ∧ Qq d ∧ Qq e ∧ Qq f ∧ Qq g ∧ R
abbrev vM {α₁ α₂ α₃ α₄ α₅ α₆ α₇ α₈ : Sort _} (a : α₁) (b : α₂) (c : α₃) (d : α₄) (e : α₅) (f : α₆) (g : α₇) (h : α₈) (R : Prop) : Prop := Qq a ∧ Qq b ∧ Qq c ∧ Qq d ∧ Qq e ∧ Qq f ∧ Qq g ∧ Qq h ∧ R
abbrev vz (a R : Prop) : Prop := a ∧ Qq true ∧ R
abbrev vY : Prop := vL 138 false <| True ∧ True
abbrev ub : Prop := vC 0 0 true
abbrev ud : Prop := vC 1 0 true
abbrev ug : Prop := vC 3 0 true
abbrev uy : Prop := vC 24 0 true
abbrev uI : Prop := vJ 4 0 1 true
abbrev uM : Prop := vz (vD 255 <| True ∧ vE false) True
abbrev ti : Prop := vz vY True
abbrev tk : Prop := vC 18 0 true
abbrev Dd0 := Ty.dflt uY
abbrev Dd1 := Ty.dflt uQ
abbrev Dd2 := Ty.dflt (Ty.pair Ty.str Ty.unit)
abbrev Dd3 := Ty.dflt (Ty.pair uo Ty.unit)
abbrev Dd4 := Ty.dflt (Ty.pair uJ uY)
abbrev Dd5 := Ty.dflt (Ty.pair ui Ty.unit)
abbrev Dd6 := Ty.dflt uD
abbrev Dd7 := Ty.dflt (Ty.pair Ty.str uQ)
abbrev Dd8 := Ty.dflt (Ty.pair (Ty.pair ui uY) Ty.unit)
abbrev Dd9 := Ty.dflt (Ty.pair ui uQ)
abbrev aTV := Ty.dflt (Ty.pair ui (Ty.pair ui uD))
abbrev aA9 := Ty.dflt (Ty.pair Ty.str uD)
abbrev aTE := Ty.dflt (Ty.pair uJ (Ty.pair vV Ty.unit))
abbrev aMs := Ty.dflt (Ty.pair (Ty.pair ui uY) uQ)
abbrev afP := Ty.dflt (Ty.pair ua uD)
abbrev aPR := Ty.dflt (Ty.pair vU uD)
abbrev af9 := Ty.dflt (Ty.pair ua Ty.unit)
abbrev aDx := Ty.dflt (Ty.pair uX Ty.unit)
abbrev ag0 := Ty.dflt (Ty.pair ut Ty.unit)
abbrev aTU := Ty.dflt (Ty.pair uX uD)
abbrev aTD := Ty.dflt (Ty.pair uX (Ty.pair uX Ty.unit))
abbrev aRf := Ty.dflt (Ty.pair ut (Ty.pair ut Ty.unit))
abbrev awD := Ty.dflt (Ty.pair (Ty.pair ut (Ty.pair ut Ty.unit)) Ty.unit)
abbrev aBd := Ty.dflt (Ty.pair uK Ty.unit)
abbrev aPQ := Ty.dflt (Ty.pair uK uD)
end Go.Vs
namespace Go.Vg
open Go
def opn (P : Program) : Nat → TypeId → Ty → Bool
 | 0, _, _ => false
 | n + 1, t, u => Nat.beq (P.cellsOf t) u.size && (match P.underlying t, u with
  | some (.int k), .int k' => decide (k = k')
  | some .bool, .bool => true
  | some .string, .str => true
  | some (.slice e), .sl v => opn P n e v && Nat.ble 1 v.size && Nat.ble 1 (P.bytesOf e)
  | some (.array m e), .arr m' v => Nat.beq m m' && opn P n e v
  | some (.struct fs), u => opFs (opn P n) fs.toList 0 u
  | _, _ => false)
where opFs (f : TypeId → Ty → Bool) : List Field → Nat → Ty → Bool
 | [], _, u => match u with | .unit => true | _ => false
 | x :: r, off, u => match u with
  | .pair t v => Nat.beq x.offset off && f x.type t && opFs f r (off + t.size) v
  | _ => false
theorem aJg {α : Type} {R : α → List Value → Prop} {n : Nat} : ∀ (len : Nat) (cs : List Value), cs.length = len * n → (∀ i, i < len → ∃ x, R x ((cs.drop (i * n)).take n)) → ∃ xs, xs.length = len ∧ RdL R xs cs
 | 0, cs, hl, _ => ⟨[], rfl, by rw [wQ] at hl; exact yk hl⟩
 | len + 1, cs, hl, h => by
  obtain ⟨x, hx⟩ := h 0 (Nat.succ_pos _)
  rw [wQ, yE] at hx
  have hl' : (cs.drop n).length = len * n := by rw [yb, hl, yg]; omega
  obtain ⟨xs, h1, h2⟩ := aJg len (cs.drop n) hl' (fun i hi => by
   have := h (i + 1) (Nat.succ_lt_succ hi)
   rw [zW]
   rwa [yg, yO] at this)
  exact ⟨x :: xs, by rw [zH, h1], cs.take n, cs.drop n, (xo n cs).symm, hx, h2⟩
section
variable {H : Type} {enc : TypeId × Value → H} {P : Program} {w : World} {spare : Nat → Bool} {held : Bool}
abbrev alZ (l : List Nat) : Prop := l.all (· ≤ reachBytes) = true
theorem akM {a b : List Nat} (h : alZ (a ++ b)) : alZ a ∧ alZ b := by
 simp only [alZ, vu, zn] at h
 exact h
theorem auB {e : TypeId} : ∀ {ds : List (DataW H)}, alZ (DataW.weightsAll P e ds) → ∀ d ∈ ds, alZ (d.weights P e)
 | [], _, _, h => by cases h
 | d :: r, h, x, hx => by
  rw [DataW.weightsAll] at h
  obtain ⟨h1, h2⟩ := akM h
  rcases zt.1 hx with rfl | hx
  ·exact h1
  ·exact auB h2 x hx
theorem ax6 : ∀ {ts : List TypeId} {ds : List (DataW H)}, alZ (DataW.weightsEach P ts ds) → ∀ (i : Nat) t d, ts[i]? = some t → ds[i]? = some d → alZ (d.weights P t)
 | [], _, _, i, t, d, h, _ => by simp at h
 | _ :: _, [], _, i, t, d, _, h => by simp at h
 | t :: ts, d :: ds, h, i, t', d', h1, h2 => by
  rw [DataW.weightsEach] at h
  obtain ⟨h3, h4⟩ := akM h
  cases i with
  | zero => simp at h1 h2; subst h1; subst h2; exact h3
  | succ i => exact ax6 h4 i t' d' (by simpa using h1) (by simpa using h2)
theorem alN {a : Addr} {n : Nat} {l : List Value} (h : w.cells? 0 a n = some l) : l.length = n ∧ ∀ i (hi : i < n), w.cell? (a.add i) = l[i]? := by
 unfold World.cells? at h
 rw [if_pos (zL _)] at h
 refine ⟨by simpa using mapM_some_length h, fun i hi => ?_⟩
 have := mapM_some_get h i i (by simp [hi])
 exact this
theorem aIh {a : Addr} {v : Value} (h : w.cell? a = some v) : ∃ c e fr, w.heap[a.block]? = some (.cells c e fr) ∧ a.spot = none ∧ c[a.off]? = some v := by
 unfold World.cell? at h
 split at h
 ·rename_i c e fr hc
  split at h
  ·cases h
  ·rename_i hs
   exact ⟨c, e, fr, hc, by simpa using hs, h⟩
 ·cases h
theorem aBx : reachBytes ≤ lim := zf
theorem aJF {n : Nat} {f : TypeId → Ty → Bool} {cs : List Value} (hf : ∀ t u cs d ps, f t u = true → DataW.trod enc P w 0 spare held n t cs = some (d, ps) → alZ (d.weights P t) → ∃ x, Rd (· < w.heap.size) w u x cs)
  (hsz : ∀ t u, f t u = true → P.cellsOf t = u.size) :
  ∀ (fs : List Field) (off : Nat) (u : Ty) (xs : List (DataW H × List MemPlace)), opn.opFs f fs off u = true → cs.length = off + u.size → xs.length = fs.length →
   (∀ (i : Nat) (g : Field), fs[i]? = some g → DataW.trod enc P w 0 spare held n g.type ((cs.drop g.offset).take (P.cellsOf g.type)) = xs[i]?) →
   (∀ (i : Nat) (g : Field) y, fs[i]? = some g → xs[i]? = some y → alZ (y.1.weights P g.type)) → ∃ x, Rd (· < w.heap.size) w u x (cs.drop off)
 | [], off, u, xs, h, hl, _, _, _ => by
  cases u <;> first | (cases h; done) | skip
  exact ⟨(), by
   have : cs.length = off := by simpa [Ty.size] using hl
   show cs.drop off = []
   exact List.drop_eq_nil_of_le zb⟩
 | g :: r, off, u, xs, h, hl, hx, ht, hw => by
  cases u <;> first | (cases h; done) | skip
  rename_i t v
  simp only [opn.opFs, zn] at h
  obtain ⟨⟨h1, h2⟩, h3⟩ := h
  have h1 := Nat.eq_of_beq_eq_true h1
  subst h1
  have hs := hsz _ _ h2
  cases xs with
  | nil => simp at hx
  | cons y ys =>
   have h4 := ht 0 g rfl
   rw [hs] at h4
   obtain ⟨a, ha⟩ := hf _ _ _ y.1 y.2 h2 h4 (hw 0 g y rfl rfl)
   obtain ⟨b, hb⟩ := aJF hf hsz r (g.offset + t.size) v ys h3 (by rw [hl]; simp only [Ty.size]; omega) (by simpa using hx) (fun i k hk => by have := ht (i + 1) k (by simpa using hk); simpa using this) (fun i k z hk hz => hw (i + 1) k z (by simpa using hk) (by simpa using hz))
   refine ⟨(a, b), _, _, (xo t.size (cs.drop g.offset)).symm, ha, ?_⟩
   rw [zW]
   exact hb
theorem ar6 {n : Nat} {t : TypeId} {u : Ty} (h : opn P n t u = true) : P.cellsOf t = u.size := by
 cases n with
 | zero => cases h
 | succ n =>
  simp only [opn, zn] at h
  exact Nat.eq_of_beq_eq_true h.1
theorem anR : ∀ (n : Nat) (t : TypeId) (u : Ty) (fuel : Nat) (cs : List Value) (d : DataW H) (ps : List MemPlace), opn P n t u = true → DataW.trod enc P w 0 spare held fuel t cs = some (d, ps) → alZ (d.weights P t) →
  ∃ x, Rd (· < w.heap.size) w u x cs
 | 0, _, _, _, _, _, _, h, _, _ => by cases h
 | n + 1, t, u, fuel, cs, d, ps, h, hd, hw => by
  have hsz := ar6 h
  simp only [opn, zn] at h
  obtain ⟨-, h⟩ := h
  split at h
  ·rename_i k k' hu
   have := of_decide_eq_true h
   subst this
   obtain ⟨m, rfl, _, hwf⟩ := DataW.trod_int hu hd
   refine ⟨m, rfl, ?_⟩
   simpa [Lit.wf] using hwf
  ·rename_i hu
   obtain ⟨b, rfl, _⟩ := DataW.trod_bool hu hd
   exact ⟨b, rfl⟩
  ·rename_i hu
   obtain ⟨s, rfl, hx, _⟩ := DataW.trod_string hu hd
   injection hx with hx _
   subst hx
   have : s.data.toList.length ≤ reachBytes := by simpa [alZ, DataW.weights] using hw
   exact ⟨s.data.toList, rfl, zw this aBx⟩
  ·rename_i e v hu
   simp only [zn] at h
   obtain ⟨⟨h1, h2⟩, h3⟩ := h
   have h2 := Nat.le_of_ble_eq_true h2
   have h3 := Nat.le_of_ble_eq_true h3
   have hse := ar6 h1
   rcases DataW.trod_slice hu hd with ⟨rfl, hx⟩ | ⟨a, len, cap, elems, rest, m, rfl, rfl, hx, _, hlc, _, hle, hel, _, _⟩
   ·exact ⟨[], none, 0, rfl, zj _, zL _, Or.inl rfl⟩
   ·injection hx with hx _
    subst hx
    simp only [DataW.weights, hu, alZ, List.all_cons, zn, zX, vu] at hw
    obtain ⟨hw1, hw2, _⟩ := hw
    have hlim : len ≤ lim := by
     have : len * 1 ≤ (List.map (·.1) elems).length * P.bytesOf e := Nat.mul_le_mul (by simp [hle]) h3
     have h4 : (List.map (·.1) elems).length * P.bytesOf e ≤ ((List.map (·.1) elems).length + (List.map (·.1) rest).length) * P.bytesOf e := zK _ (yJ _ _)
     exact zw zb (zw hw1 aBx)
    rcases zC len with h0 | h0
    ·subst h0
     exact ⟨[], some a, cap, rfl, hlc, zL _, Or.inl rfl⟩
    ·-- the cells of an element
     have key : ∀ i, i < len → ∃ l y, w.cells? 0 (a.add (i * v.size)) v.size = some l ∧ DataW.trod enc P w 0 spare held m e l = some y ∧ elems[i]? = some y := by
      intro i hi
      have := hel i hi
      rw [zJ zb, hse] at this
      obtain ⟨l, hl1, hl2⟩ := Option.bind_eq_some_iff.1 this
      exact ⟨l, _, hl1, hl2, by rw [zJ zb]⟩
     obtain ⟨l0, y0, hl0, -, -⟩ := key 0 h0
     obtain ⟨hn0, hc0⟩ := alN hl0
     have hc00 := hc0 0 h2
     rw [zJ zb] at hc00
     obtain ⟨c, et, fr, hb, hsp, _⟩ := aIh hc00
     have e0 : a.add (0 * v.size) = a := by simp [Addr.add]
     rw [e0] at hb hsp
     have e00 : a.add 0 = a := by simp [Addr.add]
     rw [e00] at hb hsp
     obtain ⟨b, o, sp⟩ := a
     dsimp only at hb hsp
     subst hsp
     -- each cell
     have cell : ∀ i, i < len → ∀ j, j < v.size → ∀ l, w.cells? 0 (Addr.add ⟨b, o, none⟩ (i * v.size)) v.size = some l → c[o + i * v.size + j]? = l[j]? := by
      intro i hi j hj l hl
      obtain ⟨q1, q2⟩ := alN hl
      have := q2 j hj
      rw [← this]
      have ea : ((Addr.add ⟨b, o, none⟩ (i * v.size)).add j) = ⟨b, o + i * v.size + j, none⟩ := by
       unfold Addr.add
       by_cases c1 : i * v.size = 0 <;> by_cases c2 : j = 0 <;> simp [c1, c2]
      rw [ea]
      unfold World.cell?
      dsimp only
      rw [hb]
      rfl
     have part : ∀ i, i < len → ∀ l, w.cells? 0 (Addr.add ⟨b, o, none⟩ (i * v.size)) v.size = some l → (c.toList.drop (o + i * v.size)).take v.size = l := by
      intro i hi l hl
      obtain ⟨q1, q2⟩ := alN hl
      apply List.ext_getElem?
      intro j
      rcases zv j v.size with hj | hj
      ·rw [List.getElem?_take_of_lt hj, yD, ← cell i hi j hj l hl]
       simp
      ·rw [wy (by rw [zT]; omega), wy zb]
     have hlen : o + len * v.size ≤ c.size := by
      obtain ⟨l, y, hl, -, -⟩ := key (len - 1) zb
      obtain ⟨q1, q2⟩ := alN hl
      have := cell (len - 1) zb (v.size - 1) zb l hl
      rw [zJ zb] at this
      have hlt := (xa.1 this).1
      have e1 : len * v.size = (len - 1) * v.size + v.size := by
       conv => lhs; rw [show len = (len - 1) + 1 by omega]
       rw [yg]
      omega
     obtain ⟨xs, hx1, hx2⟩ := aJg (R := Rd (· < w.heap.size) w v) (n := v.size) len ((c.toList.drop o).take (len * v.size)) (by rw [zT, yb]; simp; omega) (fun i hi => by
      obtain ⟨l, y, hl, hl2, hy⟩ := key i hi
      have hm : y.1 ∈ elems.map (·.1) := zD.2 ⟨y, List.mem_of_getElem? hy, rfl⟩
      obtain ⟨x, hx⟩ := anR n e v m l y.1 y.2 h1 hl2 (auB hw2 _ hm)
      refine ⟨x, ?_⟩
      have e2 : ((((c.toList.drop o).take (len * v.size)).drop (i * v.size)).take v.size) = l := by
       rw [← part i hi l hl, wu, yU, zW]
       congr 1
       have : i * v.size + v.size ≤ len * v.size := by rw [← yg]; exact zK _ hi
       omega
      rw [e2]
      exact hx)
     subst hx1
     exact ⟨xs, some ⟨b, o, none⟩, cap, rfl, hlc, hlim, Or.inr ⟨b, o, c, et, fr, rfl, (xa.1 hb).1, hb, hlen, hx2⟩⟩
  ·rename_i m e m' v hu
   simp only [zn] at h
   obtain ⟨h1, h2⟩ := h
   have h1 := Nat.eq_of_beq_eq_true h1
   subst h1
   have hse := ar6 h2
   obtain ⟨xs, k, rfl, hx, hlen, hxl, hel⟩ := DataW.trod_array hu hd
   injection hx with hx _
   subst hx
   rw [hsz] at hlen
   have hlen' : cs.length = m * v.size := hlen
   simp only [DataW.weights, hu] at hw
   obtain ⟨ys, hy1, hy2⟩ := aJg (R := Rd (· < w.heap.size) w v) (n := v.size) m cs hlen' (fun i hi => by
    have := hel i hi
    rw [zJ zb, hse] at this
    exact anR n e v k _ _ _ h2 this (auB hw _ (zD.2 ⟨_, yl zb, rfl⟩)))
   exact ⟨ys, hy1, hy2⟩
  ·rename_i _ fs hu
   obtain ⟨xs, k, rfl, hx, hlen, hxl, hel⟩ := DataW.trod_struct hu hd
   injection hx with hx _
   subst hx
   simp only [DataW.weights, hu] at hw
   obtain ⟨x, hx⟩ := aJF (n := k) (f := opn P n) (cs := cs) (fun t u cs d ps h1 h2 h3 => anR n t u k cs d ps h1 h2 h3) (fun t u h => ar6 h) fs.toList 0 _ xs h (by rw [hlen, hsz]; omega) (by simpa using hxl) (fun i g hg => hel i g (by simpa using hg))
    (fun i g y hg hy => ax6 hw i g.type y.1 (by simp [hg]) (by simp [hy]))
   exact ⟨x, by simpa using hx⟩
  ·cases h
theorem aNo {f : TypeId → Ty → Bool} : ∀ {fs : List Field} {off : Nat} {u : Ty}, opn.opFs f fs off u = true → u.agg = true
 | [], _, u, h => by cases u <;> first | rfl | (cases h; done)
 | _ :: _, _, u, h => by cases u <;> first | rfl | (cases h; done)
theorem aHq {n : Nat} {t : TypeId} {u : Ty} {r : _root_.Go.Reach} {b0 : Nat} {v : Value} {d : DataW H} {ps : List MemPlace} (ho : opn P n t u = true) (hne : u ≠ .unit) (hval : Value.okWide P w r b0 t v) (hd : DataW.Trod enc P w 0 spare held t v d ps) (hw : alZ (d.weights P t)) :
  ∃ x, RdV (· < w.heap.size) w u x v := by
 obtain ⟨fuel, hf⟩ := hd
 obtain ⟨x, hx⟩ := anR n t u fuel _ _ _ ho hf hw
 refine ⟨x, _, hx, ?_⟩
 cases n with
 | zero => cases ho
 | succ n =>
  simp only [opn, zn] at ho
  obtain ⟨-, h⟩ := ho
  split at h
  ·rename_i k k' hu
   obtain ⟨m, rfl⟩ := WideShapes.okWide_int hu hval
   rfl
  ·rename_i hu
   obtain ⟨m, rfl⟩ := WideShapes.okWide_bool hu hval
   rfl
  ·rename_i hu
   obtain ⟨m, rfl⟩ := WideShapes.okWide_string hu hval
   rfl
  ·rename_i e v' hu
   obtain ⟨a, len, cap, rfl⟩ := WideShapes.okWide_slice hu hval
   rfl
  ·rename_i ha
   unfold Value.okWide at hval
   rw [ha] at hval
   obtain ⟨cs, rfl, _⟩ := hval
   rfl
  ·rename_i fs hu'
   obtain ⟨cs, rfl, _⟩ := WideShapes.okWide_struct hu' hval
   unfold vOf
   rw [if_pos (aNo h)]
   rfl
  ·cases h
def aFU (P : Program) : List TypeId → Ty → Bool
 | [], u => match u with | .unit => true | _ => false
 | t :: ts, u => match u with
  | .pair a b => opn P 8 t a && (match a with | .unit => false | _ => true) && aFU P ts b
  | _ => false
theorem aFV : ∀ (ts : List TypeId) (u : Ty) (vs : List Value) (ds : List (DataW H)) (ps : List MemPlace) {r : _root_.Go.Reach} {b0 : Nat}, aFU P ts u = true → (∀ (j : Nat) t v, ts[j]? = some t → vs[j]? = some v → Value.okWide P w r b0 t v) →
  DataW.TrodAll enc P w 0 spare held ts vs ds ps → alZ (DataW.weightsEach P ts ds) → ∃ x, RdVs (· < w.heap.size) w u x vs
 | [], u, vs, ds, ps, _, _, ho, _, hd, _ => by
  cases u <;> first | (cases ho; done) | skip
  cases vs with
  | nil => exact ⟨(), rfl⟩
  | cons v vs => cases ds <;> exact hd.elim
 | t :: ts, u, vs, ds, ps, r, b0, ho, hv, hd, hw => by
  cases u <;> first | (cases ho; done) | skip
  rename_i a b
  simp only [aFU, zn] at ho
  obtain ⟨⟨h1, h2⟩, h3⟩ := ho
  cases vs with
  | nil => exact hd.elim
  | cons v vs =>
   cases ds with
   | nil => exact hd.elim
   | cons d ds =>
    obtain ⟨p, q, hd1, hd2, _⟩ := hd
    rw [DataW.weightsEach] at hw
    obtain ⟨hw1, hw2⟩ := akM hw
    obtain ⟨x, hx⟩ := aHq h1 (fun e => by subst e; cases h2) (hv 0 t v rfl rfl) hd1 hw1
    obtain ⟨y, hy⟩ := aFV ts b vs ds q h3 (fun j t' v' e1 e2 => hv (j + 1) t' v' (by simpa using e1) (by simpa using e2)) hd2 hw2
    exact ⟨(x, y), v, vs, rfl, hx, hy⟩
theorem aFw (hl : laidOutB P = true) {W W' : World} (hb : RowKit.Below W.heap.size W W') : ∀ (ts : List TypeId) (vs : List Value) (ds : List (DataW H)) (ps : List MemPlace), (ts.all fun t => P.readableRec t && decide (t < P.types.size)) = true →
  DataW.TrodAll enc P W 0 (fun _ => true) true ts vs ds ps → (∀ x ∈ ps, x.block < W.heap.size) → DataW.TrodAll enc P W' 0 (fun b => decide (b < W.heap.size)) true ts vs ds ps
 | [], [], [], _, _, hd, _ => hd
 | [], _ :: _, [], _, _, hd, _ | [], _, _ :: _, _, _, hd, _ => by cases ‹List Value› <;> exact hd.elim
 | t :: ts, [], ds, _, _, hd, _ => by cases ds <;> exact hd.elim
 | t :: ts, v :: vs, [], _, _, hd, _ => hd.elim
 | t :: ts, v :: vs, d :: ds, ps, hr, ⟨p, q, h1, h2, e⟩, hlt => by
  simp only [List.all_cons, zn, zX] at hr
  obtain ⟨⟨r1, r2⟩, r3⟩ := hr
  subst e
  exact ⟨p, q, RowKit.Below.trod hl r1 r2 h1 hb (fun x hx => hlt x (vo _ hx)), aFw hl hb ts vs ds q r3 h2 (fun x hx => hlt x (List.mem_append_right _ hx)), rfl⟩
end
end Go.Vg
