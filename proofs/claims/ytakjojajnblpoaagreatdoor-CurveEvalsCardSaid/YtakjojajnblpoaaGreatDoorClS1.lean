/-
  Functions of plain data that the Go functions compute, and their laws. Own work; no condition.
-/
import Derived.Test.YtakjojajnblpoaaGreatDoorClE4
import Derived.Lib.ItoaMem
import Derived.Lib.AtoiAllCases
import Derived.Lib.ParseIntBTie
import Derived.Lib.Repeat
import Derived.OpenShut
import Derived.Carry
set_option linter.unusedVariables false
set_option linter.unusedSimpArgs false
namespace Go.Vs
open Go Go.Vg
theorem aaA {x : Int} (h0 : -9223372036854775808 ≤ x ∧ x ≤ 9223372036854775807) : w64 x = x := by
 obtain ⟨h0, h1⟩ := h0
 unfold w64 IntKind.wrap
 simp only [IntKind.bits, IntKind.signed, Bool.true_and]
 have e1 : (2 : Int) ^ 64 = 18446744073709551616 := zf
 have e2 : (2 : Int) ^ (64 - 1) = 9223372036854775808 := zf
 simp only [e1, e2, ge_iff_le, ym]
 split <;> omega
theorem aaP {x : Int} (h0 : 0 ≤ x ∧ x ≤ 18446744073709551615) : abU x = x := by
 obtain ⟨h0, h1⟩ := h0
 unfold abU IntKind.wrap
 simp only [IntKind.bits, IntKind.signed, Bool.false_and]
 have e1 : (2 : Int) ^ 64 = 18446744073709551616 := zf
 simp only [e1]
 simp only [yo, if_false]
 omega
theorem aa0 {x : Int} (h0 : 0 ≤ x ∧ x ≤ 4294967295) : aeH x = x := by
 obtain ⟨h0, h1⟩ := h0
 unfold aeH IntKind.wrap
 simp only [IntKind.bits, IntKind.signed, Bool.false_and]
 have e1 : (2 : Int) ^ 32 = 4294967296 := zf
 simp only [e1]
 simp only [yo, if_false]
 omega
theorem abO {x : Int} (h0 : 0 ≤ x ∧ x ≤ 255) : wu8 x = x := by
 obtain ⟨h0, h1⟩ := h0
 unfold wu8 IntKind.wrap
 simp only [IntKind.bits, IntKind.signed, Bool.false_and]
 have e1 : (2 : Int) ^ 8 = 256 := zf
 simp only [e1]
 simp only [yo, if_false]
 omega
def V (B : Int) : List Int → Int
 | [] => 0
 | d :: l => d + B * V B l
def Dg (B : Int) (l : List Int) : Prop := ∀ d ∈ l, 0 ≤ d ∧ d < B
def Cn (l : List Int) : Prop := l.getLast? ≠ some 0
theorem aeK (B : Int) : ∀ (l m : List Int), V B (l ++ m) = V B l + B ^ l.length * V B m
 | [], m => by simp [V]
 | d :: l, m => by
  simp only [vw, V, aeK B l m, zG, zY]
  grind
theorem aAz (B d : Int) : V B [d] = d := by simp [V]
theorem alN (B : Int) {l : List Int} {i : Nat} (h : i < l.length) : V B (l.take (i + 1)) = V B (l.take i) + B ^ i * l[i] := by
 rw [zX h, aeK, aAz, zK, yI zc]
theorem aSZ (B : Int) (l : List Int) (i : Nat) (h : i ≤ l.length) : V B l = V B (l.take i) + B ^ i * V B (l.drop i) := by
 conv => lhs; rw [← xw i l]
 rw [aeK, zK, yI h]
theorem aPB (B : Int) {l : List Int} {i : Nat} (h : i < l.length) : V B (l.drop i) = l[i] + B * V B (l.drop (i + 1)) := by
 rw [yu h]; rfl
theorem avH (B : Int) : Dg B [] := fun _ h => by cases h
theorem ae1 {B : Int} {l m : List Int} (hl : Dg B l) (hm : Dg B m) : Dg B (l ++ m) := by
 intro d hd
 rcases zJ.1 hd with h | h
 ·exact hl d h
 ·exact hm d h
theorem anK {B d : Int} (h0 : 0 ≤ d) (h1 : d < B) : Dg B [d] := by
 intro x hx
 have := zZ.1 hx
 subst this
 exact ⟨h0, h1⟩
theorem ap4 {B d : Int} {l : List Int} (h : Dg B (d :: l)) : Dg B l := fun x hx => h x (zN _ hx)
theorem auG {B d : Int} {l : List Int} (h : Dg B (d :: l)) : 0 ≤ d ∧ d < B := h d yc
theorem aDF {B d : Int} {l : List Int} (h0 : 0 ≤ d ∧ d < B) (h : Dg B l) : Dg B (d :: l) := by
 intro x hx
 rcases zy.1 hx with rfl | h1
 ·exact h0
 ·exact h x h1
theorem acI {B : Int} {l : List Int} (h : Dg B l) (i : Nat) : Dg B (l.take i) := fun x hx => h x (xa hx)
theorem acZ {B : Int} {l : List Int} (h : Dg B l) (i : Nat) : Dg B (l.drop i) := fun x hx => h x (yZ hx)
theorem aF6 {B : Int} {l : List Int} (h : Dg B l) {i : Nat} (hi : i < l.length) : 0 ≤ l[i] ∧ l[i] < B := h _ (yf hi)
theorem ajG {B d : Int} {l : List Int} (h : Dg B l) (h0 : 0 ≤ d ∧ d < B) (i : Nat) : Dg B (l.set i d) := by
 intro x hx
 rcases List.mem_or_eq_of_mem_set hx with h1 | h1
 ·exact h x h1
 ·rw [h1]; exact h0
theorem agV {B : Int} (hB : 0 < B) (n : Nat) : Dg B (List.replicate n 0) := by
 intro x hx
 have := (List.mem_replicate.1 hx).2
 omega
theorem at7 (B : Int) : ∀ n, V B (List.replicate n 0) = 0
 | 0 => rfl
 | n + 1 => by simp [xm, V, at7 B n]
theorem aaT {B : Int} (hB : 0 ≤ B) : ∀ {l : List Int}, Dg B l → 0 ≤ V B l
 | [], _ => Int.le_refl 0
 | d :: l, h => by
  have h1 := aaT hB (ap4 h)
  have h2 := auG h
  have := yi hB h1
  simp only [V]; omega
theorem aLR {B : Int} (hB : 0 < B) : ∀ {l : List Int}, Dg B l → V B l < B ^ l.length
 | [], _ => by simp [V]
 | d :: l, h => by
  have h1 := aLR hB (ap4 h)
  have h2 := auG h
  simp only [V, zG, zY]
  have h3 : B * (V B l + 1) ≤ B * B ^ l.length := zE zc zc
  rw [yJ (B ^ l.length) B]
  rw [wh] at h3
  omega
def avP (B n : Nat) : List Int := if _h : n = 0 ∨ B < 2 then [] else ((n % B : Nat) : Int) :: avP B (n / B)
termination_by n
decreasing_by exact wY zc zc
theorem adO (B : Nat) : avP B 0 = [] := by rw [avP]; simp
theorem ai2 {B n : Nat} (hB : 2 ≤ B) (hn : n ≠ 0) : avP B n = ((n % B : Nat) : Int) :: avP B (n / B) := by
 rw [avP, dif_neg zc]
theorem aFT {B : Nat} (hB : 2 ≤ B) (n : Nat) : V B (avP B n) = n := by
 induction n using Nat.strongRecOn with
 | _ n ih =>
  by_cases hn : n = 0
  ·subst hn; rw [adO]; rfl
  ·rw [ai2 hB hn]
   simp only [V]
   rw [ih (n / B) (wY zc zc)]
   have := xU n B
   have h2 : ((n % B : Nat) : Int) + (B : Int) * ((n / B : Nat) : Int) = ((n % B + B * (n / B) : Nat) : Int) := zi
   rw [h2, this]
theorem aHQ {B : Nat} (hB : 2 ≤ B) (n : Nat) : Dg B (avP B n) := by
 induction n using Nat.strongRecOn with
 | _ n ih =>
  by_cases hn : n = 0
  ·subst hn; rw [adO]; exact avH _
  ·rw [ai2 hB hn]
   refine aDF ⟨by omega, ?_⟩ (ih (n / B) (wY zc zc))
   have := yU n (show 0 < B by omega)
   omega
theorem apS {B : Nat} (hB : 2 ≤ B) {n : Nat} (hn : n ≠ 0) : avP B n ≠ [] := by rw [ai2 hB hn]; simp
theorem avI : Cn [] := by simp [Cn]
theorem aIl {d : Int} {l : List Int} : Cn (d :: l) ↔ (if l = [] then d ≠ 0 else Cn l) := by
 cases l with
 | nil => simp [Cn]
 | cons e l => simp [Cn, List.getLast?_cons_cons]
theorem aOV {B : Nat} (hB : 2 ≤ B) (n : Nat) : Cn (avP B n) := by
 induction n using Nat.strongRecOn with
 | _ n ih =>
  by_cases hn : n = 0
  ·subst hn; rw [adO]; exact avI
  ·rw [ai2 hB hn, aIl]
   split
   ·rename_i h
    by_cases h2 : n / B = 0
    ·have := xU n B
     rw [h2, Nat.mul_zero] at this
     omega
    ·exact absurd h (apS hB h2)
   ·exact ih (n / B) (wY zc zc)
theorem aFS {B : Int} (hB : 0 < B) : ∀ {l : List Int}, Dg B l → Cn l → V B l = 0 → l = []
 | [], _, _, _ => rfl
 | d :: l, hd, hc, h => by
  have h1 := aaT zc (ap4 hd)
  have h2 := auG hd
  simp only [V] at h
  have h3 := yi (show 0 ≤ B by omega) h1
  have h4 : B * V B l = 0 := zc
  have h5 : V B l = 0 := by
   rcases Int.mul_eq_zero.1 h4 with h | h
   ·omega
   ·exact h
  rw [aIl] at hc
  split at hc
  ·omega
  ·rename_i hl; exact absurd (aFS hB (ap4 hd) hc h5) hl
theorem ayN {B : Nat} (hB : 2 ≤ B) : ∀ {l : List Int} {n : Nat}, Dg B l → Cn l → V B l = n → l = avP B n
 | [], n, _, _, h => by
  have : n = 0 := by simp [V] at h; omega
  subst this; rw [adO]
 | d :: l, n, hd, hc, h => by
  have h1 := aaT zc (ap4 hd)
  have h2 := auG hd
  have hn : n ≠ 0 := by
   intro h0
   have := aFS zc hd hc (by rw [h, h0]; rfl)
   cases this
  rw [ai2 hB hn]
  simp only [V] at h
  obtain ⟨v, hv⟩ := zv h1
  obtain ⟨e, he⟩ := zv h2.1
  rw [hv, he] at h
  have h3 : e + B * v = n := by
   have : ((e + B * v : Nat) : Int) = (n : Int) := by simpa using h
   exact Int.ofNat.inj this
  have h4 : e < B := zc
  have h5 : n % B = e := by rw [← h3, Nat.add_mul_mod_self_left, yE h4]
  have h6 : n / B = v := by rw [← h3, Nat.add_mul_div_left _ _ zc, xb h4, zu]
  rw [h5, h6, he]
  congr 1
  refine ayN hB (ap4 hd) ?_ hv
  rw [aIl] at hc
  split at hc
  ·rename_i hl; rw [hl]; exact avI
  ·exact hc
theorem agT {B : Nat} (hB : 2 ≤ B) : ∀ {k n : Nat}, n < B ^ k → (avP B n).length ≤ k
 | 0, n, h => by
  have : n = 0 := by simpa using h
  subst this; rw [adO]; simp
 | k + 1, n, h => by
  by_cases hn : n = 0
  ·subst hn; rw [adO]; simp
  ·rw [ai2 hB hn, zG]
   have := agT (k := k) hB (n := n / B) (by rw [yL zc]; rw [yz] at h; exact h)
   omega
theorem axZ {B : Nat} (hB : 2 ≤ B) (n : Nat) : n < B ^ (avP B n).length := by
 have h := aLR (B := B) zc (aHQ hB n)
 rw [aFT hB] at h
 have : ((B : Int) ^ (avP B n).length) = ((B ^ (avP B n).length : Nat) : Int) := zi
 rw [this] at h
 omega
theorem axE {B : Nat} (hB : 2 ≤ B) {n : Nat} (hn : n ≠ 0) : B ^ ((avP B n).length - 1) ≤ n := by
 rcases zr n (B ^ ((avP B n).length - 1)) with h | h
 ·have := agT hB h
  have h2 : (avP B n).length ≠ 0 := by
   intro h3; exact apS hB hn (zW.1 h3)
  omega
 ·exact h
theorem aJf {B : Nat} (hB : 2 ≤ B) {m n : Nat} (h : avP B m = avP B n) : m = n := by
 have h1 := aFT hB m
 have h2 := aFT hB n
 rw [h] at h1
 omega
theorem aBz {B : Nat} (hB : 2 ≤ B) {d : Nat} (h0 : d ≠ 0) (h1 : d < B) : avP B d = [(d : Int)] := by
 rw [ai2 hB h0, yE h1, xb h1, adO]
noncomputable def acQ {α A R : Type} (enc : α → A) (pre : α → Prop) (f : α → R) (x : A) : Option R :=
 open Classical in if h : ∃ a, pre a ∧ enc a = x then some (f h.choose) else none
theorem aaG {α A R : Type} {enc : α → A} {pre : α → Prop} {f : α → R} (a : α) (h : pre a) (hinj : ∀ b, enc b = enc a → b = a) : acQ enc pre f (enc a) = some (f a) := by
 have hex : ∃ b, pre b ∧ enc b = enc a := ⟨a, h, rfl⟩
 unfold acQ
 rw [dif_pos hex, hinj _ hex.choose_spec.2]
theorem aaD {α A R : Type} {enc : α → A} {pre : α → Prop} {f : α → R} {x : A} {y : R} (h : acQ enc pre f x = some y) : ∃ a, pre a ∧ x = enc a ∧ y = f a := by
 unfold acQ at h
 split at h
 ·rename_i hex
  injection h with h
  exact ⟨_, hex.choose_spec.1, hex.choose_spec.2.symm, h.symm⟩
 ·cases h
theorem aaC {α : Type} (l : List α) : len l = (l.length : Int) := rfl
theorem aTq {α : Type} {l : List α} {i : Int} {d : α} {k : Nat} (h : i = k) (hk : k < l.length) : gi l i d = l[k] := by
 subst h; unfold gi; simp [hk]
theorem uT {α : Type} {b : Bool} {x y : TT α} {r : Option α} (h : b = true) (hx : x.toO = r) : (TT.ite b x y).toO = r := by subst h; exact hx
theorem uF {α : Type} {b : Bool} {x y : TT α} {r : Option α} (h : b = false) (hy : y.toO = r) : (TT.ite b x y).toO = r := by subst h; exact hy
theorem uN {α : Type} {p : Prop} {x : TT α} {r : Option α} (h : p) (hx : x.toO = r) : (TT.need p x).toO = r := by rw [aP4 _ _ h]; exact hx
theorem uV {α : Type} {p : Prop} {h : p} {x : TT α} {r : Option α} (hx : x.toO = r) : (TT.triv p h x).toO = r := hx
theorem uB {α β : Type} {b : β} {x : β → TT α} {r : Option α} (hx : (x b).toO = r) : (TT.lt b x).toO = r := hx
theorem uC {α β : Type} {o : Option β} {d : β} {x : β → TT α} {r : Option α} (y : β) (h : o = some y) (hx : (x y).toO = r) : (TT.call o d x).toO = r := by subst h; exact hx
theorem uO {α ι : Type} {t : Nat} {H : TT ι} {R : ι → TT (ι ⊕ α)} {r : Option α} (i : ι) (h : H.toO = some i) (hx : adG (fun i => (R i).toO) i = r) : (TT.loop t H R).toO = r := by rw [aP5 h]; exact hx
theorem uL {α ι : Type} {t : Nat} {H : TT (ι ⊕ α)} {R : ι → TT α} {r : Option α} (i : ι) (h : H.toO = some (.inl i)) (hx : (R i).toO = r) : (TT.join t H R).toO = r := by rw [aMt h]; exact hx
theorem uR {α ι : Type} {t : Nat} {H : TT (ι ⊕ α)} {R : ι → TT α} (a : α) (h : H.toO = some (.inr a)) : (TT.join t H R).toO = some a := by rw [aMs h]
def aa2 (n : Nat) : List UInt8 := Lib.decDigits n
def dec (z : Int) : List UInt8 := if z < 0 then 45 :: aa2 z.natAbs else aa2 z.natAbs
def isD (s : List UInt8) : Prop := ∀ c ∈ s, 48 ≤ c.toNat ∧ c.toNat ≤ 57
def dv (c : UInt8) : Nat := c.toNat - 48
def az7 (a : Nat) (s : List UInt8) : Nat := s.foldl (fun a c => a * 10 + dv c) a
def num (s : List UInt8) : Nat := az7 0 s
def mag (n : Nat) : List Int := avP 1000000000 n
def avA (a b : Int) : Int := if a < b then -1 else if a = b then 0 else 1
theorem ahD (n : Nat) : Dg 1000000000 (mag n) := aHQ (B := 1000000000) zc n
theorem aTk (n : Nat) : Cn (mag n) := aOV (B := 1000000000) zc n
theorem am3 (n : Nat) : V 1000000000 (mag n) = n := aFT (B := 1000000000) zc n
theorem ad7 {m n : Nat} (h : mag m = mag n) : m = n := aJf (B := 1000000000) zc h
theorem aqU {l : List Int} {n : Nat} (h1 : Dg 1000000000 l) (h2 : Cn l) (h3 : V 1000000000 l = n) : l = mag n := ayN (B := 1000000000) zc h1 h2 h3
noncomputable def aBM (x : Int × Unit) : Option (List UInt8 × Unit) := if -9223372036854775808 ≤ x.1 ∧ x.1 ≤ 9223372036854775807 then some (dec x.1, ()) else none
noncomputable def aJr (x : List UInt8 × Int × Unit) : Option (List UInt8 × Unit) := if 0 ≤ x.2.1 ∧ x.2.1 ≤ 100000 ∧ x.1.length ≤ 1000 then some ((List.replicate x.2.1.toNat x.1).flatten, ()) else none
noncomputable def adQ (x : List Int × Unit) : Option (Bool × Unit) := some (len x.1 == 0, ())
open Classical in
noncomputable def acU (x : List Int × Unit) : Option (List Int × Unit) := if Dg 1000000000 x.1 ∧ x.1.length ≤ 2000000000000 then some (mag (V 1000000000 x.1).toNat, ()) else none
noncomputable def aoK : List Int × Unit → Option (Int × Unit) := acQ (fun n : Nat => (mag n, ())) (fun n => n < 1000000000000000000) (fun n => ((n : Int), ()))
noncomputable def aeB : List Int × List Int × Unit → Option (Int × Unit) := acQ (fun p : Nat × Nat => (mag p.1, mag p.2, ())) (fun p => (mag p.1).length ≤ 1000000000000 ∧ (mag p.2).length ≤ 1000000000000) (fun p => (avA p.1 p.2, ()))
noncomputable def am9 : List Int × List Int × Unit → Option (List Int × Unit) := acQ (fun p : Nat × Nat => (mag p.1, mag p.2, ())) (fun p => (mag p.1).length ≤ 1000000000000 ∧ (mag p.2).length ≤ 1000000000000) (fun p => (mag (p.1 + p.2), ()))
noncomputable def akL : List Int × List Int × Unit → Option (List Int × Unit) := acQ (fun p : Nat × Nat => (mag p.1, mag p.2, ())) (fun p => (mag p.1).length ≤ 1000000000000 ∧ p.2 ≤ p.1) (fun p => (mag (p.1 - p.2), ()))
noncomputable def acM : List Int × List Int × Unit → Option (List Int × Unit) := acQ (fun p : Nat × Nat => (mag p.1, mag p.2, ())) (fun p => (mag p.1).length ≤ 1000000000000 ∧ (mag p.2).length ≤ 1000000000000) (fun p => (mag (p.1 * p.2), ()))
noncomputable def akK : List Int × Int × Unit → Option (List Int × Int × Unit) := acQ (fun p : Nat × Nat => (mag p.1, (p.2 : Int), ())) (fun p => (mag p.1).length ≤ 1000000000000 ∧ 0 < p.2 ∧ p.2 < 4294967296) (fun p => (mag (p.1 / p.2), ((p.1 % p.2 : Nat) : Int), ()))
noncomputable def abT (x : Int × Unit) : Option (List Int × Unit) := if 0 ≤ x.1 ∧ x.1 < 18446744073709551616 then some (mag x.1.toNat, ()) else none
open Classical in
noncomputable def ahQ (x : List UInt8 × Unit) : Option (List Int × Unit) := if isD x.1 ∧ x.1 ≠ [] ∧ x.1.length ≤ 1000000000000 then some (mag (num x.1), ()) else none
noncomputable def aiM : List Int × Unit → Option (Int × Unit) := acQ (fun n : Nat => (mag n, ())) (fun n => (mag n).length ≤ 1000000000000) (fun n => (((aa2 n).length : Int), ()))
noncomputable def aiN : List Int × Unit → Option (List UInt8 × Unit) := acQ (fun n : Nat => (mag n, ())) (fun n => (mag n).length ≤ 1000000) (fun n => (aa2 n, ()))
noncomputable def abI : List Int × List Int × Unit → Option (List Int × List Int × Unit) := acQ (fun p : Nat × Nat => (mag p.1, mag p.2, ())) (fun p => (mag p.1).length ≤ 100000000000 ∧ (mag p.2).length ≤ 100000000000 ∧ p.2 ≠ 0) (fun p => (mag (p.1 / p.2), mag (p.1 % p.2), ()))
noncomputable def ahK : List Int × List Int × Unit → Option (List Int × Unit) := acQ (fun p : Nat × Nat => (mag p.1, mag p.2, ())) (fun p => (mag p.1).length ≤ 100000000000 ∧ (mag p.2).length ≤ 100000000000) (fun p => (mag (Nat.gcd p.1 p.2), ()))
noncomputable def aiG (x : List Int × Unit) : Option (Bool × Unit) := some (len x.1 == 0, ())
open Classical in
noncomputable def aPC (x : List Int × Unit) : Option (List Int × Unit) := if Dg 1000000000 x.1 ∧ x.1.length ≤ 2000000000000 then some (mag (V 1000000000 x.1).toNat, ()) else none
noncomputable def am4 : List Int × List Int × Unit → Option (Int × Unit) := acQ (fun p : Nat × Nat => (mag p.1, mag p.2, ())) (fun p => (mag p.1).length ≤ 1000000000000 ∧ (mag p.2).length ≤ 1000000000000) (fun p => (avA p.1 p.2, ()))
noncomputable def arM : List Int × List Int × Unit → Option (List Int × Unit) := acQ (fun p : Nat × Nat => (mag p.1, mag p.2, ())) (fun p => (mag p.1).length ≤ 1000000000000 ∧ (mag p.2).length ≤ 1000000000000) (fun p => (mag (p.1 + p.2), ()))
noncomputable def at9 : List Int × List Int × Unit → Option (List Int × Unit) := acQ (fun p : Nat × Nat => (mag p.1, mag p.2, ())) (fun p => (mag p.1).length ≤ 1000000000000 ∧ p.2 ≤ p.1) (fun p => (mag (p.1 - p.2), ()))
noncomputable def akB : List Int × List Int × Unit → Option (List Int × Unit) := acQ (fun p : Nat × Nat => (mag p.1, mag p.2, ())) (fun p => (mag p.1).length ≤ 1000000000000 ∧ (mag p.2).length ≤ 1000000000000) (fun p => (mag (p.1 * p.2), ()))
noncomputable def at8 : List Int × Int × Unit → Option (List Int × Int × Unit) := acQ (fun p : Nat × Nat => (mag p.1, (p.2 : Int), ())) (fun p => (mag p.1).length ≤ 1000000000000 ∧ 0 < p.2 ∧ p.2 < 4294967296) (fun p => (mag (p.1 / p.2), ((p.1 % p.2 : Nat) : Int), ()))
noncomputable def ahI (x : Int × Unit) : Option (List Int × Unit) := if 0 ≤ x.1 ∧ x.1 < 18446744073709551616 then some (mag x.1.toNat, ()) else none
open Classical in
noncomputable def akD (x : List UInt8 × Unit) : Option (List Int × Unit) := if isD x.1 ∧ x.1 ≠ [] ∧ x.1.length ≤ 1000000000000 then some (mag (num x.1), ()) else none
noncomputable def alO : List Int × Unit → Option (Int × Unit) := acQ (fun n : Nat => (mag n, ())) (fun n => (mag n).length ≤ 1000000000000) (fun n => (((aa2 n).length : Int), ()))
noncomputable def alQ : List Int × Unit → Option (List UInt8 × Unit) := acQ (fun n : Nat => (mag n, ())) (fun n => (mag n).length ≤ 1000000) (fun n => (aa2 n, ()))
noncomputable def alP : List Int × List Int × Unit → Option (List Int × List Int × Unit) := acQ (fun p : Nat × Nat => (mag p.1, mag p.2, ())) (fun p => (mag p.1).length ≤ 100000000000 ∧ (mag p.2).length ≤ 100000000000 ∧ p.2 ≠ 0) (fun p => (mag (p.1 / p.2), mag (p.1 % p.2), ()))
theorem aGY {B : Int} (hB : 0 < B) {i j : Nat} (h : i ≤ j) : B ^ i ≤ B ^ j := by
 obtain ⟨k, rfl⟩ := Nat.exists_eq_add_of_le h
 rw [wi]
 have h1 : 1 ≤ B ^ k := yG hB
 have h2 : 0 < B ^ i := yG hB
 have := zE h1 (xo h2)
 omega
theorem aaM {α : Type} (l : List α) (k : Nat) (d : α) : gi l (k : Int) d = l.getD k d := by unfold gi; rw [zp]
theorem ajN {l : List Int} {k : Nat} (h : k < l.length) (d : Int) : l.getD k d = l[k] := by simp [h]
theorem ah7 {l : List Int} {k : Nat} (h : l.length ≤ k) (d : Int) : l.getD k d = d := by simp [h]
theorem aa3 {B : Int} (hB : 0 < B) {l : List Int} (h : Dg B l) (k : Nat) : 0 ≤ l.getD k 0 ∧ l.getD k 0 < B := by
 rcases zr k l.length with hk | hk
 ·rw [ajN hk]; exact aF6 h hk
 ·rw [ah7 hk]; omega
theorem aa6 (B : Int) (l : List Int) (k : Nat) : V B (l.take (k + 1)) = V B (l.take k) + B ^ k * l.getD k 0 := by
 rcases zr k l.length with hk | hk
 ·rw [ajN hk]; exact alN B hk
 ·rw [ah7 hk, zx zc, zx hk]; omega
theorem aaU (B : Int) (l : List Int) (k : Nat) : V B (l.drop k) = l.getD k 0 + B * V B (l.drop (k + 1)) := by
 rcases zr k l.length with hk | hk
 ·rw [ajN hk]; exact aPB B hk
 ·rw [ah7 hk, yv hk, yv zc]; simp [V]
theorem adB (B : Int) {l : List Int} {k : Nat} (h : l.length ≤ k) : V B (l.drop k) = 0 := by rw [yv h]; rfl
theorem abM (B : Int) {l : List Int} {k : Nat} (h : l.length ≤ k) : V B (l.take k) = V B l := by rw [zx h]
theorem acJ (B : Int) (l : List Int) (k : Nat) : V B l = V B (l.take k) + B ^ k * V B (l.drop k) := by
 rcases zr k l.length with hk | hk
 ·exact aSZ B l k zc
 ·rw [adB B hk, abM B hk]; omega
theorem adP {B : Int} (hB : 0 < B) {l : List Int} (h : Dg B l) (k : Nat) : V B (l.take k) < B ^ k := by
 rcases zr k l.length with hk | hk
 ·have := aLR hB (acI h k)
  rwa [zK, yI zc] at this
 ·rw [abM B hk]
  have h1 := aLR hB h
  have h2 : B ^ l.length ≤ B ^ k := aGY hB hk
  omega
theorem aPA {B : Int} (hB : 1 ≤ B) {l : List Int} (h : Dg B l) (k : Nat) : V B (l.drop k) ≤ V B l := by
 have h1 := acJ B l k
 have h2 := aaT zc (acI h k)
 have h3 := aaT zc (acZ h k)
 have h4 : 1 * V B (l.drop k) ≤ B ^ k * V B (l.drop k) := zF (yG zc) h3
 omega
theorem aCs {B : Int} (hB : 1 ≤ B) (k : Nat) : 1 ≤ B ^ k := yG zc
theorem aB6 (l : List Int) (k : Nat) (x : Int) : (l.set k x).take k = l.take k := by
 rw [List.take_set_of_le (zq k)]
theorem aLQ (B : Int) {l : List Int} {k : Nat} (hk : k < l.length) (x : Int) : V B ((l.set k x).take (k + 1)) = V B (l.take k) + B ^ k * x := by
 rw [aa6, aB6, ajN (by simpa using hk)]
 simp
theorem aiA (l : List Int) {k j : Nat} (h : k < j) (x : Int) : (l.set k x).drop j = l.drop j := by
 rw [List.drop_set_of_lt h]
theorem azL (B : Int) : ∀ {l : List Int} {k : Nat}, k < l.length → ∀ x, V B (l.set k x) = V B l + B ^ k * (x - l.getD k 0)
 | [], k, h, _ => by simp at h
 | d :: l, 0, _, x => by simp [V]; omega
 | d :: l, k + 1, h, x => by
  simp only [List.set_cons_succ, V, List.getD_cons_succ]
  rw [azL B (by simpa using h) x, zY]
  grind
theorem apL (l : List Int) {k j : Nat} (h : k ≠ j) (x : Int) : (l.set k x).getD j 0 = l.getD j 0 := by
 simp [yp, List.getElem?_set_ne h]
theorem apM {l : List Int} {k : Nat} (h : k < l.length) (x : Int) : (l.set k x).getD k 0 = x := by
 simp [yp, h]
theorem amQ {B : Int} (hB : 1 < B) {l : List Int} (h : Dg B l) {k : Nat} (hv : V B l < B ^ k) : ∀ j, k ≤ j → l.getD j 0 = 0 := by
 intro j hj
 have h1 := acJ B l j
 have h2 := aaT zc (acI h j)
 have h3 := aaT zc (acZ h j)
 have h4 := aaU B l j
 have h5 := aaT zc (acZ h (j + 1))
 have h6 := aa3 zc h j
 have h7 : B ^ k ≤ B ^ j := aGY zc hj
 have h8 := yi (show 0 ≤ B by omega) h5
 rcases zS 0 (V B (l.drop j)) with h9 | h9
 ·have : B ^ j * 1 ≤ B ^ j * V B (l.drop j) := zE zc (by have := aCs (show 1 ≤ B by omega) j; omega)
  omega
 ·omega
theorem aJA {B : Int} (hB : 0 < B) {l : List Int} (h : Dg B l) (hv : l = [] ∨ B ^ (l.length - 1) ≤ V B l) : Cn l := by
 rcases hv with rfl | hv
 ·exact avI
 ·rcases zD l.length with hl | hl
  ·rw [zW.1 hl]; exact avI
  ·unfold Cn
   rw [yQ, zR zc]
   intro h0
   injection h0 with h0
   have h1 := alN B (l := l) (i := l.length - 1) zc
   rw [h0, show l.length - 1 + 1 = l.length by omega, zt] at h1
   have h2 := adP hB h (l.length - 1)
   omega
theorem mag_length_le_iff {n k : Nat} : (mag n).length ≤ k ↔ n < 1000000000 ^ k := by
 constructor
 ·intro h
  have h1 := axZ (B := 1000000000) zc n
  exact ye h1 (zV zc h)
 ·intro h
  exact agT zc h
theorem abX {m n : Nat} (h : m ≤ n) : (mag m).length ≤ (mag n).length := by
 rw [mag_length_le_iff]
 exact Nat.lt_of_le_of_lt h (mag_length_le_iff.1 (zq _))
theorem ajM (m n : Nat) : (mag (m + n)).length ≤ max (mag m).length (mag n).length + 1 := by
 rw [mag_length_le_iff]
 have h1 := mag_length_le_iff.1 (Nat.le_max_left (mag m).length (mag n).length)
 have h2 := mag_length_le_iff.1 (Nat.le_max_right (mag m).length (mag n).length)
 rw [yz]
 have := yy (1000000000 ^ max (mag m).length (mag n).length) (show 2 ≤ 1000000000 by omega)
 omega
theorem agQ (m n : Nat) : (mag (m * n)).length ≤ (mag m).length + (mag n).length := by
 rw [mag_length_le_iff, xA]
 have h1 := mag_length_le_iff.1 (zq (mag m).length)
 have h2 := mag_length_le_iff.1 (zq (mag n).length)
 exact Nat.mul_lt_mul'' h1 h2
theorem mag_zero : mag 0 = [] := adO _
theorem mag_nil_iff {n : Nat} : mag n = [] ↔ n = 0 := by
 constructor
 ·intro h
  exact ad7 (h.trans mag_zero.symm)
 ·rintro rfl; exact mag_zero
theorem aqV {d : Nat} (h0 : d ≠ 0) (h1 : d < 1000000000) : mag d = [(d : Int)] := aBz zc h0 h1
theorem ao4 {m n : Nat} (h : (mag m).length < (mag n).length) : m < n := by
 have h1 := mag_length_le_iff.1 (zq (mag m).length)
 rcases zr m n with h2 | h2
 ·exact h2
 ·have := abX h2; omega
theorem adW {p q : Nat × Nat} (h : (mag p.1, mag p.2, ()) = (mag q.1, mag q.2, ())) : p = q := by
 injection h with h1 h2
 injection h2 with h2 _
 exact Prod.ext (ad7 h1) (ad7 h2)
theorem abL {n : Nat} (h : n < 10) : aa2 n = [UInt8.ofNat (48 + n)] := by unfold aa2; rw [Lib.decDigits, dif_pos h]
theorem afQ {n : Nat} (h : 10 ≤ n) : aa2 n = aa2 (n / 10) ++ [UInt8.ofNat (48 + n % 10)] := by
 unfold aa2; conv => lhs; rw [Lib.decDigits, dif_neg zc]
theorem ae9 (n : Nat) : aa2 n ≠ [] := by
 rcases zr n 10 with h | h
 ·rw [abL h]; simp
 ·rw [afQ h]; simp
theorem aGr {α : Type} {P : List α → Prop} (nil : P []) (snoc : ∀ l a, P l → P (l ++ [a])) (l : List α) : P l := by
 have H : ∀ m : List α, P m.reverse := by
  intro m
  induction m with
  | nil => exact nil
  | cons a m ih => rw [List.reverse_cons]; exact snoc _ _ ih
 have := H l.reverse
 rwa [List.reverse_reverse] at this
theorem av7 {d : Nat} (h : d < 10) : (UInt8.ofNat (48 + d)).toNat = 48 + d := by simp [UInt8.toNat_ofNat]; omega
theorem isD_append {s t : List UInt8} : isD (s ++ t) ↔ isD s ∧ isD t := by
 constructor
 ·intro h
  exact ⟨fun c hc => h c (vE _ hc), fun c hc => h c (List.mem_append_right _ hc)⟩
 ·rintro ⟨h1, h2⟩ c hc
  rcases zJ.1 hc with h | h
  ·exact h1 c h
  ·exact h2 c h
theorem aOi {d : Nat} (h : d < 10) : isD [UInt8.ofNat (48 + d)] := by
 intro c hc
 have := zZ.1 hc
 subst this
 rw [av7 h]; omega
theorem ag2 (a : Nat) (c : UInt8) (s : List UInt8) : az7 a (c :: s) = az7 (a * 10 + dv c) s := List.foldl_cons ..
theorem aHi (s t : List UInt8) (a : Nat) : az7 a (s ++ t) = az7 (az7 a s) t := List.foldl_append ..
theorem aQO (s : List UInt8) : ∀ a : Nat, az7 a s = a * 10 ^ s.length + az7 0 s := by
 induction s with
 | nil => intro a; simp [az7]
 | cons c s ih =>
  intro a
  rw [ag2, ag2, vC, zu]
  generalize dv c = x
  rw [ih (a * 10 + x), ih x, zG, yz]
  generalize 10 ^ s.length = y
  rw [yM, yK y 10, wx, Nat.add_assoc]
theorem aBy {d : Nat} (h : d < 10) : dv (UInt8.ofNat (48 + d)) = d := by unfold dv; rw [av7 h]; omega
theorem aNV (s : List UInt8) (a : Nat) : az7 a s = a * 10 ^ s.length + num s := aQO s a
theorem anX (s t : List UInt8) : num (s ++ t) = num s * 10 ^ t.length + num t := by
 show az7 0 (s ++ t) = _
 rw [aHi, aNV]
 rfl
theorem aSr {d : Nat} (h : d < 10) : num [UInt8.ofNat (48 + d)] = d := by
 show az7 0 [_] = d
 rw [ag2, aBy h]; simp [az7]
theorem anV (s : List UInt8) (c : UInt8) : num (s ++ [c]) = num s * 10 + dv c := by
 rw [anX]; simp [num, az7]
theorem aEU {s : List UInt8} : isD s → num s < 10 ^ s.length := by
 induction s using aGr with
 | nil => intro _; simp [num, az7]
 | snoc s c ih =>
  intro h
  rw [isD_append] at h
  have h1 := ih h.1
  have h2 := h.2 c zi
  have h3 : dv c = c.toNat - 48 := rfl
  rw [anV, zH, yr, yz]
  omega
theorem alE (n : Nat) : isD (aa2 n) := by
 induction n using Nat.strongRecOn with
 | _ n ih =>
  rcases zr n 10 with h | h
  ·rw [abL h]; exact aOi h
  ·rw [afQ h, isD_append]
   exact ⟨ih (n / 10) zc, aOi zc⟩
theorem anW (n : Nat) : num (aa2 n) = n := by
 induction n using Nat.strongRecOn with
 | _ n ih =>
  rcases zr n 10 with h | h
  ·rw [abL h, aSr h]
  ·rw [afQ h, anV, ih (n / 10) zc, aBy zc]
   omega
theorem ai3 {m n : Nat} (h : aa2 m = aa2 n) : m = n := by rw [← anW m, ← anW n, h]
theorem af7 (n : Nat) : n < 10 ^ (aa2 n).length := by
 have := aEU (alE n)
 rwa [anW] at this
theorem acW : ∀ {k n : Nat}, n < 10 ^ (k + 1) → (aa2 n).length ≤ k + 1
 | 0, n, h => by rw [abL (by simpa using h)]; simp
 | k + 1, n, h => by
  rcases zr n 10 with h9 | h9
  ·rw [abL h9]; simp
  ·have := acW (k := k) (n := n / 10) (by rw [yL zc]; rw [yz] at h; exact h)
   rw [afQ h9]; simp; omega
theorem aiC (n : Nat) : 1 ≤ (aa2 n).length := ya.2 (ae9 n)
theorem ac8 {k n : Nat} (hk : 1 ≤ k) : (aa2 n).length ≤ k ↔ n < 10 ^ k := by
 constructor
 ·intro h
  exact ye (af7 n) (zV zc h)
 ·intro h
  obtain ⟨j, rfl⟩ : ∃ j, k = j + 1 := ⟨k - 1, by omega⟩
  exact acW h
theorem ajQ {k n : Nat} (h1 : 10 ^ k ≤ n) (h2 : n < 10 ^ (k + 1)) : (aa2 n).length = k + 1 := by
 have h3 := acW h2
 rcases zr k (aa2 n).length with h | h
 ·omega
 ·have := af7 n
  have h4 := zV (n := 10) zc h
  omega
theorem aGX {n : Nat} (hn : n ≠ 0) : 10 ^ ((aa2 n).length - 1) ≤ n := by
 rcases zr n (10 ^ ((aa2 n).length - 1)) with h | h
 ·have h1 := aiC n
  rcases zr 1 (aa2 n).length with h2 | h2
  ·have := (ac8 (k := (aa2 n).length - 1) zc).2 h
   omega
  ·have : (aa2 n).length - 1 = 0 := zc
   rw [this] at h; simp at h; omega
 ·exact h
theorem aFw {s : List UInt8} : isD s → s ≠ [] → (s.head? ≠ some 48 ∨ s.length = 1) → s = aa2 (num s) := by
 induction s using aGr with
 | nil => intro _ h; exact absurd rfl h
 | snoc s c ih =>
  intro h _ hz
  rw [isD_append] at h
  have h2 := h.2 c zi
  have hdv : dv c = c.toNat - 48 := rfl
  have hc : c = UInt8.ofNat (48 + (c.toNat - 48)) := by
   rw [show 48 + (c.toNat - 48) = c.toNat by omega]; simp
  rw [anV]
  by_cases hs : s = []
  ·subst hs
   simp only [xk]
   rw [show num [] * 10 + dv c = c.toNat - 48 by simp [num, az7, hdv], abL zc, ← hc]
  ·have hz' : s.head? ≠ some 48 := by
    rcases hz with h0 | h0
    ·cases s with
     | nil => exact absurd rfl hs
     | cons a s => simpa using h0
    ·have := ya.2 hs
     rw [zH, yr] at h0; omega
   have h3 := ih h.1 hs (Or.inl hz')
   have h4 : 1 ≤ num s := by
    rcases zD (num s) with h0 | h0
    ·rw [h0, abL zc] at h3
     rw [h3] at hz'
     simp at hz'
    ·exact h0
   rw [afQ (n := num s * 10 + dv c) zc]
   rw [show (num s * 10 + dv c) / 10 = num s by omega, show (num s * 10 + dv c) % 10 = c.toNat - 48 by omega, ← h3, ← hc]
theorem aOZ {n : Nat} (h : n ≠ 0) : (aa2 n).head? ≠ some 48 := by
 induction n using Nat.strongRecOn with
 | _ n ih =>
  rcases zr n 10 with h9 | h9
  ·rw [abL h9]
   simp only [wZ]
   intro h0
   injection h0 with h0
   have := av7 h9
   rw [h0] at this
   simp at this; omega
  ·rw [afQ h9]
   have := ih (n / 10) zc zc
   cases hd : aa2 (n / 10) with
   | nil => exact absurd hd (ae9 _)
   | cons a l => rw [hd] at this; simpa using this
theorem aeQ (n : Nat) : dec (n : Int) = aa2 n := by unfold dec; rw [if_neg zc]; simp
theorem aiB {z : Int} (h : z < 0) : dec z = 45 :: aa2 z.natAbs := by unfold dec; rw [if_pos h]
theorem abZ {z : Int} (h : 0 ≤ z) : dec z = aa2 z.natAbs := by unfold dec; rw [if_neg zc]
theorem adY (n : Nat) : (aa2 n).head? ≠ some 45 := by
 cases hd : aa2 n with
 | nil => simp
 | cons a l =>
  have := alE n a (by rw [hd]; simp)
  simp only [wZ]
  intro h
  injection h with h
  rw [h] at this
  simp at this
theorem ajP {a b : Int} (h : dec a = dec b) : a = b := by
 rcases zS a 0 with ha | ha <;> rcases zS b 0 with hb | hb
 ·rw [aiB ha, aiB hb] at h
  injection h with _ h
  have := ai3 h
  omega
 ·rw [aiB ha, abZ hb] at h
  have := adY b.natAbs
  rw [← h] at this
  simp at this
 ·rw [aiB hb, abZ ha] at h
  have := adY a.natAbs
  rw [h] at this
  simp at this
 ·rw [abZ ha, abZ hb] at h
  have := ai3 h
  omega
theorem alD (z : Int) : (dec z).length ≤ (aa2 z.natAbs).length + 1 := by unfold dec; split <;> simp
theorem sd {p : Prop} (h : p := by first | omega | ((try simp only [ym, yk, yF, xf, beq_eq_false_iff_ne, bne_eq_false_iff_eq, zT, yC]) <;> (try simp only [aaC, inb, inc, ge_iff_le, gt_iff_lt, zp, asT, ne_eq]) <;> omega) | ((try simp only [ym, yk, yF, xf, beq_eq_false_iff_ne, bne_eq_false_iff_eq, zT, yC]) <;> (try simp only [aaC, inb, inc, ge_iff_le, gt_iff_lt, zp, asT, ne_eq]) <;> (simp (disch := omega) only [aaA, aaP, aa0, abO, aaM, zu, zp, aaC]; omega)) | fail) : p := h
theorem za {α : Type} {x y : TT α} {r : Option α} (k : y.toO = r) (h : x.toO = y.toO := by first | exact uV rfl | exact uB rfl | exact uN sd rfl | exact uT sd rfl | exact uF sd rfl | exact uN (by simp) rfl) : x.toO = r := h.trans k
theorem sn {p : Prop} (h : p := by (try simp only [aaC, inb, inc, ge_iff_le, gt_iff_lt, zp, asT, ne_eq]); omega) : p := h
def aCu (k n : Nat) : List UInt8 := List.replicate (k - (aa2 n).length) 48 ++ aa2 n
theorem aQw {r : Nat} (h : r < 10) : aCu 1 r = [UInt8.ofNat (48 + r)] := by
 unfold aCu; rw [abL h]; rfl
theorem aNh {k r : Nat} (hk : 1 ≤ k) : aCu (k + 1) r = aCu k (r / 10) ++ [UInt8.ofNat (48 + r % 10)] := by
 unfold aCu
 rcases zr r 10 with h | h
 ·rw [abL h, xb h, yE h, abL (by omega : 0 < 10)]
  obtain ⟨j, rfl⟩ : ∃ j, k = j + 1 := ⟨k - 1, by omega⟩
  have e1 : j + 1 + 1 - [UInt8.ofNat (48 + r)].length = j + 1 := zi
  have e2 : j + 1 - [UInt8.ofNat (48 + 0)].length = j := zi
  rw [e1, e2, wP]
  rfl
 ·rw [afQ h, zH, yr, Nat.add_sub_add_right, yT]
theorem aLo {q : Nat} (hq : q ≠ 0) : ∀ {k r : Nat}, 1 ≤ k → r < 10 ^ k → aa2 (q * 10 ^ k + r) = aa2 q ++ aCu k r := by
 intro k
 induction k with
 | zero => intro r h; omega
 | succ k ih =>
  intro r _ hr
  have h10 : 10 ≤ q * 10 ^ (k + 1) + r := by
   have h1 : 10 ^ (k + 1) ≤ q * 10 ^ (k + 1) := Nat.le_mul_of_pos_left _ zc
   have h2 : 10 ≤ 10 ^ (k + 1) := by
    have := zV (show 1 ≤ 10 by omega) (show 1 ≤ k + 1 by omega)
    simpa using this
   omega
  rw [afQ h10]
  have e1 : q * 10 ^ (k + 1) + r = 10 * (q * 10 ^ k) + r := by rw [yz]; congr 1; rw [← wx, yK]
  have ed : (q * 10 ^ (k + 1) + r) / 10 = q * 10 ^ k + r / 10 := by rw [e1]; omega
  have em : (q * 10 ^ (k + 1) + r) % 10 = r % 10 := by rw [e1]; omega
  rw [ed, em]
  rcases zD k with h | h
  ·subst h
   have hr' : r < 10 := by simpa using hr
   rw [xb hr', yE hr', aQw hr']
   simp
  ·have hr2 : r / 10 < 10 ^ k := by rw [yL zc]; rw [yz] at hr; exact hr
   rw [ih h hr2, aNh h, yT]
def aDJ : List Int → List UInt8
 | [] => []
 | d :: r => match r with
  | [] => aa2 d.toNat
  | _ :: _ => aDJ r ++ aCu 9 d.toNat
theorem aDp (n : Nat) (hn : n ≠ 0) : aDJ (mag n) = aa2 n := by
 induction n using Nat.strongRecOn with
 | _ n ih =>
  unfold mag
  rw [ai2 zc hn]
  by_cases hq : n / 1000000000 = 0
  ·rw [hq, adO]
   have : n < 1000000000 := by
    rcases zr n 1000000000 with h | h
    ·exact h
    ·have := Nat.div_pos h zc; omega
   simp only [aDJ, zp]
   rw [yE this]
  ·have h1 := ih (n / 1000000000) (wY zc zc) hq
   unfold mag at h1
   cases hd : avP 1000000000 (n / 1000000000) with
   | nil => exact absurd hd (apS zc hq)
   | cons e r =>
    rw [hd] at h1
    simp only [aDJ, zp]
    have h2 := aLo hq (k := 9) (r := n % 1000000000) zc (yU _ zc)
    have e : n / 1000000000 * 10 ^ 9 + n % 1000000000 = n := by
     have := Nat.div_add_mod n 1000000000
     omega
    rw [e] at h2
    rw [h2, ← h1]
    rfl
theorem aFM {l : List Int} {k : Nat} (hk : k + 1 = l.length) : aDJ (l.drop k) = aa2 (l[k]'zc).toNat := by
 rw [yu zc, List.drop_eq_nil_of_le zc]
 rfl
theorem aBJ {l : List Int} {k : Nat} (hk : k + 1 < l.length) : aDJ (l.drop k) = aDJ (l.drop (k + 1)) ++ aCu 9 (l[k]'zc).toNat := by
 rw [yu zc, yu (i := k + 1) hk]
 rfl
theorem aRm {d : Nat} (h : d < 1000000000) : (aa2 d).length ≤ 9 := acW (k := 8) h
theorem aQx {d : Nat} (h : d < 1000000000) : (aCu 9 d).length = 9 := by
 have := aRm h
 unfold aCu; simp; omega
theorem av8 : ∀ {l : List Int}, Dg 1000000000 l → (aDJ l).length ≤ 9 * l.length
 | [], _ => by simp [aDJ]
 | [d], h => by
  have := (auG h).2
  have := aRm (d := d.toNat) zc
  simp only [aDJ, yr]; omega
 | d :: e :: r, h => by
  have h1 := av8 (ap4 h)
  have := (auG h).2
  have h2 := aQx (d := d.toNat) zc
  rw [show aDJ (d :: e :: r) = aDJ (e :: r) ++ aCu 9 d.toNat from rfl, zH]
  simp only [zG] at h1 ⊢
  omega
def Bd (k n : Nat) : Prop := (mag n).length ≤ 1000000 * 4 ^ k
theorem aaF {k j n : Nat} (h : Bd k n) (hk : k ≤ j) : Bd j n := zC h (yy _ (zV zc hk))
theorem an9 {k m n : Nat} (h : Bd k n) (hm : m ≤ n) : Bd k m := zC (abX hm) h
theorem aaW {k m n : Nat} (h1 : Bd k m) (h2 : Bd k n) : Bd (k + 1) (m * n) := by
 have := agQ m n
 unfold Bd at *
 rw [yz]
 omega
theorem aaZ {k m n : Nat} (h1 : Bd k m) (h2 : Bd k n) : Bd (k + 1) (m + n) := by
 have := ajM m n
 have h3 : 1 ≤ 4 ^ k := xp zc
 unfold Bd at *
 rw [yz]
 omega
theorem aaS {k m : Nat} (n : Nat) (h1 : Bd k m) : Bd k (m / n) := an9 h1 (xB _ _)
theorem aa1 {k m : Nat} (n : Nat) (h1 : Bd k m) : Bd k (m % n) := an9 h1 (Nat.mod_le _ _)
theorem aaY {k m n : Nat} (h1 : Bd k m) (h2 : Bd k n) : Bd k (Nat.gcd m n) := by
 rcases zD m with h | h
 ·subst h; rw [Nat.gcd_zero_left]; exact h2
 ·exact an9 h1 (Nat.gcd_le_left _ h)
theorem aaE {k : Nat} {a b : Int} (h1 : Bd k a.natAbs) (h2 : Bd k b.natAbs) : Bd (k + 1) (a + b).natAbs := an9 (aaZ h1 h2) (Int.natAbs_add_le a b)
theorem aaB {k : Nat} {a b : Int} (h1 : Bd k a.natAbs) (h2 : Bd k b.natAbs) : Bd (k + 1) (a * b).natAbs := by rw [yD]; exact aaW h1 h2
theorem aaV {k : Nat} {a : Int} (h1 : Bd k a.natAbs) : Bd k (-a).natAbs := by rw [xH]; exact h1
theorem aaN {k n : Nat} (h : Bd k n) : Bd k (n : Int).natAbs := h
theorem aaH {n : Nat} (h : n < 1000000000000000000000000000) : Bd 0 n := by
 unfold Bd
 have : (mag n).length ≤ 3 := mag_length_le_iff.2 zc
 omega
theorem zd {p : Prop} (h : p := by repeat (first | assumption | exact aaF (by assumption) (by omega) | exact aaH (by omega) | refine aaY ?_ ?_ | refine aaS _ ?_ | refine aa1 _ ?_ | refine aaE ?_ ?_ | refine aaB ?_ ?_ | refine aaV ?_ | refine aaW ?_ ?_ | refine aaZ ?_ ?_ | refine aaN ?_)) : p := h
theorem agR {n k : Nat} (h : (aa2 n).length ≤ k) : (mag n).length ≤ k := by
 rw [mag_length_le_iff]
 have h1 := af7 n
 have h2 : (10 : Nat) ^ (aa2 n).length ≤ 10 ^ (9 * k) := zV zc zc
 have h3 : (10 : Nat) ^ (9 * k) = 1000000000 ^ k := by rw [xL]
 omega
theorem ajR {n k : Nat} (h : (mag n).length ≤ k) : (aa2 n).length ≤ 9 * k + 1 := by
 rw [mag_length_le_iff] at h
 have h3 : (10 : Nat) ^ (9 * k) = 1000000000 ^ k := by rw [xL]
 have h4 : (10 : Nat) ^ (9 * k) ≤ 10 ^ (9 * k + 1) := zV zc zc
 exact acW zc
theorem aTC {n : Nat} (h : (aa2 n).length ≤ 1000000) : Bd 0 n := agR h
@[reducible] def sg (z : Int) : List Int × Bool × Unit := (mag z.natAbs, decide (z < 0), ())
theorem aqA {a b : Int} (h : sg a = sg b) : a = b := by
 obtain ⟨h1, h2⟩ := Prod.mk.inj h
 obtain ⟨h2, -⟩ := Prod.mk.inj h2
 have := ad7 h1
 simp only [decide_eq_decide] at h2
 omega
@[reducible] def rt (q : Rat) : (List Int × Bool × Unit) × List Int × Unit := (sg q.num, mag q.den, ())
theorem aAM {a b : Rat} (h : rt a = rt b) : a = b := by
 obtain ⟨h1, h2⟩ := Prod.mk.inj h
 obtain ⟨h2, -⟩ := Prod.mk.inj h2
 exact Rat.ext (aqA h1) (ad7 h2)
@[reducible] def fx (q : Rat) : List UInt8 × List UInt8 × Unit := (dec q.num, aa2 q.den, ())
theorem af3 {a b : Rat} (h : fx a = fx b) : a = b := by
 obtain ⟨h1, h2⟩ := Prod.mk.inj h
 obtain ⟨h2, -⟩ := Prod.mk.inj h2
 exact Rat.ext (ajP h1) (ai3 h2)
def Fit (z : Int) : Prop := (aa2 z.natAbs).length ≤ 600
instance (z : Int) : Decidable (Fit z) := inferInstanceAs (Decidable (_ ≤ _))
def ab6 (q : Rat) : Prop := Fit q.num ∧ Fit q.den
instance (q : Rat) : Decidable (ab6 q) := inferInstanceAs (Decidable (_ ∧ _))
theorem aiE {z : Int} (h : Fit z) : Bd 0 z.natAbs := aTC (zC h zc)
noncomputable def rdW (s : List UInt8) : Option Int := open Classical in if h : ∃ z : Int, Fit z ∧ dec z = s then some h.choose else none
theorem amB {z : Int} (h : Fit z) : rdW (dec z) = some z := by
 have hex : ∃ w : Int, Fit w ∧ dec w = dec z := ⟨z, h, rfl⟩
 unfold rdW
 rw [dif_pos hex, ajP hex.choose_spec.2]
theorem ae2 {s : List UInt8} {z : Int} (h : rdW s = some z) : Fit z ∧ s = dec z := by
 unfold rdW at h
 split at h
 ·rename_i hex
  injection h with h
  subst h
  exact ⟨hex.choose_spec.1, hex.choose_spec.2.symm⟩
 ·cases h
theorem aIy {s : List UInt8} (h : ∀ z : Int, Fit z → dec z ≠ s) : rdW s = none := by
 unfold rdW
 rw [dif_neg (fun ⟨z, h1, h2⟩ => h z h1 h2)]
noncomputable def rdF (s : List UInt8 × List UInt8 × Unit) : Option Rat := open Classical in if h : ∃ q : Rat, ab6 q ∧ fx q = s then some h.choose else none
theorem afD {q : Rat} (h : ab6 q) : rdF (fx q) = some q := by
 have hex : ∃ w : Rat, ab6 w ∧ fx w = fx q := ⟨q, h, rfl⟩
 unfold rdF
 rw [dif_pos hex, af3 hex.choose_spec.2]
theorem ac0 {s : List UInt8 × List UInt8 × Unit} {q : Rat} (h : rdF s = some q) : ab6 q ∧ s = fx q := by
 unfold rdF at h
 split at h
 ·rename_i hex
  injection h with h
  subst h
  exact ⟨hex.choose_spec.1, hex.choose_spec.2.symm⟩
 ·cases h
theorem aCh {s : List UInt8 × List UInt8 × Unit} (h : ∀ q : Rat, ab6 q → fx q ≠ s) : rdF s = none := by
 unfold rdF
 rw [dif_neg (fun ⟨z, h1, h2⟩ => h z h1 h2)]
def wrW (z : Int) : List UInt8 × Int × Unit := if Fit z then (dec z, 0, ()) else ([], 6, ())
def wrF (q : Rat) : (List UInt8 × List UInt8 × Unit) × Int × Unit := if ab6 q then (fx q, 0, ()) else (([], [], ()), 6, ())
def ab4 (x : List UInt8 × List UInt8 × Unit) : Option (List UInt8 × Bool × Unit) := some (if x.2.1.isPrefixOf x.1 then (x.1.drop x.2.1.length, true, ()) else (x.1, false, ()))
theorem ar9 (n : Nat) : adQ (mag n, ()) = some (decide (n = 0), ()) := by
 unfold adQ
 rcases zD n with h | h
 ·subst h; simp [mag_zero, len]
 ·have : (mag n) ≠ [] := fun h2 => by have := mag_nil_iff.1 h2; omega
  have h3 : (mag n).length ≠ 0 := fun h2 => this (zW.1 h2)
  have : (len (mag n) == 0) = false := by rw [aaC, beq_eq_false_iff_ne]; omega
  rw [this, zn zc]
theorem avG {a b : Nat} (h1 : Bd 8 a) (h2 : Bd 8 b) : aeB (mag a, mag b, ()) = some (avA a b, ()) := aaG (enc := fun p : Nat × Nat => (mag p.1, mag p.2, ())) (a, b) ⟨zC h1 zf, zC h2 zf⟩ (fun b hb => adW hb)
theorem aF3 {a b : Nat} (h1 : Bd 8 a) (h2 : Bd 8 b) : am9 (mag a, mag b, ()) = some (mag (a + b), ()) := aaG (enc := fun p : Nat × Nat => (mag p.1, mag p.2, ())) (a, b) ⟨zC h1 zf, zC h2 zf⟩ (fun b hb => adW hb)
theorem aBU {a b : Nat} (h1 : Bd 8 a) (h2 : b ≤ a) : akL (mag a, mag b, ()) = some (mag (a - b), ()) := aaG (enc := fun p : Nat × Nat => (mag p.1, mag p.2, ())) (a, b) ⟨zC h1 zf, h2⟩ (fun b hb => adW hb)
theorem ahR {a b : Nat} (h1 : Bd 8 a) (h2 : Bd 8 b) : acM (mag a, mag b, ()) = some (mag (a * b), ()) := aaG (enc := fun p : Nat × Nat => (mag p.1, mag p.2, ())) (a, b) ⟨zC h1 zf, zC h2 zf⟩ (fun b hb => adW hb)
theorem aDA {n : Nat} (h : n < 18446744073709551616) : abT ((n : Int), ()) = some (mag n, ()) := by
 unfold abT
 rw [if_pos zm]
 simp
theorem aL3 {n : Nat} (h : Bd 8 n) : ahQ (aa2 n, ()) = some (mag n, ()) := by
 unfold ahQ
 have hl : (aa2 n).length ≤ 1000000000000 :=  zC (ajR h) zf
 rw [if_pos ⟨alE n, ae9 n, hl⟩]
 simp only [anW]
theorem az0 {n : Nat} (h : Bd 8 n) : aiM (mag n, ()) = some (((aa2 n).length : Int), ()) := aaG (enc := fun n : Nat => (mag n, ())) n (zC h zf) (fun b hb => ad7 (Prod.mk.inj hb).1)
theorem ap2 {n : Nat} (h : Bd 0 n) : aiN (mag n, ()) = some (aa2 n, ()) := aaG (enc := fun n : Nat => (mag n, ())) n (zC h zf) (fun b hb => ad7 (Prod.mk.inj hb).1)
theorem acG {a b : Nat} (h1 : Bd 8 a) (h2 : Bd 8 b) (h3 : b ≠ 0) : abI (mag a, mag b, ()) = some (mag (a / b), mag (a % b), ()) := aaG (enc := fun p : Nat × Nat => (mag p.1, mag p.2, ())) (a, b) ⟨zC h1 zf, zC h2 zf, h3⟩ (fun b hb => adW hb)
theorem aoP {a b : Nat} (h1 : Bd 8 a) (h2 : Bd 8 b) : ahK (mag a, mag b, ()) = some (mag (Nat.gcd a b), ()) := aaG (enc := fun p : Nat × Nat => (mag p.1, mag p.2, ())) (a, b) ⟨zC h1 zf, zC h2 zf⟩ (fun b hb => adW hb)
theorem azS (n : Nat) : aiG (mag n, ()) = some (decide (n = 0), ()) := by
 unfold aiG
 rcases zD n with h | h
 ·subst h; simp [mag_zero, len]
 ·have : (mag n) ≠ [] := fun h2 => by have := mag_nil_iff.1 h2; omega
  have h3 : (mag n).length ≠ 0 := fun h2 => this (zW.1 h2)
  have : (len (mag n) == 0) = false := by rw [aaC, beq_eq_false_iff_ne]; omega
  rw [this, zn zc]
theorem aFW {a b : Nat} (h1 : Bd 8 a) (h2 : Bd 8 b) : am4 (mag a, mag b, ()) = some (avA a b, ()) := aaG (enc := fun p : Nat × Nat => (mag p.1, mag p.2, ())) (a, b) ⟨zC h1 zf, zC h2 zf⟩ (fun b hb => adW hb)
theorem aFV {a b : Nat} (h1 : Bd 8 a) (h2 : Bd 8 b) : arM (mag a, mag b, ()) = some (mag (a + b), ()) := aaG (enc := fun p : Nat × Nat => (mag p.1, mag p.2, ())) (a, b) ⟨zC h1 zf, zC h2 zf⟩ (fun b hb => adW hb)
theorem aLT {a b : Nat} (h1 : Bd 8 a) (h2 : b ≤ a) : at9 (mag a, mag b, ()) = some (mag (a - b), ()) := aaG (enc := fun p : Nat × Nat => (mag p.1, mag p.2, ())) (a, b) ⟨zC h1 zf, h2⟩ (fun b hb => adW hb)
theorem auE {a b : Nat} (h1 : Bd 8 a) (h2 : Bd 8 b) : akB (mag a, mag b, ()) = some (mag (a * b), ()) := aaG (enc := fun p : Nat × Nat => (mag p.1, mag p.2, ())) (a, b) ⟨zC h1 zf, zC h2 zf⟩ (fun b hb => adW hb)
theorem aLS {a d : Nat} (h1 : Bd 8 a) (h2 : 0 < d) (h3 : d < 4294967296) : at8 (mag a, (d : Int), ()) = some (mag (a / d), ((a % d : Nat) : Int), ()) := by
 refine aaG (enc := fun p : Nat × Nat => (mag p.1, (p.2 : Int), ())) (a, d) ⟨zC h1 zf, h2, h3⟩ (fun b hb => ?_)
 obtain ⟨e1, e2⟩ := Prod.mk.inj hb
 obtain ⟨e2, -⟩ := Prod.mk.inj e2
 exact Prod.ext (ad7 e1) (Int.ofNat.inj e2)
theorem aDx {n : Nat} (h : n < 18446744073709551616) : ahI ((n : Int), ()) = some (mag n, ()) := by
 unfold ahI
 rw [if_pos zm]
 simp
theorem azT {n : Nat} (h : Bd 8 n) : alO (mag n, ()) = some (((aa2 n).length : Int), ()) := aaG (enc := fun n : Nat => (mag n, ())) n (zC h zf) (fun b hb => ad7 (Prod.mk.inj hb).1)
theorem azV {n : Nat} (h : Bd 0 n) : alQ (mag n, ()) = some (aa2 n, ()) := aaG (enc := fun n : Nat => (mag n, ())) n (zC h zf) (fun b hb => ad7 (Prod.mk.inj hb).1)
theorem azU {a b : Nat} (h1 : Bd 8 a) (h2 : Bd 8 b) (h3 : b ≠ 0) : alP (mag a, mag b, ()) = some (mag (a / b), mag (a % b), ()) := aaG (enc := fun p : Nat × Nat => (mag p.1, mag p.2, ())) (a, b) ⟨zC h1 zf, zC h2 zf, h3⟩ (fun b hb => adW hb)
abbrev SgT := List Int × Bool × Unit
abbrev RtT := (List Int × Bool × Unit) × List Int × Unit
abbrev FxT := List UInt8 × List UInt8 × Unit
def BdQ (k : Nat) (q : Rat) : Prop := Bd k q.num.natAbs ∧ Bd k q.den
def avL (p q : Rat) : Int := if p < q then -1 else if p = q then 0 else 1
def fl (q : Rat) : Int := q.num / q.den
def aqS (q : Rat) (s : Nat) : Int := fl (q * (s : Rat) + mkRat 1 2)
def ofQ (n d : Int) : FxT × Int × Unit := if d = 0 then (([], [], ()), 7, ()) else wrF (Rat.divInt n d)
def abA (z : Int) : Prop := -9223372036854775808 ≤ z ∧ z ≤ 9223372036854775807
instance (z : Int) : Decidable (abA z) := inferInstanceAs (Decidable (_ ∧ _))
def abC (x : List Int × Bool × Unit) : Option (SgT × Unit) := some ((x.1, x.2.1 && !(len x.1 == 0), ()), ())
def ai6 (x : List Int × Bool × Unit) : Option (SgT × Unit) := some ((x.1, x.2.1 && !(len x.1 == 0), ()), ())
noncomputable def af0 : SgT × Unit → Option (SgT × Unit) := acQ (fun x : Int => (sg x, ())) (fun x => Bd 8 x.natAbs) (fun x => (sg (-x), ()))
noncomputable def akN : SgT × Unit → Option (Int × Unit) := acQ (fun x : Int => (sg x, ())) (fun x => Bd 8 x.natAbs) (fun x => (x.sign, ()))
noncomputable def aoL : SgT × SgT × Unit → Option (SgT × Unit) := acQ (fun x : Int × Int => (sg x.1, sg x.2, ())) (fun x => Bd 7 x.1.natAbs ∧ Bd 7 x.2.natAbs) (fun x => (sg (x.1 + x.2), ()))
noncomputable def arK : SgT × Unit → Option (SgT × Unit) := acQ (fun x : Int => (sg x, ())) (fun x => Bd 8 x.natAbs) (fun x => (sg (-x), ()))
noncomputable def aJq : SgT × SgT × Unit → Option (SgT × Unit) := acQ (fun x : Int × Int => (sg x.1, sg x.2, ())) (fun x => Bd 7 x.1.natAbs ∧ Bd 7 x.2.natAbs) (fun x => (sg (x.1 + x.2), ()))
noncomputable def azM : SgT × SgT × Unit → Option (SgT × Unit) := acQ (fun x : Int × Int => (sg x.1, sg x.2, ())) (fun x => Bd 7 x.1.natAbs ∧ Bd 7 x.2.natAbs) (fun x => (sg (x.1 - x.2), ()))
noncomputable def ai5 : SgT × SgT × Unit → Option (SgT × Unit) := acQ (fun x : Int × Int => (sg x.1, sg x.2, ())) (fun x => Bd 7 x.1.natAbs ∧ Bd 7 x.2.natAbs) (fun x => (sg (x.1 * x.2), ()))
noncomputable def akM : SgT × Unit → Option (List UInt8 × Unit) := acQ (fun x : Int => (sg x, ())) (fun x => Bd 0 x.natAbs) (fun x => (dec x, ()))
noncomputable def aeC : SgT × List Int × Unit → Option (SgT × Unit) := acQ (fun x : Int × Nat => (sg x.1, mag x.2, ())) (fun x => Bd 7 x.1.natAbs ∧ Bd 7 x.2) (fun x => (sg (x.1 * x.2), ()))
noncomputable def akO : SgT × List Int × Unit → Option (SgT × Unit) := acQ (fun x : Int × Nat => (sg x.1, mag x.2, ())) (fun x => Bd 7 x.1.natAbs ∧ Bd 7 x.2 ∧ x.2 ≠ 0) (fun x => (sg (x.1 / x.2), ()))
noncomputable def agI : List UInt8 × Unit → Option (SgT × Unit) := acQ (fun x : Int => (dec x, ())) (fun x => Bd 7 x.natAbs) (fun x => (sg x, ()))
noncomputable def afV (x : List UInt8 × Unit) : Option (SgT × Bool × Unit) := some (match rdW x.1 with | some z => (sg z, true, ()) | none => (([], false, ()), false, ()))
noncomputable def afX (x : List UInt8 × Unit) : Option (Int × Unit) := some (if (rdW x.1).isSome then 0 else 10, ())
noncomputable def afW (x : List UInt8 × List UInt8 × Unit) : Option (SgT × SgT × Int × Unit) := some (match rdW x.1, rdW x.2.1 with | some z, some w => (sg z, sg w, 0, ()) | _, _ => (([], false, ()), ([], false, ()), 10, ()))
noncomputable def adC : SgT × Unit → Option (List UInt8 × Int × Unit) := acQ (fun x : Int => (sg x, ())) (fun x => Bd 8 x.natAbs) (fun x => wrW x)
noncomputable def afI : RtT × Unit → Option (FxT × Int × Unit) := acQ (fun x : Rat => (rt x, ())) (fun x => BdQ 8 x) (fun x => wrF x)
noncomputable def alV : SgT × List Int × Unit → Option (RtT × Unit) := acQ (fun x : Int × Nat => (sg x.1, mag x.2, ())) (fun x => Bd 7 x.1.natAbs ∧ Bd 7 x.2 ∧ x.2 ≠ 0) (fun x => (rt (mkRat x.1 x.2), ()))
noncomputable def ajB : RtT × Unit → Option (RtT × Unit) := acQ (fun x : Rat => (rt x, ())) (fun x => BdQ 7 x) (fun x => (rt (-x), ()))
noncomputable def ajC : RtT × Unit → Option (RtT × Unit) := acQ (fun x : Rat => (rt x, ())) (fun x => BdQ 7 x ∧ x ≠ 0) (fun x => (rt x⁻¹, ()))
noncomputable def ar0 : RtT × RtT × Unit → Option (RtT × Unit) := acQ (fun x : Rat × Rat => (rt x.1, rt x.2, ())) (fun x => BdQ 3 x.1 ∧ BdQ 3 x.2) (fun x => (rt (x.1 + x.2), ()))
noncomputable def awB : RtT × RtT × Unit → Option (RtT × Unit) := acQ (fun x : Rat × Rat => (rt x.1, rt x.2, ())) (fun x => BdQ 3 x.1 ∧ BdQ 3 x.2) (fun x => (rt (x.1 - x.2), ()))
noncomputable def arZ : RtT × RtT × Unit → Option (RtT × Unit) := acQ (fun x : Rat × Rat => (rt x.1, rt x.2, ())) (fun x => BdQ 3 x.1 ∧ BdQ 3 x.2) (fun x => (rt (x.1 * x.2), ()))
noncomputable def aoJ : RtT × RtT × Unit → Option (Int × Unit) := acQ (fun x : Rat × Rat => (rt x.1, rt x.2, ())) (fun x => BdQ 3 x.1 ∧ BdQ 3 x.2) (fun x => (avL x.1 x.2, ()))
noncomputable def arY : RtT × List Int × Unit → Option (SgT × Unit) := acQ (fun x : Rat × Nat => (rt x.1, mag x.2, ())) (fun x => BdQ 1 x.1 ∧ Bd 1 x.2) (fun x => (sg (aqS x.1 x.2), ()))
noncomputable def abR (x : FxT × Unit) : Option (RtT × Bool × Unit) := some (match rdF x.1 with | some q => (rt q, true, ()) | none => ((([], false, ()), [], ()), false, ()))
noncomputable def akQ (x : FxT × Unit) : Option (Int × Unit) := some (if (rdF x.1).isSome then 0 else 20, ())
noncomputable def ar2 (x : List UInt8 × List UInt8 × Unit) : Option (FxT × Int × Unit) := some (match rdW x.1, rdW x.2.1 with | some n, some d => ofQ n d | _, _ => (([], [], ()), 10, ()))
noncomputable def alZ (x : Int × Int × Unit) : Option (FxT × Int × Unit) := if abA x.1 ∧ abA x.2.1 then some (ofQ x.1 x.2.1) else none
noncomputable def ar1 (x : FxT × Unit) : Option (Int × Int × Unit) := some (match rdF x.1 with | some q => (q.num.sign, 0, ()) | none => (0, 20, ()))
noncomputable def af1 (x : FxT × FxT × Unit) : Option (Int × Int × Unit) := some (match rdF x.1, rdF x.2.1 with | some p, some q => (avL p q, 0, ()) | _, _ => (0, 20, ()))
noncomputable def aMa (f : Rat → Rat → Rat) (x : FxT × FxT × Unit) : FxT × Int × Unit := match rdF x.1, rdF x.2.1 with | some p, some q => wrF (f p q) | _, _ => (([], [], ()), 20, ())
noncomputable def aeD (x : FxT × FxT × Unit) : Option (FxT × Int × Unit) := some (aMa (· + ·) x)
noncomputable def afA (x : FxT × FxT × Unit) : Option (FxT × Int × Unit) := some (aMa (· - ·) x)
noncomputable def adU (x : FxT × FxT × Unit) : Option (FxT × Int × Unit) := some (aMa (· * ·) x)
noncomputable def aeT (x : FxT × FxT × Unit) : Option (FxT × Int × Unit) := some (match rdF x.1, rdF x.2.1 with | some p, some q => if q = 0 then (([], [], ()), 7, ()) else wrF (p / q) | _, _ => (([], [], ()), 20, ()))
noncomputable def akP (x : FxT × Unit) : Option (List UInt8 × Int × Unit) := some (match rdF x.1 with | some q => (dec (fl q), 0, ()) | none => ([], 20, ()))
noncomputable def alW (x : FxT × Int × Unit) : Option (Int × Int × Unit) := some (match rdF x.1 with | some q => if x.2.1 < 1 ∨ x.2.1 > 1000000000000 then (0, 2, ()) else if abA (aqS q x.2.1.toNat) then (aqS q x.2.1.toNat, 0, ()) else (0, 6, ()) | none => (0, 20, ()))
noncomputable def avF (x : Int × Unit) : Option (List UInt8 × Unit) := if abA x.1 then some (dec x.1, ()) else none
noncomputable def alS (x : List UInt8 × Unit) : Option (Int × Int × Unit) := some (match rdW x.1 with | some z => if abA z then (z, 0, ()) else (0, 6, ()) | none => (0, 10, ()))
noncomputable def auA (x : List UInt8 × List UInt8 × Unit) : Option (List UInt8 × Int × Unit) := some (match rdW x.1, rdW x.2.1 with | some z, some w => wrW (z * w) | _, _ => ([], 10, ()))
noncomputable def auB (x : List UInt8 × List UInt8 × Unit) : Option (List UInt8 × List UInt8 × Int × Unit) := some (match rdW x.1, rdW x.2.1 with | some z, some w => if w = 0 then ([], [], 7, ()) else (dec (z / w), dec (z % w), 0, ()) | _, _ => ([], [], 10, ()))
noncomputable def am5 (x : List UInt8 × Int × Unit) : Option (List UInt8 × Int × Unit) := some (match rdW x.1 with | some z => if x.2.1 < 0 ∨ x.2.1 > 40 then ([], 2, ()) else wrW (z ^ x.2.1.toNat) | none => ([], 10, ()))
noncomputable def ad9 (k n : Nat) : Nat := open Classical in if h : ∃ r, r ^ k ≤ n ∧ n < (r + 1) ^ k then h.choose else 0
noncomputable def arN (x : List UInt8 × Int × Unit) : Option (List UInt8 × Int × Unit) := some (match rdW x.1 with | some z => if x.2.1 < 1 ∨ x.2.1 > 12 ∨ z < 0 then ([], 2, ()) else wrW (ad9 x.2.1.toNat z.natAbs) | none => ([], 10, ()))
noncomputable def alR : Int × Unit → Option (List Int × Unit) := acQ (fun x : Nat => ((x : Int), ())) (fun x => x ≤ 100000000) (fun x => (mag (10 ^ x), ()))
noncomputable def akC : List Int × Int × Unit → Option (List Int × Unit) := acQ (fun x : Nat × Nat => (mag x.1, (x.2 : Int), ())) (fun x => Bd 2 x.1 ∧ x.2 ≤ 40) (fun x => (mag (x.1 ^ x.2), ()))
noncomputable def arL : List Int × Int × Unit → Option (List Int × Unit) := acQ (fun x : Nat × Nat => (mag x.1, (x.2 : Int), ())) (fun x => Bd 0 x.1 ∧ 1 ≤ x.2 ∧ x.2 ≤ 12) (fun x => (mag (ad9 x.2 x.1), ()))
noncomputable def aPE : List UInt8 × Unit → Option (Int × Bool × Unit) := acQ (fun z : Int => (dec z, ())) abA (fun z => (z, false, ()))
theorem aTL {z : Int} (h : abA z) : aPE (dec z, ()) = some (z, false, ()) := aaG (enc := fun z : Int => (dec z, ())) z h (fun b hb => ajP (Prod.mk.inj hb).1)
open Classical in
noncomputable def aPD : List UInt8 × Int × Int × Unit → Option (Int × Bool × Unit) := acQ (fun z : Int => (dec z, 10, 64, ())) (fun z => (dec z).length ≤ 1000000000) (fun z => if abA z then (z, false, ()) else (if z < 0 then -9223372036854775808 else 9223372036854775807, true, ()))
open Classical in
theorem aTJ {z : Int} (h : (dec z).length ≤ 1000000000) : aPD (dec z, 10, 64, ()) = some (if abA z then (z, false, ()) else (if z < 0 then -9223372036854775808 else 9223372036854775807, true, ())) :=
 aaG (enc := fun z : Int => (dec z, (10 : Int), (64 : Int), ())) z h (fun b hb => ajP (Prod.mk.inj hb).1)
theorem aSs (s : List UInt8) (a : Nat) : a ≤ az7 a s := by
 rw [aNV]
 have := Nat.le_mul_of_pos_right a (show 0 < 10 ^ s.length from xp zc)
 omega
theorem aAG : ∀ {s : List UInt8} {a : Nat}, isD s → a < 18446744073709551616 → Lib.parseUint10 a s = if az7 a s < 18446744073709551616 then .ok (az7 a s) else .range
 | [], a, _, ha => by
  rw [show az7 a [] = a from rfl, if_pos ha]
  rfl
 | c :: s, a, h, ha => by
  have hc := h c zi
  have hs : isD s := fun d hd => h d (by simp [hd])
  have hge := aSs s (a * 10 + dv c)
  rw [ag2]
  simp only [Lib.parseUint10]
  rw [if_pos hc]
  have hdv : dv c = c.toNat - 48 := rfl
  by_cases h1 : 1844674407370955162 ≤ a
  ·rw [if_pos h1, if_neg zc]
  ·rw [if_neg h1]
   by_cases h2 : 18446744073709551616 ≤ a * 10 + (c.toNat - 48)
   ·rw [if_pos h2, if_neg zc]
   ·rw [if_neg h2]
    exact aAG hs zc
theorem aqG (n : Nat) : Lib.parseMag (aa2 n) = if n < 18446744073709551616 then .ok n else .range := by
 unfold Lib.parseMag
 rw [if_neg (ae9 n), aAG (alE n) zc]
 have : az7 0 (aa2 n) = n := anW n
 rw [this]
theorem aO0 (n : Nat) : ∃ c r, aa2 n = c :: r ∧ 48 ≤ c.toNat ∧ c.toNat ≤ 57 := by
 cases h : aa2 n with
 | nil => exact absurd h (ae9 n)
 | cons c r => exact ⟨c, r, rfl, alE n c (by rw [h]; simp)⟩
open Classical in
theorem aDt (z : Int) : Lib.atoiAll (dec z) = if abA z then .ok z else .range := by
 unfold dec
 by_cases hz : z < 0
 ·rw [if_pos hz]
  rw [Lib.atoiAll_minus, aqG]
  by_cases h1 : z.natAbs < 18446744073709551616
  ·rw [if_pos h1]
   simp only [Lib.signed]
   by_cases h2 : 9223372036854775808 < z.natAbs
   ·rw [if_pos h2, if_neg (fun h => by have := h.1; omega)]
   ·rw [if_neg h2, if_pos ⟨by omega, by omega⟩]
    congr 1
    omega
  ·rw [if_neg h1, if_neg (fun h => by have := h.1; omega)]
   rfl
 ·rw [if_neg hz]
  obtain ⟨c, r, e, c1, c2⟩ := aO0 z.natAbs
  have hp := aqG z.natAbs
  rw [e] at hp ⊢
  rw [Lib.atoiAll_plain _ _ zc zc, hp]
  by_cases h1 : z.natAbs < 18446744073709551616
  ·rw [if_pos h1]
   simp only [Lib.signless]
   by_cases h2 : 9223372036854775808 ≤ z.natAbs
   ·rw [if_pos h2, if_neg (fun h => by have := h.2; omega)]
   ·rw [if_neg h2, if_pos ⟨by omega, by omega⟩]
    congr 1
    omega
  ·rw [if_neg h1, if_neg (fun h => by have := h.2; omega)]
   rfl
theorem aId (z : Int) : Lib.atoiSat (dec z) = if z < 0 then -9223372036854775808 else 9223372036854775807 := by
 unfold dec Lib.atoiSat
 by_cases hz : z < 0
 ·rw [if_pos hz, if_pos hz]
  exact if_pos rfl
 ·rw [if_neg hz, if_neg hz]
  obtain ⟨c, r, e, c1, c2⟩ := aO0 z.natAbs
  rw [e, if_neg]
  simp only [wZ, wy, Option.some.injEq]
  omega
theorem aQZ (z : Int) : Lib.itoa z = dec z := by
 unfold Lib.itoa dec aa2
 by_cases hz : z < 0
 ·rw [if_pos hz, if_pos hz]
 ·rw [if_neg hz, if_neg hz]
  congr 1
  omega
theorem awT (s : List UInt8) : ∀ n, Lib.repeatL s n = (List.replicate n s).flatten
 | 0 => rfl
 | n + 1 => by rw [Lib.repeatL, awT s n, xm, List.flatten_cons]
end Go.Vs
namespace Go.Vg
abbrev TT.tt {α : Type} (x : TT α) : TT α := .triv (true = true) rfl x
abbrev TT.tr {α : Type} (x : TT α) : TT α := .triv True trivial x
abbrev TT.vL {α : Type} (p : Prop) (x : TT α) (h : p := by repeat' constructor) : TT α := .triv p h x
end Go.Vg
namespace Go.Vs
open Go Go.Vg
abbrev Qq {α : Sort _} (x : α) : Prop := x = x
theorem tv {p : Prop} (h : p := by repeat' constructor) : p := h
abbrev vU {α₁ : Sort _} (a : α₁) : Prop := Qq a ∧ True
abbrev vX {α₁ α₂ : Sort _} (a : α₁) (b : α₂) : Prop := Qq a ∧ Qq b ∧ True
abbrev vO {α₁ α₂ α₃ : Sort _} (a : α₁) (b : α₂) (c : α₃) : Prop := Qq a ∧ Qq b ∧ Qq c ∧ True
abbrev vN {α₁ α₂ α₃ α₄ : Sort _} (a : α₁) (b : α₂) (c : α₃) (d : α₄) : Prop := Qq a ∧ Qq b ∧ Qq c ∧ Qq d ∧ True
abbrev ub {α₁ α₂ α₃ α₄ α₅ α₆ α₇ : Sort _} (a : α₁) (b : α₂) (c : α₃) (d : α₄) (e : α₅) (f : α₆) (g : α₇) : Prop := Qq a ∧ Qq b ∧ Qq c ∧ Qq d ∧ Qq e ∧ Qq f ∧ Qq g ∧ True
abbrev vP {α₁ α₂ : Sort _} (a : α₁) (b : α₂) : Prop := Qq a ∧ Qq b
abbrev vZ {α₁ α₂ α₃ : Sort _} (a : α₁) (b : α₂) (c : α₃) : Prop := Qq a ∧ Qq b ∧ Qq c
abbrev vQ {α₁ α₂ α₃ α₄ : Sort _} (a : α₁) (b : α₂) (c : α₃) (d : α₄) : Prop := Qq a ∧ Qq b ∧ Qq c ∧ Qq d
abbrev vM {α₁ : Sort _} (a : α₁) (R : Prop) : Prop := Qq a ∧ R
abbrev vS {α₁ α₂ : Sort _} (a : α₁) (b : α₂) (R : Prop) : Prop := Qq a ∧ Qq b ∧ R
abbrev vW {α₁ α₂ α₃ : Sort _} (a : α₁) (b : α₂) (c : α₃) (R : Prop) : Prop := Qq a ∧ Qq b ∧ Qq c ∧ R
abbrev vT {α₁ α₂ α₃ α₄ : Sort _} (a : α₁) (b : α₂) (c : α₃) (d : α₄) (R : Prop) : Prop := Qq a ∧ Qq b ∧ Qq c ∧ Qq d ∧ R
abbrev vR {α₁ α₂ α₃ α₄ α₅ : Sort _} (a : α₁) (b : α₂) (c : α₃) (d : α₄) (e : α₅) (R : Prop) : Prop := Qq a ∧ Qq b ∧ Qq c ∧ Qq d ∧ Qq e ∧ R
abbrev ua {α₁ α₂ α₃ α₄ α₅ α₆ : Sort _} (a : α₁) (b : α₂) (c : α₃) (d : α₄) (e : α₅) (f : α₆) (R : Prop) : Prop := Qq a ∧ Qq b ∧ Qq c ∧ Qq d ∧ Qq e ∧ Qq f ∧ R
abbrev vY {α₁ α₂ α₃ α₄ α₅ α₆ α₇ : Sort _} (a : α₁) (b : α₂) (c : α₃) (d : α₄) (e : α₅) (f : α₆) (g : α₇) (R : Prop) : Prop := Qq a ∧ Qq b ∧ Qq c ∧ Qq d ∧ Qq e ∧ Qq f ∧ Qq g ∧ R
abbrev vV {α₁ α₂ α₃ α₄ α₅ α₆ α₇ α₈ : Sort _} (a : α₁) (b : α₂) (c : α₃) (d : α₄) (e : α₅) (f : α₆) (g : α₇) (h : α₈) (R : Prop) : Prop := Qq a ∧ Qq b ∧ Qq c ∧ Qq d ∧ Qq e ∧ Qq f ∧ Qq g ∧ Qq h ∧ R
abbrev vK (a R : Prop) : Prop := a ∧ Qq true ∧ R
abbrev ui : Prop := vZ 0 0 true
abbrev uk : Prop := vO 53 (0 : Int) (0 : Int)
abbrev um : Prop := vZ 1 0 true
abbrev ur : Prop := vZ 3 0 true
abbrev ut : Prop := vS 83 false <| True ∧ True
abbrev uw : Prop := vZ 2 0 true
abbrev uy : Prop := vS 42 (3 : Int) <| True ∧ (vQ 11 0 1 true) ∧ True
abbrev uU : Prop := ur ∧ um ∧ ui ∧ True
abbrev uY : Prop := vZ 4 0 true
abbrev th : Prop := vS 42 (2 : Int) <| True ∧ True ∧ True
abbrev tn : Prop := vQ 4 0 1 true
abbrev tx : Prop := vP 11 true
abbrev tz : Prop := vZ 7 0 true
abbrev tD : Prop := vX 48 (0 : Int)
abbrev tE : Prop := vK (vM 212 <| True ∧ vU false) True
abbrev tQ : Prop := vZ 15 0 true
abbrev tR : Prop := (vZ 10 0 true) ∧ (vM (0 : Int) <| uw ∧ ui ∧ True)
abbrev tY : Prop := vQ 5 0 1 true
abbrev sa : Prop := vK ut True
abbrev se : Prop := vM 169 <| True ∧ True
abbrev sf : Prop := tQ ∧ (uY ∧ (vM (0 : Int) <| uw ∧ True))
abbrev Dd0 := Ty.dflt tT
abbrev Dd1 := Ty.dflt uK
abbrev Dd2 := Ty.dflt (Ty.pair Ty.str Ty.unit)
abbrev Dd3 := Ty.dflt (Ty.pair uD Ty.unit)
abbrev Dd4 := Ty.dflt (Ty.pair uX tT)
abbrev Dd5 := Ty.dflt (Ty.pair tO Ty.unit)
abbrev Dd6 := Ty.dflt uE
abbrev Dd7 := Ty.dflt (Ty.pair Ty.str uK)
abbrev Dd8 := Ty.dflt (Ty.pair (Ty.pair tO tT) Ty.unit)
abbrev Dd9 := Ty.dflt (Ty.pair tO uK)
abbrev aUh := Ty.dflt (Ty.pair tO (Ty.pair tO uE))
abbrev aGa := Ty.dflt (Ty.pair Ty.str uE)
abbrev aT7 := Ty.dflt (Ty.pair uX (Ty.pair uj Ty.unit))
abbrev aJz := Ty.dflt (Ty.pair (Ty.pair tO tT) uK)
abbrev adS := Ty.dflt (Ty.pair tc uE)
abbrev aDK := Ty.dflt tW
abbrev avT := Ty.dflt (Ty.pair tW uE)
abbrev aUg := Ty.dflt (Ty.pair Ty.str (Ty.pair Ty.bool uE))
abbrev aUn := Ty.dflt (Ty.pair Ty.str (Ty.pair Ty.str uE))
abbrev adL := Ty.dflt (Ty.pair tc Ty.unit)
abbrev aF9 := Ty.dflt (Ty.pair tw Ty.unit)
abbrev agP := Ty.dflt (Ty.pair uS Ty.unit)
abbrev aUm := Ty.dflt (Ty.pair tw uE)
abbrev aUf := Ty.dflt (Ty.pair tw (Ty.pair tw Ty.unit))
abbrev aTR := Ty.dflt (Ty.pair uS (Ty.pair uS Ty.unit))
abbrev asB := Ty.dflt (Ty.pair (Ty.pair uS (Ty.pair uS Ty.unit)) Ty.unit)
abbrev aL6 := Ty.dflt (Ty.pair tX Ty.unit)
abbrev aUe := Ty.dflt (Ty.pair ud uK)
abbrev aUl := Ty.dflt (Ty.pair (Ty.arr 3 tX) Ty.unit)
theorem aRL {q : Rat} {n : Int} {D : Nat} (nz : D ≠ 0) (c : n.natAbs.Coprime D) (h : q = mkRat n D) : q.num = n ∧ q.den = D := by
 rw [h, ← Rat.mk_eq_mkRat n D nz c]; exact ⟨rfl, rfl⟩
theorem aLq {a b : Nat} (h : ∀ k, k ∣ a → k ∣ b → k = 1) : a.Coprime b := h _ (xI a b) (xE a b)
theorem aO3 {n1 n2 : Int} {b' d' b : Nat} (h1 : n1.natAbs.Coprime b) (hb : b' ∣ b) (h3 : b'.Coprime d') : (n1 * d' + n2 * b').natAbs.Coprime b' := by
 refine aLq fun k hk hkb => ?_
 have e1 : (k : Int) ∣ n1 * d' + n2 * b' := xN.2 hk
 have e2 : (k : Int) ∣ n2 * b' := Int.dvd_trans (Int.natCast_dvd_natCast.2 hkb) (Int.dvd_mul_left _ _)
 have e3 : (k : Int) ∣ n1 * d' := by
  have := Int.dvd_sub e1 e2
  rwa [Int.add_sub_cancel] at this
 have e4 : k ∣ n1.natAbs * d' := by
  have := xN.1 e3
  rwa [yD] at this
 have e5 : k.Coprime d' := Nat.Coprime.coprime_dvd_left hkb h3
 have e6 := Nat.Coprime.dvd_of_dvd_mul_right e5 e4
 exact Nat.Coprime.eq_one_of_dvd (Nat.Coprime.coprime_dvd_left e6 h1) (Nat.dvd_trans hkb hb)
theorem aFR (p q : Rat) : ∃ g h : Nat, ∃ top t : Int, g = Nat.gcd p.den q.den ∧ top = p.num * (q.den / g : Nat) + q.num * (p.den / g : Nat) ∧ h = Nat.gcd top.natAbs g ∧ g ≠ 0 ∧ h ≠ 0 ∧ top = h * t ∧ (p + q).num = t ∧ (p + q).den = (p.den / g) * (q.den / h) := by
 obtain ⟨g, hg⟩ : ∃ g, g = Nat.gcd p.den q.den := ⟨_, rfl⟩
 have g0 : 0 < g := by rw [hg]; exact Nat.gcd_pos_of_pos_left _ p.den_pos
 obtain ⟨b', hb⟩ : g ∣ p.den := hg ▸ xI _ _
 obtain ⟨d', hd⟩ : g ∣ q.den := hg ▸ xE _ _
 have hb' : p.den / g = b' := by rw [hb, yq _ g0]
 have hd' : q.den / g = d' := by rw [hd, yq _ g0]
 have hbd : b'.Coprime d' := by
  have := xO (m := p.den) (n := q.den) (by rw [← hg]; exact g0)
  rwa [← hg, hb', hd'] at this
 obtain ⟨top, ht⟩ : ∃ top : Int, top = p.num * (q.den / g : Nat) + q.num * (p.den / g : Nat) := ⟨_, rfl⟩
 obtain ⟨h, hh⟩ : ∃ h, h = Nat.gcd top.natAbs g := ⟨_, rfl⟩
 have h0 : 0 < h := by rw [hh]; exact wo _ g0
 obtain ⟨t, htt⟩ : (h : Int) ∣ top := xN.2 (hh ▸ xI _ _)
 obtain ⟨g', hg'⟩ : h ∣ g := hh ▸ xE _ _
 have c1 : top.natAbs.Coprime b' := by rw [ht, hb', hd']; exact aO3 p.reduced ⟨g, by rw [hb, yK]⟩ hbd
 have c2 : top.natAbs.Coprime d' := by rw [ht, hb', hd', Int.add_comm]; exact aO3 q.reduced ⟨g, by rw [hd, yK]⟩ hbd.symm
 have c3 : t.natAbs.Coprime g' := by
  have := xO (m := top.natAbs) (n := g) (by rw [← hh]; exact h0)
  rw [← hh, htt, yD, zQ, yq _ h0] at this
  conv at this => rhs; rw [hg']
  rwa [yq _ h0] at this
 have ct : t.natAbs ∣ top.natAbs := by rw [htt, yD]; exact Nat.dvd_mul_left _ _
 have e : q.den / h = g' * d' := by rw [hd, hg', wx, yq _ h0]
 have hc : t.natAbs.Coprime (b' * (g' * d')) := Nat.Coprime.mul_right (Nat.Coprime.coprime_dvd_left ct c1) (Nat.Coprime.mul_right c3 (Nat.Coprime.coprime_dvd_left ct c2))
 have nb : b' ≠ 0 := by rintro rfl; exact p.den_nz (by rw [hb]; simp)
 have nd : d' ≠ 0 := by rintro rfl; exact q.den_nz (by rw [hd]; simp)
 have ng : g' ≠ 0 := by rintro rfl; simp at hg'; omega
 have nz : b' * (g' * d') ≠ 0 := xl nb (xl ng nd)
 have hv : p + q = mkRat t (b' * (g' * d')) := by
  rw [Rat.add_def', yn (xl p.den_nz q.den_nz) nz, hb, hd]
  rw [hb', hd', htt] at ht
  simp only [yd]
  have hgz : (g : Int) = h * g' := by rw [hg']; simp
  have e1 : (p.num * ((g : Int) * d') + q.num * ((g : Int) * b')) = (g : Int) * (h * t) := by rw [ht]; grind
  rw [e1, hgz]
  grind
 obtain ⟨r1, r2⟩ := aRL nz hc hv
 exact ⟨g, h, top, t, hg, ht, hh, by omega, by omega, htt, r1, by rw [r2, hb', e]⟩
theorem aEX (p q : Rat) : ∃ g h : Nat, ∃ s t : Int, g = Nat.gcd p.num.natAbs q.den ∧ h = Nat.gcd q.num.natAbs p.den ∧ g ≠ 0 ∧ h ≠ 0 ∧ p.num = g * s ∧ q.num = h * t ∧ (p * q).num = s * t ∧ (p * q).den = (p.den / h) * (q.den / g) := by
 obtain ⟨g, hg⟩ : ∃ g, g = Nat.gcd p.num.natAbs q.den := ⟨_, rfl⟩
 obtain ⟨h, hh⟩ : ∃ h, h = Nat.gcd q.num.natAbs p.den := ⟨_, rfl⟩
 have g0 : 0 < g := by rw [hg]; exact wo _ q.den_pos
 have h0 : 0 < h := by rw [hh]; exact wo _ p.den_pos
 obtain ⟨s, hs⟩ : (g : Int) ∣ p.num := xN.2 (hg ▸ xI _ _)
 obtain ⟨t, ht⟩ : (h : Int) ∣ q.num := xN.2 (hh ▸ xI _ _)
 obtain ⟨d', hd⟩ : g ∣ q.den := hg ▸ xE _ _
 obtain ⟨b', hb⟩ : h ∣ p.den := hh ▸ xE _ _
 have hb' : p.den / h = b' := by rw [hb, yq _ h0]
 have hd' : q.den / g = d' := by rw [hd, yq _ g0]
 have as1 : p.num.natAbs / g = s.natAbs := by rw [hs, yD, zQ, yq _ g0]
 have at' : q.num.natAbs / h = t.natAbs := by rw [ht, yD, zQ, yq _ h0]
 have ds : s.natAbs ∣ p.num.natAbs := by rw [hs, yD]; exact Nat.dvd_mul_left _ _
 have dt : t.natAbs ∣ q.num.natAbs := by rw [ht, yD]; exact Nat.dvd_mul_left _ _
 have db : b' ∣ p.den := ⟨h, by rw [hb, yK]⟩
 have dd : d' ∣ q.den := ⟨g, by rw [hd, yK]⟩
 have c1 : s.natAbs.Coprime b' := Nat.Coprime.coprime_dvd_left ds (Nat.Coprime.coprime_dvd_right db p.reduced)
 have c2 : s.natAbs.Coprime d' := by
  have := xO (m := p.num.natAbs) (n := q.den) (by rw [← hg]; exact g0)
  rwa [← hg, as1, hd'] at this
 have c3 : t.natAbs.Coprime d' := Nat.Coprime.coprime_dvd_left dt (Nat.Coprime.coprime_dvd_right dd q.reduced)
 have c4 : t.natAbs.Coprime b' := by
  have := xO (m := q.num.natAbs) (n := p.den) (by rw [← hh]; exact h0)
  rwa [← hh, at', hb'] at this
 have hc : (s * t).natAbs.Coprime (b' * d') := by
  rw [yD]
  exact Nat.Coprime.mul_left (Nat.Coprime.mul_right c1 c2) (Nat.Coprime.mul_right c4 c3)
 have nb : b' ≠ 0 := by rintro rfl; exact p.den_nz (by rw [hb]; simp)
 have nd : d' ≠ 0 := by rintro rfl; exact q.den_nz (by rw [hd]; simp)
 have nz : b' * d' ≠ 0 := xl nb nd
 have hv : p * q = mkRat (s * t) (b' * d') := by
  rw [Rat.mul_def', yn (xl p.den_nz q.den_nz) nz, hs, ht]
  conv => lhs; rw [yd]
  rw [hb, hd]
  simp only [yd]
  grind
 obtain ⟨r1, r2⟩ := aRL nz hc hv
 exact ⟨g, h, s, t, hg, hh, by omega, by omega, hs, ht, r1, by rw [r2, hb', hd']⟩
theorem ae6 (n : Int) {d : Nat} (hd : d ≠ 0) : ∃ g : Nat, ∃ t : Int, g = Nat.gcd n.natAbs d ∧ g ≠ 0 ∧ n = g * t ∧ (mkRat n d).num = t ∧ (mkRat n d).den = d / g := by
 obtain ⟨g, hg⟩ : ∃ g, g = Nat.gcd n.natAbs d := ⟨_, rfl⟩
 have g0 : 0 < g := by rw [hg]; exact wo _ zc
 obtain ⟨t, ht⟩ : (g : Int) ∣ n := xN.2 (hg ▸ xI _ _)
 refine ⟨g, t, hg, by omega, ht, ?_, ?_⟩
 ·rw [Rat.num_mkRat, if_neg hd, xC, ← hg, ht, Int.mul_ediv_cancel_left _ zc]
 ·rw [Rat.den_mkRat, if_neg hd, xC, ← hg]
theorem av6 (n : Int) {d : Nat} (hd : d ≠ 0) : fl (mkRat n d) = n / d := by
 obtain ⟨g, t, hg, g0, hn, h1, h2⟩ := ae6 n hd
 obtain ⟨d', hd'⟩ : g ∣ d := hg ▸ xE _ _
 have : d / g = d' := by rw [hd', yq _ zc]
 unfold fl
 rw [h1, h2, this, hn, hd', yd, Int.mul_ediv_mul_of_pos _ _ zc]
theorem aN2 (q : Rat) (s : Nat) : aqS q s = (q.num * (s * 2 : Nat) + q.den) / (q.den * 2 : Nat) := by
 unfold aqS
 have h1 : (s : Rat) = mkRat s 1 := by
  have := Rat.mkRat_self (s : Rat)
  rw [Rat.num_natCast, Rat.den_natCast] at this
  exact this.symm
 have h2 : q * (s : Rat) + mkRat 1 2 = mkRat (q.num * (s * 2 : Nat) + q.den) (q.den * 2) := by
  conv => lhs; rw [h1, ← Rat.mkRat_self q]
  rw [yS, xF _ _ (by have := q.den_nz; omega) zc, xJ, Int.one_mul]
  congr 1
  simp only [yd]
  grind
 rw [h2, av6 _ (xl q.den_nz zc)]
theorem aNm (p q : Rat) : avL p q = (p.num * q.den + -(q.num * p.den)).sign := by
 unfold avL
 simp only [Rat.lt_iff, Rat.eq_iff_mul_eq_mul]
 split
 ·rename_i h; exact (xd zc).symm
 ·split
  ·rename_i h; rw [h, Int.add_right_neg]; rfl
  ·exact (xq zc).symm
theorem aRK (a b : List UInt8) : rdF (a, b, ()) = match rdW a, rdW b with
  | some n, some d => if h : 0 < d ∧ n.natAbs.Coprime d.natAbs then some ⟨n, d.natAbs, by omega, h.2⟩ else none
  | _, _ => none := by
 cases ha : rdW a with
 | none =>
  refine aCh fun q hq he => ?_
  obtain ⟨h1, -⟩ := Prod.mk.inj he
  rw [← h1, amB hq.1] at ha
  cases ha
 | some n =>
  obtain ⟨fa, rfl⟩ := ae2 ha
  cases hb : rdW b with
  | none =>
   refine aCh fun q hq he => ?_
   obtain ⟨-, h1⟩ := Prod.mk.inj he
   obtain ⟨h1, -⟩ := Prod.mk.inj h1
   rw [← h1, ← aeQ, amB hq.2] at hb
   cases hb
  | some d =>
   obtain ⟨fb, rfl⟩ := ae2 hb
   simp only
   split
   ·rename_i h
    have e : (dec n, dec d, ()) = fx ⟨n, d.natAbs, by omega, h.2⟩ := by
     unfold fx
     rw [abZ (z := d) zc]
    rw [e, afD ⟨fa, ?_⟩]
    unfold Fit at *
    simpa using fb
   ·rename_i h
    refine aCh fun q hq he => h ?_
    obtain ⟨h1, h2⟩ := Prod.mk.inj he
    obtain ⟨h2, -⟩ := Prod.mk.inj h2
    have e1 := ajP h1
    have e2 : (q.den : Int) = d := ajP (by rw [aeQ]; exact h2)
    rw [← e1, ← e2]
    exact ⟨by have := q.den_pos; omega, q.reduced⟩
abbrev BdT := Int × Int × Unit
def okB (lo hi : Int) : Prop := -1000000000000000000 ≤ lo ∧ lo ≤ hi ∧ hi ≤ 1000000000000000000
instance (lo hi : Int) : Decidable (okB lo hi) := inferInstanceAs (Decidable (_ ∧ _))
def mkB (e lo hi : Int) : BdT × Int × Unit := if okB lo hi then ((lo, hi, ()), 0, ()) else ((0, 0, ()), e, ())
def aeF (x : Int × Int × Unit) : Option (Bool × Unit) := some (decide (okB x.1 x.2.1), ())
def ajF (x : Int × Int × Unit) : Option (BdT × Int × Unit) := some (mkB 6 x.1 x.2.1)
def ar4 (x : BdT × Unit) : Option (Int × Unit) := some (if okB x.1.1 x.1.2.1 then 0 else 30, ())
def aJs (x : Int × Int × Unit) : Option (BdT × Int × Unit) := some (mkB 30 x.1 x.2.1)
def azN (x : List Int × Unit) : Option (Int × Unit) := match x.1 with | [] => none | a :: l => if l.length ≤ 1000000000000 then some (l.foldl (fun m y => if y < m then y else m) a, ()) else none
def azO (x : List Int × Unit) : Option (Int × Unit) := match x.1 with | [] => none | a :: l => if l.length ≤ 1000000000000 then some (l.foldl (fun m y => if y > m then y else m) a, ()) else none
def azR (x : List Int × Unit) : Option (Int × Unit) := azN x
def anB (x : List Int × Unit) : Option (Int × Unit) := azO x
def al1 : Rat := (1000000000000 : Nat)
def agX (p q : Rat) : BdT × Int × Unit := mkB 6 (fl (p * al1)) (-fl (-(q * al1)))
noncomputable def agN (x : FxT × Unit) : Option (BdT × Int × Unit) := some (match rdF x.1 with | some q => agX q q | none => ((0, 0, ()), 20, ()))
def aPy (a b : BdT) : BdT × Int × Unit := if okB a.1 a.2.1 ∧ okB b.1 b.2.1 then mkB 6 (a.1 + b.1) (a.2.1 + b.2.1) else ((0, 0, ()), 30, ())
def aSC (a b : BdT) : BdT × Int × Unit := if okB a.1 a.2.1 ∧ okB b.1 b.2.1 then ((min a.1 b.1, max a.2.1 b.2.1, ()), 0, ()) else ((0, 0, ()), 30, ())
def aBE (b : BdT) (lo hi : Int) : BdT × Int × Unit := if okB b.1 b.2.1 then (if okB lo hi then ((min (max b.1 lo) hi, min (max b.2.1 lo) hi, ()), 0, ()) else ((0, 0, ()), 2, ())) else ((0, 0, ()), 30, ())
def aIg (x : BdT × BdT × Unit) : Option (BdT × Int × Unit) := some (aPy x.1 x.2.1)
def ar3 (x : BdT × BdT × Unit) : Option (BdT × Int × Unit) := some (aSC x.1 x.2.1)
def akS (x : BdT × Int × Int × Unit) : Option (BdT × Int × Unit) := some (aBE x.1 x.2.1 x.2.2.1)
noncomputable def aiL : Int × Unit → Option (List UInt8 × Unit) := acQ (fun n : Nat => ((n : Int), ())) (fun n => n ≤ 1000) (fun n => (aa2 (10 ^ n), ()))
noncomputable def arW : List UInt8 × Int × Unit → Option (List UInt8 × Bool × Int × Unit) := acQ (fun x : Nat × Nat => (aa2 x.1, (x.2 : Int), ())) (fun x => Fit x.1 ∧ 1 ≤ x.2 ∧ x.2 ≤ 12) (fun x => (aa2 (ad9 x.2 x.1), decide (ad9 x.2 x.1 ^ x.2 = x.1), 0, ()))
noncomputable def acY : List UInt8 × Bool × Unit → Option (Int × Int × Unit) := acQ (fun x : Nat × Bool => (aa2 x.1, x.2, ())) (fun x => Fit x.1) (fun x => if x.1 > 1000000000000000000 then (0, 6, ()) else ((x.1 : Int) + (if x.2 then 1 else 0), 0, ()))
def okE (p q : Int) : Prop := 1 ≤ p ∧ p ≤ 36 ∧ 1 ≤ q ∧ q ≤ 12
instance (p q : Int) : Decidable (okE p q) := inferInstanceAs (Decidable (_ ∧ _))
def auC (x : (Int × Int × Unit) × Unit) : Option (Bool × Unit) := some (decide (okE x.1.1 x.1.2.1), ())
noncomputable def aC7 (p q n : Nat) : Nat := ad9 q (n ^ p * 10 ^ (12 * q) / 10 ^ (12 * p))
noncomputable def az8 (p q n : Nat) (up : Bool) : Int × Int × Unit :=
 if aC7 p q n > 1000000000000000000 then (0, 6, ()) else ((aC7 p q n : Int) + (if up = true ∧ aC7 p q n ^ q * 10 ^ (12 * p) ≠ n ^ p * 10 ^ (12 * q) then 1 else 0), 0, ())
noncomputable def arV : ((Int × Int × Unit) × Unit) × Int × Bool × Unit → Option (Int × Int × Unit) := acQ (fun x : (Nat × Nat) × Nat × Bool => ((((x.1.1 : Int), (x.1.2 : Int), ()), ()), (x.2.1 : Int), x.2.2, ())) (fun x => okE x.1.1 x.1.2 ∧ x.2.1 ≤ 1000000000000000000) (fun x => az8 x.1.1 x.1.2 x.2.1 x.2.2)
noncomputable def aL9 (b : BdT) (p q : Int) : BdT × Int × Unit :=
 if okB b.1 b.2.1 then
  if okE p q ∧ 0 ≤ b.1 then
   (if (az8 p.toNat q.toNat b.1.toNat false).2.1 ≠ 0 then ((0, 0, ()), 6, ()) else if (az8 p.toNat q.toNat b.2.1.toNat true).2.1 ≠ 0 then ((0, 0, ()), 6, ())
    else mkB 6 (az8 p.toNat q.toNat b.1.toNat false).1 (az8 p.toNat q.toNat b.2.1.toNat true).1)
  else ((0, 0, ()), 2, ())
 else ((0, 0, ()), 30, ())
noncomputable def azQ (x : BdT × Int × Int × Unit) : Option (BdT × Int × Unit) := some (aL9 x.1 x.2.1 x.2.2.1)
abbrev ad0 := Int × Int × Int × Int × Int × Int × Unit
abbrev CvT := Int × List Int × List ad0 × Unit
abbrev PcT := ad0 × Int × Bool × Unit
def inR (n a b : Int) : Prop := a ≤ n ∧ n ≤ b
instance (n a b : Int) : Decidable (inR n a b) := inferInstanceAs (Decidable (_ ∧ _))
def ad6 (s : ad0) : Prop := inR s.2.1 (-100000000) 100000000 ∧ inR s.2.2.1 (-100000000) 100000000 ∧ inR s.2.2.2.2.2.1 (-100000000) 100000000 ∧ inR s.2.2.2.1 1 36 ∧ inR s.2.2.2.2.1 1 12 ∧ Nat.gcd s.2.2.2.1.natAbs s.2.2.2.2.1.natAbs = 1
instance (s : ad0) : Decidable (ad6 s) := inferInstanceAs (Decidable (_ ∧ _))
def ajY (last : Int) (s : ad0) : Prop := ad6 s ∧ inR s.1 (last + 1) 1000000
instance (last : Int) (s : ad0) : Decidable (ajY last s) := inferInstanceAs (Decidable (_ ∧ _))
def agZ : Int → List ad0 → Prop
 | last, [] => last = 1000000
 | last, s :: r => ajY last s ∧ agZ s.1 r
def aMD : (last : Int) → (l : List ad0) → Decidable (agZ last l)
 | last, [] => inferInstanceAs (Decidable (last = 1000000))
 | last, s :: r => @instDecidableAnd _ _ (inferInstanceAs (Decidable (ajY last s))) (aMD s.1 r)
instance (last : Int) (l : List ad0) : Decidable (agZ last l) := aMD last l
def adM (l : List Int) : Prop := 2 ≤ l.length ∧ l.length ≤ 17 ∧ ∀ v ∈ l, inR v 0 65535
instance (l : List Int) : Decidable (adM l) := inferInstanceAs (Decidable (_ ∧ _ ∧ _))
def ab9 (l : List ad0) : Prop := 1 ≤ l.length ∧ l.length ≤ 4 ∧ agZ 0 l
instance (l : List ad0) : Decidable (ab9 l) := inferInstanceAs (Decidable (_ ∧ _ ∧ _))
def abW (c : CvT) : Prop := (c.1 = 1 ∧ c.2.1 = [] ∧ c.2.2.1 = []) ∨ (c.1 = 2 ∧ adM c.2.1 ∧ c.2.2.1 = []) ∨ (c.1 = 3 ∧ c.2.1 = [] ∧ ab9 c.2.2.1)
instance (c : CvT) : Decidable (abW c) := inferInstanceAs (Decidable (_ ∨ _ ∨ _))
noncomputable def eqb {α : Type} (a b : α) : Bool := open Classical in if a = b then true else false
theorem aJd {α : Type} {a b : α} (h : a = b) : eqb a b = true := if_pos h
theorem ayK {α : Type} {a b : α} (h : ¬ a = b) : eqb a b = false := if_neg h
def acN (x : Int × Int × Int × Unit) : Option (Bool × Unit) := some (decide (inR x.1 x.2.1 x.2.2.1), ())
def ab0 (x : Int × Int × Unit) : Option (FxT × Unit) := if abA x.1 ∧ abA x.2.1 then some ((ofQ x.1 x.2.1).1, ()) else none
def aaI (x : Int × Unit) : Option (FxT × Unit) := if abA x.1 then some (fx (mkRat x.1 1), ()) else none
def aeY (q : Rat) : Rat := if q < 0 then 0 else if q > 1 then 1 else q
noncomputable def ab7 : FxT × Unit → Option (FxT × Unit) := acQ (fun q : Rat => (fx q, ())) (fun q => ab6 q) (fun q => (fx (aeY q), ()))
def ajU (x : List Int × Unit) : Option (Bool × Unit) := some (decide (adM x.1), ())
def agJ (x : PcT × Unit) : Option (Bool × Unit) := if inR x.1.2.1 0 1000000 then some (decide (ajY x.1.2.1 x.1.1), ()) else none
def agM (x : CvT × Unit) : Option (Bool × Unit) := some (decide (ab9 x.1.2.2.1), ())
def ag9 (x : CvT × Unit) : Option (Int × Unit) := some (if abW x.1 then 0 else 90, ())
def aTy (c : CvT) : Prop := abW c ∧ ∀ s ∈ c.2.2.1, s.2.2.2.2.1 = 1
instance (c : CvT) : Decidable (aTy c) := inferInstanceAs (Decidable (_ ∧ _))
def aSa (l : List Int) : Bool := (List.range (l.length - 1)).any (fun i => decide (l.getD (i + 1) 0 > l.getD i 0))
def aSI (l : List Int) : Bool := (List.range (l.length - 1)).any (fun i => decide (l.getD (i + 1) 0 < l.getD i 0))
def aMr (c : CvT) : Int :=
 if c.1 = 3 then (if c.2.2.1.length > 1 then 0 else if (c.2.2.1.getD 0 (0, 0, 0, 0, 0, 0, ())).2.1 < 0 then -1 else 1)
 else if !aSI c.2.1 then 1 else if !aSa c.2.1 then -1 else 0
def anA (x : CvT × Unit) : Option (Int × Int × Unit) := some (if abW x.1 then (aMr x.1, 0, ()) else (0, 90, ()))
def dig (n : Nat) : List Int := avP 10000 n
theorem adX (n : Nat) : Dg 10000 (dig n) := aHQ (B := 10000) zc n
theorem aJg (n : Nat) : Cn (dig n) := aOV (B := 10000) zc n
theorem aiF (n : Nat) : V 10000 (dig n) = n := aFT (B := 10000) zc n
theorem ayO {m n : Nat} (h : dig m = dig n) : m = n := aJf (B := 10000) zc h
theorem aC9 {l : List Int} {n : Nat} (h1 : Dg 10000 l) (h2 : Cn l) (h3 : V 10000 l = n) : l = dig n := ayN (B := 10000) zc h1 h2 h3
theorem dig_length_le_iff {n k : Nat} : (dig n).length ≤ k ↔ n < 10000 ^ k := by
 constructor
 ·intro h
  have h1 := axZ (B := 10000) zc n
  exact ye h1 (zV zc h)
 ·intro h
  exact agT zc h
theorem acD {m n : Nat} (h : m ≤ n) : (dig m).length ≤ (dig n).length := by
 rw [dig_length_le_iff]
 exact Nat.lt_of_le_of_lt h (dig_length_le_iff.1 (zq _))
theorem dig_zero : dig 0 = [] := adO _
theorem dig_nil_iff {n : Nat} : dig n = [] ↔ n = 0 := by
 constructor
 ·intro h
  exact ayO (h.trans dig_zero.symm)
 ·rintro rfl; exact dig_zero
theorem aOW {d : Nat} (h0 : d ≠ 0) (h1 : d < 10000) : dig d = [(d : Int)] := aBz zc h0 h1
theorem ao2 {m n : Nat} (h : (dig m).length < (dig n).length) : m < n := by
 rcases zr m n with h2 | h2
 ·exact h2
 ·have := acD h2; omega
theorem aBB {n k : Nat} (h : (mag n).length ≤ k) : (dig n).length ≤ 3 * k := by
 rw [mag_length_le_iff] at h
 rw [dig_length_le_iff, xL]
 exact ye h (xn zc _)
theorem azC {k n : Nat} (h : Bd k n) (hk : k ≤ 8) : (dig n).length ≤ 200000000000 := by
 have h1 : Bd 8 n := aaF h hk
 have h2 := aBB (k := 1000000 * 4 ^ 8) h1
 omega
@[reducible] def pl (z : Int) : Bool × List Int × Unit := (decide (z < 0), dig z.natAbs, ())
theorem auQ {a b : Int} (h : pl a = pl b) : a = b := by
 obtain ⟨h1, h2⟩ := Prod.mk.inj h
 obtain ⟨h2, -⟩ := Prod.mk.inj h2
 have := ayO h2
 simp only [decide_eq_decide] at h1
 omega
abbrev PlT := Bool × List Int × Unit
abbrev RaT := PlT × PlT × Unit
@[reducible] def ra (q : Rat) : RaT := (pl q.num, pl q.den, ())
theorem aIA {a b : Rat} (h : ra a = ra b) : a = b := by
 obtain ⟨h1, h2⟩ := Prod.mk.inj h
 obtain ⟨h2, -⟩ := Prod.mk.inj h2
 have := auQ h2
 exact Rat.ext (auQ h1) zc
def aP3 (a b : List Int) : Nat → Int
 | 0 => 0
 | k + 1 => if a.getD k 0 ≠ b.getD k 0 then a.getD k 0 - b.getD k 0 else aP3 a b k
def aRM (a b : List Int) : Int := if a.length ≠ b.length then (a.length : Int) - b.length else aP3 a b a.length
open Classical in
noncomputable def ac1 (x : List Int × Unit) : Option (List Int × Unit) := if Dg 10000 x.1 ∧ x.1.length ≤ 1000000000000 then some (dig (V 10000 x.1).toNat, ()) else none
open Classical in
noncomputable def abE (x : Bool × List Int × Unit) : Option (PlT × Unit) := if Dg 10000 x.2.1 ∧ x.2.1.length ≤ 1000000000000 then some ((x.1 && decide (V 10000 x.2.1 ≠ 0), dig (V 10000 x.2.1).toNat, ()), ()) else none
noncomputable def agG (x : List UInt8 × Unit) : Option (Bool × Unit) := if x.1.length ≤ 1000000000000 then some ((rdW x.1).isSome, ()) else none
noncomputable def alU : List UInt8 × Unit → Option (PlT × Unit) := acQ (fun z : Int => (dec z, ())) (fun z => Fit z) (fun z => (pl z, ()))
noncomputable def aa4 (x : Int × Unit) : Option (PlT × Unit) := if abA x.1 then some (pl x.1, ()) else none
def aAq (n : Nat) : List UInt8 := [UInt8.ofNat (48 + n / 1000), UInt8.ofNat (48 + n / 100 % 10), UInt8.ofNat (48 + n / 10 % 10), UInt8.ofNat (48 + n % 10)]
noncomputable def arU : Int × Unit → Option (List UInt8 × Unit) := acQ (fun n : Nat => ((n : Int), ())) (fun n => n < 10000) (fun n => (aAq n, ()))
noncomputable def am7 : PlT × Unit → Option (List UInt8 × Unit) := acQ (fun z : Int => (pl z, ())) (fun z => Bd 6 z.natAbs) (fun z => (dec z, ()))
noncomputable def ajA : PlT × Unit → Option (List UInt8 × Int × Unit) := acQ (fun z : Int => (pl z, ())) (fun z => Bd 6 z.natAbs) (fun z => wrW z)
noncomputable def agF (x : List Int × List Int × Unit) : Option (Int × Unit) := open Classical in if Dg 10000 x.1 ∧ Dg 10000 x.2.1 ∧ x.1.length ≤ 1000000000000 ∧ x.2.1.length ≤ 1000000000000 then some (aRM x.1 x.2.1, ()) else none
noncomputable def awA : List Int × List Int × Unit → Option (List Int × Unit) := acQ (fun p : Nat × Nat => (dig p.1, dig p.2, ())) (fun p => (dig p.1).length ≤ 1000000000000 ∧ (dig p.2).length ≤ 1000000000000) (fun p => (dig (p.1 + p.2), ()))
open Classical in
noncomputable def abF (x : List Int × List Int × Unit) : Option (List Int × Unit) := if Dg 10000 x.1 ∧ Dg 10000 x.2.1 ∧ x.1.length ≤ 1000000000000 ∧ x.2.1.length ≤ x.1.length ∧ V 10000 x.2.1 ≤ V 10000 x.1 then some (dig (V 10000 x.1 - V 10000 x.2.1).toNat, ()) else none
open Classical in
noncomputable def abY (x : List Int × List Int × Unit) : Option (List Int × Unit) := if Dg 10000 x.1 ∧ (Dg 10000 x.2.1 ∨ x.2.1 = [10000]) ∧ x.1.length ≤ 400000000000 ∧ x.2.1.length ≤ 400000000000 then some (dig (V 10000 x.1 * V 10000 x.2.1).toNat, ()) else none
noncomputable def arT : List Int × Int × Unit → Option (List Int × Int × Unit) := acQ (fun p : Nat × Nat => (dig p.1, (p.2 : Int), ())) (fun p => (dig p.1).length ≤ 1000000000000 ∧ 0 < p.2 ∧ p.2 < 10000) (fun p => (dig (p.1 / p.2), ((p.1 % p.2 : Nat) : Int), ()))
noncomputable def akH : List Int × List Int × Unit → Option (List Int × List Int × Unit) := acQ (fun p : Nat × Nat => (dig p.1, dig p.2, ())) (fun p => (dig p.1).length ≤ 200000000000 ∧ (dig p.2).length ≤ 200000000000 ∧ p.2 ≠ 0) (fun p => (dig (p.1 / p.2), dig (p.1 % p.2), ()))
noncomputable def aiJ : PlT × Unit → Option (PlT × Unit) := acQ (fun z : Int => (pl z, ())) (fun z => Bd 8 z.natAbs) (fun z => (pl (-z), ()))
noncomputable def aeZ : PlT × PlT × Unit → Option (PlT × Unit) := acQ (fun p : Int × Int => (pl p.1, pl p.2, ())) (fun p => Bd 7 p.1.natAbs ∧ Bd 7 p.2.natAbs) (fun p => (pl (p.1 + p.2), ()))
noncomputable def akI : PlT × PlT × Unit → Option (PlT × Unit) := acQ (fun p : Int × Int => (pl p.1, pl p.2, ())) (fun p => Bd 7 p.1.natAbs ∧ Bd 7 p.2.natAbs) (fun p => (pl (p.1 - p.2), ()))
noncomputable def abJ : PlT × PlT × Unit → Option (PlT × Unit) := acQ (fun p : Int × Int => (pl p.1, pl p.2, ())) (fun p => Bd 7 p.1.natAbs ∧ Bd 7 p.2.natAbs) (fun p => (pl (p.1 * p.2), ()))
noncomputable def agH : PlT × PlT × Unit → Option (PlT × PlT × Unit) := acQ (fun p : Int × Int => (pl p.1, pl p.2, ())) (fun p => Bd 6 p.1.natAbs ∧ Bd 6 p.2.natAbs ∧ p.2 ≠ 0) (fun p => (pl (p.1 / p.2), pl (p.1 % p.2), ()))
noncomputable def aoG : PlT × PlT × Unit → Option (Int × Unit) := acQ (fun p : Int × Int => (pl p.1, pl p.2, ())) (fun p => Bd 7 p.1.natAbs ∧ Bd 7 p.2.natAbs) (fun p => ((p.1 - p.2).sign, ()))
noncomputable def afH : PlT × PlT × Unit → Option (PlT × Unit) := acQ (fun p : Int × Int => (pl p.1, pl p.2, ())) (fun p => Bd 8 p.1.natAbs ∧ Bd 8 p.2.natAbs) (fun p => (pl (Nat.gcd p.1.natAbs p.2.natAbs), ()))
noncomputable def aiK : PlT × Int × Unit → Option (PlT × Unit) := acQ (fun p : Int × Nat => (pl p.1, (p.2 : Int), ())) (fun p => (p.2 ≤ 40 ∧ Bd 2 p.1.natAbs) ∨ (p.2 ≤ 500 ∧ p.1 = 10)) (fun p => (pl (p.1 ^ p.2), ()))
def shF (x : FxT) : Prop := x.1.length ≤ 1000000000000 ∧ x.2.1.length ≤ 1000000000000
instance (x : FxT) : Decidable (shF x) := inferInstanceAs (Decidable (_ ∧ _))
noncomputable def acX : PlT × PlT × Unit → Option (RaT × Unit) := acQ (fun x : Int × Int => (pl x.1, pl x.2, ())) (fun x => Bd 6 x.1.natAbs ∧ Bd 6 x.2.natAbs ∧ x.2 ≠ 0) (fun x => (ra (Rat.divInt x.1 x.2), ()))
noncomputable def aoD : Int × Int × Unit → Option (RaT × Unit) := acQ (fun x : Int × Int => (x.1, x.2, ())) (fun x => abA x.1 ∧ abA x.2 ∧ x.2 ≠ 0) (fun x => (ra (Rat.divInt x.1 x.2), ()))
noncomputable def aa9 (x : FxT × Unit) : Option (Bool × Unit) := if shF x.1 then some ((rdF x.1).isSome, ()) else none
noncomputable def akG (x : FxT × Unit) : Option (Int × Unit) := if shF x.1 then akQ x else none
noncomputable def adH : FxT × Unit → Option (RaT × Unit) := acQ (fun x : Rat => (fx x, ())) (fun x => ab6 x) (fun x => (ra x, ()))
noncomputable def afZ : RaT × Unit → Option (FxT × Int × Unit) := acQ (fun x : Rat => (ra x, ())) (fun x => BdQ 6 x) (fun x => wrF x)
noncomputable def arP : RaT × Unit → Option (RaT × Unit) := acQ (fun x : Rat => (ra x, ())) (fun x => BdQ 6 x) (fun x => (ra (-x), ()))
noncomputable def am6 : RaT × RaT × Unit → Option (RaT × Unit) := acQ (fun x : Rat × Rat => (ra x.1, ra x.2, ())) (fun x => BdQ 3 x.1 ∧ BdQ 3 x.2) (fun x => (ra (x.1 + x.2), ()))
noncomputable def aoE : RaT × RaT × Unit → Option (RaT × Unit) := acQ (fun x : Rat × Rat => (ra x.1, ra x.2, ())) (fun x => BdQ 3 x.1 ∧ BdQ 3 x.2) (fun x => (ra (x.1 - x.2), ()))
noncomputable def aoB : RaT × RaT × Unit → Option (RaT × Unit) := acQ (fun x : Rat × Rat => (ra x.1, ra x.2, ())) (fun x => BdQ 3 x.1 ∧ BdQ 3 x.2) (fun x => (ra (x.1 * x.2), ()))
noncomputable def arQ : RaT × RaT × Unit → Option (RaT × Unit) := acQ (fun x : Rat × Rat => (ra x.1, ra x.2, ())) (fun x => BdQ 3 x.1 ∧ BdQ 3 x.2 ∧ x.2 ≠ 0) (fun x => (ra (x.1 / x.2), ()))
noncomputable def agE : RaT × RaT × Unit → Option (Int × Unit) := acQ (fun x : Rat × Rat => (ra x.1, ra x.2, ())) (fun x => BdQ 3 x.1 ∧ BdQ 3 x.2) (fun x => (avL x.1 x.2, ()))
noncomputable def ap0 (x : Int × Int × Unit) : Option (FxT × Int × Unit) := alZ x
noncomputable def arS (x : FxT × FxT × Unit) : Option (Int × Int × Unit) := if shF x.1 ∧ shF x.2.1 then af1 x else none
noncomputable def ai9 (x : FxT × FxT × Unit) : Option (FxT × Int × Unit) := if shF x.1 ∧ shF x.2.1 then aeD x else none
noncomputable def aoC (x : FxT × FxT × Unit) : Option (FxT × Int × Unit) := if shF x.1 ∧ shF x.2.1 then afA x else none
noncomputable def ahJ (x : FxT × FxT × Unit) : Option (FxT × Int × Unit) := if shF x.1 ∧ shF x.2.1 then adU x else none
noncomputable def alT (x : FxT × FxT × Unit) : Option (FxT × Int × Unit) := if shF x.1 ∧ shF x.2.1 then aeT x else none
noncomputable def aoF : FxT × FxT × FxT × Unit → Option (FxT × Int × Unit) := acQ (fun x : Rat × Rat × Rat => (fx x.1, fx x.2.1, fx x.2.2, ())) (fun x => ab6 x.1 ∧ ab6 x.2.1 ∧ ab6 x.2.2 ∧ x.2.1 ≤ x.2.2) (fun x => (fx (if x.1 < x.2.1 then x.2.1 else if x.1 > x.2.2 then x.2.2 else x.1), 0, ()))
def shC (c : CvT) : Prop := c.2.1.length ≤ 1000000000000 ∧ c.2.2.1.length ≤ 1000000000000
instance (c : CvT) : Decidable (shC c) := inferInstanceAs (Decidable (_ ∧ _))
def acF (x : Int × Int × Int × Unit) : Option (Bool × Unit) := acN x
def abH (x : Int × Int × Unit) : Option (Bool × Unit) := if inR x.1 1 36 ∧ inR x.2.1 1 12 then some (!decide (Nat.gcd x.1.natAbs x.2.1.natAbs = 1), ()) else none
def ai7 (x : ad0 × Unit) : Option (Bool × Unit) := some (decide (ad6 x.1), ())
def ahO (x : CvT × Unit) : Option (Bool × Unit) := if shC x.1 then some (decide (abW x.1), ()) else none
def adE (x : Int × Int × Unit) : Option (FxT × Unit) := ab0 x
noncomputable def ag8 : FxT × Unit → Option (FxT × Unit) := ab7
noncomputable def aiH : FxT × FxT × Unit → Option (Bool × Unit) := acQ (fun q : Rat × Rat => (fx q.1, fx q.2, ())) (fun q => ab6 q.1 ∧ ab6 q.2) (fun q => (decide (q.1 < q.2), ()))
def asI (b : BdT) : BdT := (min (max b.1 0) 1000000000000, min (max b.2.1 0) 1000000000000, ())
def atI (a b : BdT) : BdT := (min a.1 b.1, max a.2.1 b.2.1, ())
noncomputable def abN (q : Rat) : Option Rat := if ab6 q then some q else none
def aoY : Option Rat → FxT × Int × Unit
 | some q => (fx q, 0, ())
 | none => (([], [], ()), 6, ())
noncomputable def atF (m a : Int) (x : Rat) : Option Rat := (abN (mkRat m 1 * x)).bind fun u => (abN (u + mkRat a 1)).bind fun v => abN (v / mkRat 1000000 1)
noncomputable def acR (u : Rat) : Nat → Rat → Option Rat
 | 0, y => some y
 | n + 1, y => (abN (y * u)).bind (acR u n)
def aGZ (u : Rat) : Rat := if u < 0 then 0 else u
noncomputable def aCO (s : ad0) (x : Rat) : Option Rat := (atF s.2.1 s.2.2.1 x).bind fun u => (acR (aGZ u) (s.2.2.2.1 - 1).toNat (aGZ u)).bind fun y => (abN (y + mkRat s.2.2.2.2.2.1 1000000)).map aeY
def ae5 (x : Rat) (l : List ad0) : Nat := l.findIdx (fun s => decide (x ≤ mkRat s.1 1000000))
noncomputable def ax3 (l : List ad0) (x : Rat) : FxT × Int × Unit := if (l.getD (ae5 x l) (0, 0, 0, 0, 0, 0, ())).2.2.2.2.1 = 1 then aoY (aCO (l.getD (ae5 x l) (0, 0, 0, 0, 0, 0, ())) x) else (([], [], ()), 5, ())
noncomputable def ag0 (l : List Int) (p : Rat) : Nat := min p.floor.toNat (l.length - 2)
noncomputable def aL8 (l : List Int) (x : Rat) : Option Rat := (abN (x * mkRat ((l.length - 1 : Nat) : Int) 1)).bind fun p =>
 (abN (p - mkRat (ag0 l p : Int) 1)).bind fun r => (abN (r * mkRat (l.getD (ag0 l p + 1) 0 - l.getD (ag0 l p) 0) 1)).bind fun t =>
 (abN (mkRat (l.getD (ag0 l p) 0) 1 + t)).bind fun y => abN (y / mkRat 65535 1)
noncomputable def aC4 (c : CvT) (x : Rat) : FxT × Int × Unit := if c.1 = 1 then (fx x, 0, ()) else if c.1 = 2 then aoY (aL8 c.2.1 x) else ax3 c.2.2.1 x
noncomputable def akR : PcT × FxT × Unit → Option (FxT × Int × Unit) := acQ (fun p : PcT × Rat => (p.1, fx p.2, ())) (fun p => ab6 p.2 ∧ ad6 p.1.1) (fun p => aoY (atF p.1.1.2.1 p.1.1.2.2.1 p.2))
noncomputable def ahL : (CvT × Unit) × FxT × Unit → Option (FxT × Int × Unit) := acQ (fun p : CvT × Rat => ((p.1, ()), fx p.2, ())) (fun p => ab6 p.2) (fun p => (fx p.2, 0, ()))
noncomputable def agK : (CvT × Unit) × FxT × Unit → Option (FxT × Int × Unit) := acQ (fun p : CvT × Rat => ((p.1, ()), fx p.2, ())) (fun p => ab6 p.2 ∧ 0 ≤ p.2 ∧ p.2 ≤ 1 ∧ adM p.1.2.1) (fun p => aoY (aL8 p.1.2.1 p.2))
noncomputable def ajD : (CvT × Unit) × FxT × Unit → Option (FxT × Int × Unit) := acQ (fun p : CvT × Rat => ((p.1, ()), fx p.2, ())) (fun p => ab6 p.2 ∧ p.2 ≤ 1 ∧ ab9 p.1.2.2.1) (fun p => ax3 p.1.2.2.1 p.2)
noncomputable def ab8 (x : CvT × FxT × Unit) : Option (FxT × Int × Unit) := some (if abW x.1 then (match rdF x.2.1 with | some q => aC4 x.1 (aeY q) | none => (([], [], ()), 20, ())) else (([], [], ()), 90, ()))
noncomputable def azP : ad0 × FxT × Unit → Option (FxT × Int × Unit) := acQ (fun p : ad0 × Rat => (p.1, fx p.2, ())) (fun p => ab6 p.2 ∧ ad6 p.1) (fun p => aoY (atF p.1.2.1 p.1.2.2.1 p.2))
noncomputable def ai8 : ad0 × FxT × Unit → Option (FxT × Int × Unit) := acQ (fun p : ad0 × Rat => (p.1, fx p.2, ())) (fun p => ab6 p.2 ∧ ad6 p.1) (fun p => aoY (aCO p.1 p.2))
noncomputable def arO : CvT × FxT × Unit → Option (Int × Unit) := acQ (fun p : CvT × Rat => (p.1, fx p.2, ())) (fun p => ab6 p.2 ∧ p.2 ≤ 1 ∧ ab9 p.1.2.2.1) (fun p => ((ae5 p.2 p.1.2.2.1 : Int), ()))
noncomputable def aoA : List Int × FxT × Unit → Option (FxT × Int × Unit) := acQ (fun p : List Int × Rat => (p.1, fx p.2, ())) (fun p => ab6 p.2 ∧ 0 ≤ p.2 ∧ p.2 ≤ 1 ∧ adM p.1) (fun p => aoY (aL8 p.1 p.2))
noncomputable def akE (x : CvT × FxT × Unit) : Option (FxT × Int × Unit) := if shC x.1 ∧ shF x.2.1 then ab8 x else none
def aAn : List BdT → BdT
 | [] => (0, 0, ())
 | b :: l => l.foldl atI b
def okL (l : List BdT) : Prop := l ≠ [] ∧ l.length ≤ 1000000 ∧ ∀ b ∈ l, okB b.1 b.2.1
instance (l : List BdT) : Decidable (okL l) := inferInstanceAs (Decidable (_ ∧ _ ∧ _))
def ajE (x : List BdT × Unit) : Option (BdT × Int × Unit) := if okL x.1 then some (aAn x.1, 0, ()) else none
noncomputable def afJ : List FxT × Unit → Option (BdT × Int × Unit) := acQ (fun l : List Rat => (l.map (fun q => fx q), ())) (fun l => l ≠ [] ∧ l.length ≤ 1000000 ∧ ∀ q ∈ l, ab6 q ∧ (agX q q).2.1 = 0) (fun l => (aAn (l.map fun q => (agX q q).1), 0, ()))
def afO (m a n : Int) : Int := m * n + a * 1000000000000
def aAd (s : ad0) (lo hi : Int) : BdT :=
 (max (min (afO s.2.1 s.2.2.1 lo / 1000000) (afO s.2.1 s.2.2.1 hi / 1000000)) 0, max (max (-(-afO s.2.1 s.2.2.1 lo / 1000000)) (-(-afO s.2.1 s.2.2.1 hi / 1000000))) 0, ())
noncomputable def aAe (s : ad0) (lo hi : Int) : BdT × Int × Unit :=
 if (aL9 (aAd s lo hi) s.2.2.2.1 s.2.2.2.2.1).2.1 ≠ 0 then ((0, 0, ()), (aL9 (aAd s lo hi) s.2.2.2.1 s.2.2.2.2.1).2.1, ())
 else if (aPy (aL9 (aAd s lo hi) s.2.2.2.1 s.2.2.2.2.1).1 (s.2.2.2.2.2.1 * 1000000, s.2.2.2.2.2.1 * 1000000, ())).2.1 ≠ 0 then ((0, 0, ()), (aPy (aL9 (aAd s lo hi) s.2.2.2.1 s.2.2.2.2.1).1 (s.2.2.2.2.2.1 * 1000000, s.2.2.2.2.2.1 * 1000000, ())).2.1, ())
 else (asI (aPy (aL9 (aAd s lo hi) s.2.2.2.1 s.2.2.2.2.1).1 (s.2.2.2.2.2.1 * 1000000, s.2.2.2.2.2.1 * 1000000, ())).1, 0, ())
def inU (n : Int) : Prop := inR n 0 1000000000000
instance (n : Int) : Decidable (inU n) := inferInstanceAs (Decidable (_ ∧ _))
noncomputable def aeE (x : PcT × Int × Int × Unit) : Option (BdT × Int × Unit) := if ad6 x.1.1 ∧ inU x.2.1 ∧ inU x.2.2.1 then some (aAe x.1.1 x.2.1 x.2.2.1) else none
def agL (x : (CvT × Unit) × BdT × Unit) : Option (BdT × Int × Unit) := some (x.2.1, 0, ())
def acK (l : List ad0) (k : Nat) : Int := if k = 0 then 0 else (l.getD (k - 1) (0, 0, 0, 0, 0, 0, ())).1
def abB (n : Int) (l : List ad0) : Nat := l.findIdx (fun s => decide (n ≤ s.1 * 1000000))
noncomputable def aDH (l : List ad0) (lo hi : Int) (k : Nat) : BdT × Int × Unit := aAe (l.getD k (0, 0, 0, 0, 0, 0, ())) (max lo (acK l k * 1000000)) (min hi ((l.getD k (0, 0, 0, 0, 0, 0, ())).1 * 1000000))
noncomputable def at5 (l : List ad0) (lo hi : Int) : Nat → Nat → List BdT → BdT × Int × Unit
 | 0, _, acc => (aAn acc, 0, ())
 | n + 1, k, acc => if (aDH l lo hi k).2.1 ≠ 0 then ((0, 0, ()), (aDH l lo hi k).2.1, ()) else at5 l lo hi n (k + 1) (acc ++ [(aDH l lo hi k).1])
noncomputable def avC (l : List ad0) (lo hi : Int) : BdT × Int × Unit := at5 l lo hi (abB hi l + 1 - abB lo l) (abB lo l) []
noncomputable def adR (x : (CvT × Unit) × BdT × Unit) : Option (BdT × Int × Unit) := if ab9 x.1.1.2.2.1 ∧ inU x.2.1.1 ∧ inU x.2.1.2.1 ∧ x.2.1.1 ≤ x.2.1.2.1 then some (avC x.1.1.2.2.1 x.2.1.1 x.2.1.2.1) else none
def aEA (l : List Int) (n : Int) : Nat := min (n * ((l.length - 1 : Nat) : Int) / 1000000000000).toNat (l.length - 2)
def asE (l : List Int) (n : Int) : Int := l.getD (aEA l n) 0 * 1000000000000 + (n * ((l.length - 1 : Nat) : Int) - (aEA l n : Int) * 1000000000000) * (l.getD (aEA l n + 1) 0 - l.getD (aEA l n) 0)
def aS6 (m : Int) : BdT := (m / 65535, -(-m / 65535), ())
def aHs (l : List Int) (lo hi : Int) (k : Nat) : Bool := decide (inR ((k : Int) * 1000000000000) (lo * ((l.length - 1 : Nat) : Int)) (hi * ((l.length - 1 : Nat) : Int)))
def aR4 (l : List Int) (lo hi : Int) (k : Nat) : List BdT := aS6 (asE l lo) :: aS6 (asE l hi) :: ((List.range k).filter (aHs l lo hi)).map (fun j => aS6 (l.getD j 0 * 1000000000000))
def arH (l : List Int) (lo hi : Int) : BdT := aAn (aR4 l lo hi l.length)
def ae0 (x : (CvT × Unit) × BdT × Unit) : Option (BdT × Int × Unit) := if adM x.1.1.2.1 ∧ inU x.2.1.1 ∧ inU x.2.1.2.1 ∧ x.2.1.1 ≤ x.2.1.2.1 then some (arH x.1.1.2.1 x.2.1.1 x.2.1.2.1, 0, ()) else none
noncomputable def aJo (c : CvT) (b : BdT) : BdT × Int × Unit := if c.1 = 1 then (b, 0, ()) else if c.1 = 2 then (arH c.2.1 b.1 b.2.1, 0, ()) else avC c.2.2.1 b.1 b.2.1
noncomputable def ahA (x : CvT × BdT × Unit) : Option (BdT × Int × Unit) := some (if abW x.1 then (if okB x.2.1.1 x.2.1.2.1 then aJo x.1 (asI x.2.1) else ((0, 0, ()), 30, ())) else ((0, 0, ()), 90, ()))
def asK : CvT := (2, [0, 65535, 0], [], ())
def stepsC : CvT := (3, [], [(500000, 1000000, 0, 1, 1, 0, ()), (1000000, 2000000, -1000000, 2, 1, 500000, ())], ())
def rootC : CvT := (3, [], [(1000000, 1000000, 0, 1, 2, 0, ())], ())
def adF (x : Int × Int × Unit) : Option (FxT × Unit) := ab0 x
def akJ (_ : Unit) : Option (CvT × Unit) := some (asK, ())
def aoI (_ : Unit) : Option (CvT × Unit) := some (stepsC, ())
def arX (_ : Unit) : Option (CvT × Unit) := some (rootC, ())
noncomputable def aeL (x : CvT × FxT × FxT × Unit) : Option (Bool × Unit) := (ab8 (x.1, x.2.1, ())).map (fun r => (eqb r (x.2.2.1, 0, ()), ()))
def auD (_ : Unit) : Option (Bool × Unit) := some (true, ())
end Go.Vs
namespace Go.Vg
open Go
def opn (P : Program) : Nat → TypeId → Ty → Bool
 | 0, _, _ => false
 | n + 1, t, u => Nat.beq (P.cellsOf t) u.size && (match P.underlying t, u with
  | some (.int k), .int k' => decide (k = k')
  | some .bool, .bool => true
  | some .string, .str => true
  | some (.slice e), .sl v => opn P n e v && Nat.ble 1 v.size && Nat.ble 1 (P.bytesOf e)
  | some (.array m e), .arr m' v => Nat.beq m m' && opn P n e v
  | some (.struct fs), u => opFs (opn P n) fs.toList 0 u
  | _, _ => false)
where opFs (f : TypeId → Ty → Bool) : List Field → Nat → Ty → Bool
 | [], _, u => match u with | .unit => true | _ => false
 | x :: r, off, u => match u with
  | .pair t v => Nat.beq x.offset off && f x.type t && opFs f r (off + t.size) v
  | _ => false
theorem aMS {α : Type} {R : α → List Value → Prop} {n : Nat} : ∀ (len : Nat) (cs : List Value), cs.length = len * n → (∀ i, i < len → ∃ x, R x ((cs.drop (i * n)).take n)) → ∃ xs, xs.length = len ∧ RdL R xs cs
 | 0, cs, hl, _ => ⟨[], rfl, by rw [vC] at hl; exact yx hl⟩
 | len + 1, cs, hl, h => by
  obtain ⟨x, hx⟩ := h 0 (Nat.succ_pos _)
  rw [vC, yN] at hx
  have hl' : (cs.drop n).length = len * n := by rw [yA, hl, yj]; omega
  obtain ⟨xs, h1, h2⟩ := aMS len (cs.drop n) hl' (fun i hi => by
   have := h (i + 1) (Nat.succ_lt_succ hi)
   rw [yb]
   rwa [yj, xc] at this)
  exact ⟨x :: xs, by rw [zG, h1], cs.take n, cs.drop n, (xw n cs).symm, hx, h2⟩
section
variable {H : Type} {enc : TypeId × Value → H} {P : Program} {w : World} {spare : Nat → Bool} {held : Bool}
abbrev aoU (l : List Nat) : Prop := l.all (· ≤ reachBytes) = true
theorem amO {a b : List Nat} (h : aoU (a ++ b)) : aoU a ∧ aoU b := by
 simp only [aoU, List.all_append, zw] at h
 exact h
theorem ax0 {e : TypeId} : ∀ {ds : List (DataW H)}, aoU (DataW.weightsAll P e ds) → ∀ d ∈ ds, aoU (d.weights P e)
 | [], _, _, h => by cases h
 | d :: r, h, x, hx => by
  rw [DataW.weightsAll] at h
  obtain ⟨h1, h2⟩ := amO h
  rcases zy.1 hx with rfl | hx
  ·exact h1
  ·exact ax0 h2 x hx
theorem aBi : ∀ {ts : List TypeId} {ds : List (DataW H)}, aoU (DataW.weightsEach P ts ds) → ∀ (i : Nat) t d, ts[i]? = some t → ds[i]? = some d → aoU (d.weights P t)
 | [], _, _, i, t, d, h, _ => by simp at h
 | _ :: _, [], _, i, t, d, _, h => by simp at h
 | t :: ts, d :: ds, h, i, t', d', h1, h2 => by
  rw [DataW.weightsEach] at h
  obtain ⟨h3, h4⟩ := amO h
  cases i with
  | zero => simp at h1 h2; subst h1; subst h2; exact h3
  | succ i => exact aBi h4 i t' d' (by simpa using h1) (by simpa using h2)
theorem an7 {a : Addr} {n : Nat} {l : List Value} (h : w.cells? 0 a n = some l) : l.length = n ∧ ∀ i (hi : i < n), w.cell? (a.add i) = l[i]? := by
 unfold World.cells? at h
 rw [if_pos (yg _)] at h
 refine ⟨by simpa using mapM_some_length h, fun i hi => ?_⟩
 have := mapM_some_get h i i (by simp [hi])
 exact this
theorem aLr {a : Addr} {v : Value} (h : w.cell? a = some v) : ∃ c e fr, w.heap[a.block]? = some (.cells c e fr) ∧ a.spot = none ∧ c[a.off]? = some v := by
 unfold World.cell? at h
 split at h
 ·rename_i c e fr hc
  split at h
  ·cases h
  ·rename_i hs
   exact ⟨c, e, fr, hc, by simpa using hs, h⟩
 ·cases h
theorem aD2 : reachBytes ≤ lim := zf
theorem aNn {n : Nat} {f : TypeId → Ty → Bool} {cs : List Value} (hf : ∀ t u cs d ps, f t u = true → DataW.trod enc P w 0 spare held n t cs = some (d, ps) → aoU (d.weights P t) → ∃ x, Rd (· < w.heap.size) w u x cs)
  (hsz : ∀ t u, f t u = true → P.cellsOf t = u.size) :
  ∀ (fs : List Field) (off : Nat) (u : Ty) (xs : List (DataW H × List MemPlace)), opn.opFs f fs off u = true → cs.length = off + u.size → xs.length = fs.length →
   (∀ (i : Nat) (g : Field), fs[i]? = some g → DataW.trod enc P w 0 spare held n g.type ((cs.drop g.offset).take (P.cellsOf g.type)) = xs[i]?) →
   (∀ (i : Nat) (g : Field) y, fs[i]? = some g → xs[i]? = some y → aoU (y.1.weights P g.type)) → ∃ x, Rd (· < w.heap.size) w u x (cs.drop off)
 | [], off, u, xs, h, hl, _, _, _ => by
  cases u <;> first | (cases h; done) | skip
  exact ⟨(), by
   have : cs.length = off := by simpa [Ty.size] using hl
   show cs.drop off = []
   exact List.drop_eq_nil_of_le zc⟩
 | g :: r, off, u, xs, h, hl, hx, ht, hw => by
  cases u <;> first | (cases h; done) | skip
  rename_i t v
  simp only [opn.opFs, zw] at h
  obtain ⟨⟨h1, h2⟩, h3⟩ := h
  have h1 := Nat.eq_of_beq_eq_true h1
  subst h1
  have hs := hsz _ _ h2
  cases xs with
  | nil => simp at hx
  | cons y ys =>
   have h4 := ht 0 g rfl
   rw [hs] at h4
   obtain ⟨a, ha⟩ := hf _ _ _ y.1 y.2 h2 h4 (hw 0 g y rfl rfl)
   obtain ⟨b, hb⟩ := aNn hf hsz r (g.offset + t.size) v ys h3 (by rw [hl]; simp only [Ty.size]; omega) (by simpa using hx) (fun i k hk => by have := ht (i + 1) k (by simpa using hk); simpa using this) (fun i k z hk hz => hw (i + 1) k z (by simpa using hk) (by simpa using hz))
   refine ⟨(a, b), _, _, (xw t.size (cs.drop g.offset)).symm, ha, ?_⟩
   rw [yb]
   exact hb
theorem avY {n : Nat} {t : TypeId} {u : Ty} (h : opn P n t u = true) : P.cellsOf t = u.size := by
 cases n with
 | zero => cases h
 | succ n =>
  simp only [opn, zw] at h
  exact Nat.eq_of_beq_eq_true h.1
theorem aqI : ∀ (n : Nat) (t : TypeId) (u : Ty) (fuel : Nat) (cs : List Value) (d : DataW H) (ps : List MemPlace), opn P n t u = true → DataW.trod enc P w 0 spare held fuel t cs = some (d, ps) → aoU (d.weights P t) →
  ∃ x, Rd (· < w.heap.size) w u x cs
 | 0, _, _, _, _, _, _, h, _, _ => by cases h
 | n + 1, t, u, fuel, cs, d, ps, h, hd, hw => by
  have hsz := avY h
  simp only [opn, zw] at h
  obtain ⟨-, h⟩ := h
  split at h
  ·rename_i k k' hu
   have := of_decide_eq_true h
   subst this
   obtain ⟨m, rfl, _, hwf⟩ := DataW.trod_int hu hd
   refine ⟨m, rfl, ?_⟩
   simpa [Lit.wf] using hwf
  ·rename_i hu
   obtain ⟨b, rfl, _⟩ := DataW.trod_bool hu hd
   exact ⟨b, rfl⟩
  ·rename_i hu
   obtain ⟨s, rfl, hx, _⟩ := DataW.trod_string hu hd
   injection hx with hx _
   subst hx
   have : s.data.toList.length ≤ reachBytes := by simpa [aoU, DataW.weights] using hw
   exact ⟨s.data.toList, rfl, zC this aD2⟩
  ·rename_i e v hu
   simp only [zw] at h
   obtain ⟨⟨h1, h2⟩, h3⟩ := h
   have h2 := Nat.le_of_ble_eq_true h2
   have h3 := Nat.le_of_ble_eq_true h3
   have hse := avY h1
   rcases DataW.trod_slice hu hd with ⟨rfl, hx⟩ | ⟨a, len, cap, elems, rest, m, rfl, rfl, hx, _, hlc, _, hle, hel, _, _⟩
   ·exact ⟨[], none, 0, rfl, zq _, yg _, Or.inl rfl⟩
   ·injection hx with hx _
    subst hx
    simp only [DataW.weights, hu, aoU, List.all_cons, zw, ym, List.all_append] at hw
    obtain ⟨hw1, hw2, _⟩ := hw
    have hlim : len ≤ lim := by
     have : len * 1 ≤ (List.map (·.1) elems).length * P.bytesOf e := Nat.mul_le_mul (by simp [hle]) h3
     have h4 : (List.map (·.1) elems).length * P.bytesOf e ≤ ((List.map (·.1) elems).length + (List.map (·.1) rest).length) * P.bytesOf e := zU _ (xg _ _)
     exact zC zc (zC hw1 aD2)
    rcases zD len with h0 | h0
    ·subst h0
     exact ⟨[], some a, cap, rfl, hlc, yg _, Or.inl rfl⟩
    ·-- the cells of an element
     have key : ∀ i, i < len → ∃ l y, w.cells? 0 (a.add (i * v.size)) v.size = some l ∧ DataW.trod enc P w 0 spare held m e l = some y ∧ elems[i]? = some y := by
      intro i hi
      have := hel i hi
      rw [zR zc, hse] at this
      obtain ⟨l, hl1, hl2⟩ := Option.bind_eq_some_iff.1 this
      exact ⟨l, _, hl1, hl2, by rw [zR zc]⟩
     obtain ⟨l0, y0, hl0, -, -⟩ := key 0 h0
     obtain ⟨hn0, hc0⟩ := an7 hl0
     have hc00 := hc0 0 h2
     rw [zR zc] at hc00
     obtain ⟨c, et, fr, hb, hsp, _⟩ := aLr hc00
     have e0 : a.add (0 * v.size) = a := by simp [Addr.add]
     rw [e0] at hb hsp
     have e00 : a.add 0 = a := by simp [Addr.add]
     rw [e00] at hb hsp
     obtain ⟨b, o, sp⟩ := a
     dsimp only at hb hsp
     subst hsp
     -- each cell
     have cell : ∀ i, i < len → ∀ j, j < v.size → ∀ l, w.cells? 0 (Addr.add ⟨b, o, none⟩ (i * v.size)) v.size = some l → c[o + i * v.size + j]? = l[j]? := by
      intro i hi j hj l hl
      obtain ⟨q1, q2⟩ := an7 hl
      have := q2 j hj
      rw [← this]
      have ea : ((Addr.add ⟨b, o, none⟩ (i * v.size)).add j) = ⟨b, o + i * v.size + j, none⟩ := by
       unfold Addr.add
       by_cases c1 : i * v.size = 0 <;> by_cases c2 : j = 0 <;> simp [c1, c2]
      rw [ea]
      unfold World.cell?
      dsimp only
      rw [hb]
      rfl
     have part : ∀ i, i < len → ∀ l, w.cells? 0 (Addr.add ⟨b, o, none⟩ (i * v.size)) v.size = some l → (c.toList.drop (o + i * v.size)).take v.size = l := by
      intro i hi l hl
      obtain ⟨q1, q2⟩ := an7 hl
      apply List.ext_getElem?
      intro j
      rcases zr j v.size with hj | hj
      ·rw [List.getElem?_take_of_lt hj, yX, ← cell i hi j hj l hl]
       simp
      ·rw [xR (by rw [zK]; omega), xR zc]
     have hlen : o + len * v.size ≤ c.size := by
      obtain ⟨l, y, hl, -, -⟩ := key (len - 1) zc
      obtain ⟨q1, q2⟩ := an7 hl
      have := cell (len - 1) zc (v.size - 1) zc l hl
      rw [zR zc] at this
      have hlt := (xu.1 this).1
      have e1 : len * v.size = (len - 1) * v.size + v.size := by
       conv => lhs; rw [show len = (len - 1) + 1 by omega]
       rw [yj]
      omega
     obtain ⟨xs, hx1, hx2⟩ := aMS (R := Rd (· < w.heap.size) w v) (n := v.size) len ((c.toList.drop o).take (len * v.size)) (by rw [zK, yA]; simp; omega) (fun i hi => by
      obtain ⟨l, y, hl, hl2, hy⟩ := key i hi
      have hm : y.1 ∈ elems.map (·.1) := zM.2 ⟨y, List.mem_of_getElem? hy, rfl⟩
      obtain ⟨x, hx⟩ := aqI n e v m l y.1 y.2 h1 hl2 (ax0 hw2 _ hm)
      refine ⟨x, ?_⟩
      have e2 : ((((c.toList.drop o).take (len * v.size)).drop (i * v.size)).take v.size) = l := by
       rw [← part i hi l hl, wE, xe, yb]
       congr 1
       have : i * v.size + v.size ≤ len * v.size := by rw [← yj]; exact zU _ hi
       omega
      rw [e2]
      exact hx)
     subst hx1
     exact ⟨xs, some ⟨b, o, none⟩, cap, rfl, hlc, hlim, Or.inr ⟨b, o, c, et, fr, rfl, (xu.1 hb).1, hb, hlen, hx2⟩⟩
  ·rename_i m e m' v hu
   simp only [zw] at h
   obtain ⟨h1, h2⟩ := h
   have h1 := Nat.eq_of_beq_eq_true h1
   subst h1
   have hse := avY h2
   obtain ⟨xs, k, rfl, hx, hlen, hxl, hel⟩ := DataW.trod_array hu hd
   injection hx with hx _
   subst hx
   rw [hsz] at hlen
   have hlen' : cs.length = m * v.size := hlen
   simp only [DataW.weights, hu] at hw
   obtain ⟨ys, hy1, hy2⟩ := aMS (R := Rd (· < w.heap.size) w v) (n := v.size) m cs hlen' (fun i hi => by
    have := hel i hi
    rw [zR zc, hse] at this
    exact aqI n e v k _ _ _ h2 this (ax0 hw _ (zM.2 ⟨_, yf zc, rfl⟩)))
   exact ⟨ys, hy1, hy2⟩
  ·rename_i _ fs hu
   obtain ⟨xs, k, rfl, hx, hlen, hxl, hel⟩ := DataW.trod_struct hu hd
   injection hx with hx _
   subst hx
   simp only [DataW.weights, hu] at hw
   obtain ⟨x, hx⟩ := aNn (n := k) (f := opn P n) (cs := cs) (fun t u cs d ps h1 h2 h3 => aqI n t u k cs d ps h1 h2 h3) (fun t u h => avY h) fs.toList 0 _ xs h (by rw [hlen, hsz]; omega) (by simpa using hxl) (fun i g hg => hel i g (by simpa using hg))
    (fun i g y hg hy => aBi hw i g.type y.1 (by simp [hg]) (by simp [hy]))
   exact ⟨x, by simpa using hx⟩
  ·cases h
theorem aQz {f : TypeId → Ty → Bool} : ∀ {fs : List Field} {off : Nat} {u : Ty}, opn.opFs f fs off u = true → u.agg = true
 | [], _, u, h => by cases u <;> first | rfl | (cases h; done)
 | _ :: _, _, u, h => by cases u <;> first | rfl | (cases h; done)
theorem aKt {n : Nat} {t : TypeId} {u : Ty} {r : _root_.Go.Reach} {b0 : Nat} {v : Value} {d : DataW H} {ps : List MemPlace} (ho : opn P n t u = true) (hne : u ≠ .unit) (hval : Value.okWide P w r b0 t v) (hd : DataW.Trod enc P w 0 spare held t v d ps) (hw : aoU (d.weights P t)) :
  ∃ x, RdV (· < w.heap.size) w u x v := by
 obtain ⟨fuel, hf⟩ := hd
 obtain ⟨x, hx⟩ := aqI n t u fuel _ _ _ ho hf hw
 refine ⟨x, _, hx, ?_⟩
 cases n with
 | zero => cases ho
 | succ n =>
  simp only [opn, zw] at ho
  obtain ⟨-, h⟩ := ho
  split at h
  ·rename_i k k' hu
   obtain ⟨m, rfl⟩ := WideShapes.okWide_int hu hval
   rfl
  ·rename_i hu
   obtain ⟨m, rfl⟩ := WideShapes.okWide_bool hu hval
   rfl
  ·rename_i hu
   obtain ⟨m, rfl⟩ := WideShapes.okWide_string hu hval
   rfl
  ·rename_i e v' hu
   obtain ⟨a, len, cap, rfl⟩ := WideShapes.okWide_slice hu hval
   rfl
  ·rename_i ha
   unfold Value.okWide at hval
   rw [ha] at hval
   obtain ⟨cs, rfl, _⟩ := hval
   rfl
  ·rename_i fs hu'
   obtain ⟨cs, rfl, _⟩ := WideShapes.okWide_struct hu' hval
   unfold vOf
   rw [if_pos (aQz h)]
   rfl
  ·cases h
def aIQ (P : Program) : List TypeId → Ty → Bool
 | [], u => match u with | .unit => true | _ => false
 | t :: ts, u => match u with
  | .pair a b => opn P 8 t a && (match a with | .unit => false | _ => true) && aIQ P ts b
  | _ => false
theorem aIR : ∀ (ts : List TypeId) (u : Ty) (vs : List Value) (ds : List (DataW H)) (ps : List MemPlace) {r : _root_.Go.Reach} {b0 : Nat}, aIQ P ts u = true → (∀ (j : Nat) t v, ts[j]? = some t → vs[j]? = some v → Value.okWide P w r b0 t v) →
  DataW.TrodAll enc P w 0 spare held ts vs ds ps → aoU (DataW.weightsEach P ts ds) → ∃ x, RdVs (· < w.heap.size) w u x vs
 | [], u, vs, ds, ps, _, _, ho, _, hd, _ => by
  cases u <;> first | (cases ho; done) | skip
  cases vs with
  | nil => exact ⟨(), rfl⟩
  | cons v vs => cases ds <;> exact hd.elim
 | t :: ts, u, vs, ds, ps, r, b0, ho, hv, hd, hw => by
  cases u <;> first | (cases ho; done) | skip
  rename_i a b
  simp only [aIQ, zw] at ho
  obtain ⟨⟨h1, h2⟩, h3⟩ := ho
  cases vs with
  | nil => exact hd.elim
  | cons v vs =>
   cases ds with
   | nil => exact hd.elim
   | cons d ds =>
    obtain ⟨p, q, hd1, hd2, _⟩ := hd
    rw [DataW.weightsEach] at hw
    obtain ⟨hw1, hw2⟩ := amO hw
    obtain ⟨x, hx⟩ := aKt h1 (fun e => by subst e; cases h2) (hv 0 t v rfl rfl) hd1 hw1
    obtain ⟨y, hy⟩ := aIR ts b vs ds q h3 (fun j t' v' e1 e2 => hv (j + 1) t' v' (by simpa using e1) (by simpa using e2)) hd2 hw2
    exact ⟨(x, y), v, vs, rfl, hx, hy⟩
theorem aIu (hl : laidOutB P = true) {W W' : World} (hb : RowKit.Below W.heap.size W W') : ∀ (ts : List TypeId) (vs : List Value) (ds : List (DataW H)) (ps : List MemPlace), (ts.all fun t => P.readableRec t && decide (t < P.types.size)) = true →
  DataW.TrodAll enc P W 0 (fun _ => true) true ts vs ds ps → (∀ x ∈ ps, x.block < W.heap.size) → DataW.TrodAll enc P W' 0 (fun b => decide (b < W.heap.size)) true ts vs ds ps
 | [], [], [], _, _, hd, _ => hd
 | [], _ :: _, [], _, _, hd, _ | [], _, _ :: _, _, _, hd, _ => by cases ‹List Value› <;> exact hd.elim
 | t :: ts, [], ds, _, _, hd, _ => by cases ds <;> exact hd.elim
 | t :: ts, v :: vs, [], _, _, hd, _ => hd.elim
 | t :: ts, v :: vs, d :: ds, ps, hr, ⟨p, q, h1, h2, e⟩, hlt => by
  simp only [List.all_cons, zw, ym] at hr
  obtain ⟨⟨r1, r2⟩, r3⟩ := hr
  subst e
  exact ⟨p, q, RowKit.Below.trod hl r1 r2 h1 hb (fun x hx => hlt x (vE _ hx)), aIu hl hb ts vs ds q r3 h2 (fun x hx => hlt x (List.mem_append_right _ hx)), rfl⟩
end
end Go.Vg
