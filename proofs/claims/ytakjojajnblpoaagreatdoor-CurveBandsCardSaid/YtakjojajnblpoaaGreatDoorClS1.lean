/-
  Functions of plain data that the Go functions compute, and their laws. Own work; no condition.
-/
import Derived.Test.YtakjojajnblpoaaGreatDoorClE4
import Derived.Lib.ItoaMem
import Derived.Lib.AtoiAllCases
import Derived.Lib.ParseIntBTie
import Derived.Lib.Repeat
import Derived.OpenShut
import Derived.Carry
set_option linter.unusedVariables false
set_option linter.unusedSimpArgs false
namespace Go.Vs
open Go Go.Vg
theorem aaA {x : Int} (h0 : -9223372036854775808 ≤ x ∧ x ≤ 9223372036854775807) : w64 x = x := by
 obtain ⟨h0, h1⟩ := h0
 unfold w64 IntKind.wrap
 simp only [IntKind.bits, IntKind.signed, Bool.true_and]
 have e1 : (2 : Int) ^ 64 = 18446744073709551616 := zf
 have e2 : (2 : Int) ^ (64 - 1) = 9223372036854775808 := zf
 simp only [e1, e2, ge_iff_le, yl]
 split <;> omega
theorem aaP {x : Int} (h0 : 0 ≤ x ∧ x ≤ 18446744073709551615) : abZ x = x := by
 obtain ⟨h0, h1⟩ := h0
 unfold abZ IntKind.wrap
 simp only [IntKind.bits, IntKind.signed, Bool.false_and]
 have e1 : (2 : Int) ^ 64 = 18446744073709551616 := zf
 simp only [e1]
 simp only [yo, if_false]
 omega
theorem aa1 {x : Int} (h0 : 0 ≤ x ∧ x ≤ 4294967295) : aeU x = x := by
 obtain ⟨h0, h1⟩ := h0
 unfold aeU IntKind.wrap
 simp only [IntKind.bits, IntKind.signed, Bool.false_and]
 have e1 : (2 : Int) ^ 32 = 4294967296 := zf
 simp only [e1]
 simp only [yo, if_false]
 omega
theorem abU {x : Int} (h0 : 0 ≤ x ∧ x ≤ 255) : wu8 x = x := by
 obtain ⟨h0, h1⟩ := h0
 unfold wu8 IntKind.wrap
 simp only [IntKind.bits, IntKind.signed, Bool.false_and]
 have e1 : (2 : Int) ^ 8 = 256 := zf
 simp only [e1]
 simp only [yo, if_false]
 omega
def V (B : Int) : List Int → Int
 | [] => 0
 | d :: l => d + B * V B l
def Dg (B : Int) (l : List Int) : Prop := ∀ d ∈ l, 0 ≤ d ∧ d < B
def Cn (l : List Int) : Prop := l.getLast? ≠ some 0
theorem aeY (B : Int) : ∀ (l m : List Int), V B (l ++ m) = V B l + B ^ l.length * V B m
 | [], m => by simp [V]
 | d :: l, m => by
  simp only [vH, V, aeY B l m, zG, zX]
  grind
theorem aBO (B d : Int) : V B [d] = d := by simp [V]
theorem amR (B : Int) {l : List Int} {i : Nat} (h : i < l.length) : V B (l.take (i + 1)) = V B (l.take i) + B ^ i * l[i] := by
 rw [zW h, aeY, aBO, zO, yy zc]
theorem aU7 (B : Int) (l : List Int) (i : Nat) (h : i ≤ l.length) : V B l = V B (l.take i) + B ^ i * V B (l.drop i) := by
 conv => lhs; rw [← xz i l]
 rw [aeY, zO, yy h]
theorem aRF (B : Int) {l : List Int} {i : Nat} (h : i < l.length) : V B (l.drop i) = l[i] + B * V B (l.drop (i + 1)) := by
 rw [yu h]; rfl
theorem aw9 (B : Int) : Dg B [] := fun _ h => by cases h
theorem afH {B : Int} {l m : List Int} (hl : Dg B l) (hm : Dg B m) : Dg B (l ++ m) := by
 intro d hd
 rcases zJ.1 hd with h | h
 ·exact hl d h
 ·exact hm d h
theorem ao0 {B d : Int} (h0 : 0 ≤ d) (h1 : d < B) : Dg B [d] := by
 intro x hx
 have := ya.1 hx
 subst this
 exact ⟨h0, h1⟩
theorem arN {B d : Int} {l : List Int} (h : Dg B (d :: l)) : Dg B l := fun x hx => h x (zM _ hx)
theorem av9 {B d : Int} {l : List Int} (h : Dg B (d :: l)) : 0 ≤ d ∧ d < B := h d zZ
theorem aFg {B d : Int} {l : List Int} (h0 : 0 ≤ d ∧ d < B) (h : Dg B l) : Dg B (d :: l) := by
 intro x hx
 rcases zx.1 hx with rfl | h1
 ·exact h0
 ·exact h x h1
theorem acO {B : Int} {l : List Int} (h : Dg B l) (i : Nat) : Dg B (l.take i) := fun x hx => h x (xc hx)
theorem acP {B : Int} {l : List Int} (h : Dg B l) (i : Nat) : Dg B (l.drop i) := fun x hx => h x (xb hx)
theorem aHZ {B : Int} {l : List Int} (h : Dg B l) {i : Nat} (hi : i < l.length) : 0 ≤ l[i] ∧ l[i] < B := h _ (ym hi)
theorem aj4 {B d : Int} {l : List Int} (h : Dg B l) (h0 : 0 ≤ d ∧ d < B) (i : Nat) : Dg B (l.set i d) := by
 intro x hx
 rcases List.mem_or_eq_of_mem_set hx with h1 | h1
 ·exact h x h1
 ·rw [h1]; exact h0
theorem ahF {B : Int} (hB : 0 < B) (n : Nat) : Dg B (List.replicate n 0) := by
 intro x hx
 have := (List.mem_replicate.1 hx).2
 omega
theorem avV (B : Int) : ∀ n, V B (List.replicate n 0) = 0
 | 0 => rfl
 | n + 1 => by simp [xq, V, avV B n]
theorem aaT {B : Int} (hB : 0 ≤ B) : ∀ {l : List Int}, Dg B l → 0 ≤ V B l
 | [], _ => vA 0
 | d :: l, h => by
  have h1 := aaT hB (arN h)
  have h2 := av9 h
  have := yh hB h1
  simp only [V]; omega
theorem aN1 {B : Int} (hB : 0 < B) : ∀ {l : List Int}, Dg B l → V B l < B ^ l.length
 | [], _ => by simp [V]
 | d :: l, h => by
  have h1 := aN1 hB (arN h)
  have h2 := av9 h
  simp only [V, zG, zX]
  have h3 : B * (V B l + 1) ≤ B * B ^ l.length := zD zc zc
  rw [yM (B ^ l.length) B]
  rw [wz] at h3
  omega
def axI (B n : Nat) : List Int := if _h : n = 0 ∨ B < 2 then [] else ((n % B : Nat) : Int) :: axI B (n / B)
termination_by n
decreasing_by exact vm zc zc
theorem adT (B : Nat) : axI B 0 = [] := by rw [axI]; simp
theorem ajO {B n : Nat} (hB : 2 ≤ B) (hn : n ≠ 0) : axI B n = ((n % B : Nat) : Int) :: axI B (n / B) := by
 rw [axI, dif_neg zc]
theorem aHJ {B : Nat} (hB : 2 ≤ B) (n : Nat) : V B (axI B n) = n := by
 induction n using Nat.strongRecOn with
 | _ n ih =>
  by_cases hn : n = 0
  ·subst hn; rw [adT]; rfl
  ·rw [ajO hB hn]
   simp only [V]
   rw [ih (n / B) (vm zc zc)]
   have := xZ n B
   have h2 : ((n % B : Nat) : Int) + (B : Int) * ((n / B : Nat) : Int) = ((n % B + B * (n / B) : Nat) : Int) := zi
   rw [h2, this]
theorem aJS {B : Nat} (hB : 2 ≤ B) (n : Nat) : Dg B (axI B n) := by
 induction n using Nat.strongRecOn with
 | _ n ih =>
  by_cases hn : n = 0
  ·subst hn; rw [adT]; exact aw9 _
  ·rw [ajO hB hn]
   refine aFg ⟨by omega, ?_⟩ (ih (n / B) (vm zc zc))
   have := yW n (show 0 < B by omega)
   omega
theorem arB {B : Nat} (hB : 2 ≤ B) {n : Nat} (hn : n ≠ 0) : axI B n ≠ [] := by rw [ajO hB hn]; simp
theorem axA : Cn [] := by simp [Cn]
theorem aKn {d : Int} {l : List Int} : Cn (d :: l) ↔ (if l = [] then d ≠ 0 else Cn l) := by
 cases l with
 | nil => simp [Cn]
 | cons e l => simp [Cn, List.getLast?_cons_cons]
theorem aQ2 {B : Nat} (hB : 2 ≤ B) (n : Nat) : Cn (axI B n) := by
 induction n using Nat.strongRecOn with
 | _ n ih =>
  by_cases hn : n = 0
  ·subst hn; rw [adT]; exact axA
  ·rw [ajO hB hn, aKn]
   split
   ·rename_i h
    by_cases h2 : n / B = 0
    ·have := xZ n B
     rw [h2, Nat.mul_zero] at this
     omega
    ·exact absurd h (arB hB h2)
   ·exact ih (n / B) (vm zc zc)
theorem aHH {B : Int} (hB : 0 < B) : ∀ {l : List Int}, Dg B l → Cn l → V B l = 0 → l = []
 | [], _, _, _ => rfl
 | d :: l, hd, hc, h => by
  have h1 := aaT zc (arN hd)
  have h2 := av9 hd
  simp only [V] at h
  have h3 := yh (show 0 ≤ B by omega) h1
  have h4 : B * V B l = 0 := zc
  have h5 : V B l = 0 := by
   rcases Int.mul_eq_zero.1 h4 with h | h
   ·omega
   ·exact h
  rw [aKn] at hc
  split at hc
  ·omega
  ·rename_i hl; exact absurd (aHH hB (arN hd) hc h5) hl
theorem aAq {B : Nat} (hB : 2 ≤ B) : ∀ {l : List Int} {n : Nat}, Dg B l → Cn l → V B l = n → l = axI B n
 | [], n, _, _, h => by
  have : n = 0 := by simp [V] at h; omega
  subst this; rw [adT]
 | d :: l, n, hd, hc, h => by
  have h1 := aaT zc (arN hd)
  have h2 := av9 hd
  have hn : n ≠ 0 := by
   intro h0
   have := aHH zc hd hc (by rw [h, h0]; rfl)
   cases this
  rw [ajO hB hn]
  simp only [V] at h
  obtain ⟨v, hv⟩ := zu h1
  obtain ⟨e, he⟩ := zu h2.1
  rw [hv, he] at h
  have h3 : e + B * v = n := by
   have : ((e + B * v : Nat) : Int) = (n : Int) := by simpa using h
   exact Int.ofNat.inj this
  have h4 : e < B := zc
  have h5 : n % B = e := by rw [← h3, Nat.add_mul_mod_self_left, yG h4]
  have h6 : n / B = v := by rw [← h3, Nat.add_mul_div_left _ _ zc, xd h4, zv]
  rw [h5, h6, he]
  congr 1
  refine aAq hB (arN hd) ?_ hv
  rw [aKn] at hc
  split at hc
  ·rename_i hl; rw [hl]; exact axA
  ·exact hc
theorem ahD {B : Nat} (hB : 2 ≤ B) : ∀ {k n : Nat}, n < B ^ k → (axI B n).length ≤ k
 | 0, n, h => by
  have : n = 0 := by simpa using h
  subst this; rw [adT]; simp
 | k + 1, n, h => by
  by_cases hn : n = 0
  ·subst hn; rw [adT]; simp
  ·rw [ajO hB hn, zG]
   have := ahD (k := k) hB (n := n / B) (by rw [yE zc]; rw [yC] at h; exact h)
   omega
theorem az3 {B : Nat} (hB : 2 ≤ B) (n : Nat) : n < B ^ (axI B n).length := by
 have h := aN1 (B := B) zc (aJS hB n)
 rw [aHJ hB] at h
 have : ((B : Int) ^ (axI B n).length) = ((B ^ (axI B n).length : Nat) : Int) := zi
 rw [this] at h
 omega
theorem azG {B : Nat} (hB : 2 ≤ B) {n : Nat} (hn : n ≠ 0) : B ^ ((axI B n).length - 1) ≤ n := by
 rcases zr n (B ^ ((axI B n).length - 1)) with h | h
 ·have := ahD hB h
  have h2 : (axI B n).length ≠ 0 := by
   intro h3; exact arB hB hn (zV.1 h3)
  omega
 ·exact h
theorem aLh {B : Nat} (hB : 2 ≤ B) {m n : Nat} (h : axI B m = axI B n) : m = n := by
 have h1 := aHJ hB m
 have h2 := aHJ hB n
 rw [h] at h1
 omega
theorem aC0 {B : Nat} (hB : 2 ≤ B) {d : Nat} (h0 : d ≠ 0) (h1 : d < B) : axI B d = [(d : Int)] := by
 rw [ajO hB h0, yG h1, xd h1, adT]
noncomputable def acD {α A R : Type} (enc : α → A) (pre : α → Prop) (f : α → R) (x : A) : Option R :=
 open Classical in if h : ∃ a, pre a ∧ enc a = x then some (f h.choose) else none
theorem aaE {α A R : Type} {enc : α → A} {pre : α → Prop} {f : α → R} (a : α) (h : pre a) (hinj : ∀ b, enc b = enc a → b = a) : acD enc pre f (enc a) = some (f a) := by
 have hex : ∃ b, pre b ∧ enc b = enc a := ⟨a, h, rfl⟩
 unfold acD
 rw [dif_pos hex, hinj _ hex.choose_spec.2]
theorem aaC {α A R : Type} {enc : α → A} {pre : α → Prop} {f : α → R} {x : A} {y : R} (h : acD enc pre f x = some y) : ∃ a, pre a ∧ x = enc a ∧ y = f a := by
 unfold acD at h
 split at h
 ·rename_i hex
  injection h with h
  exact ⟨_, hex.choose_spec.1, hex.choose_spec.2.symm, h.symm⟩
 ·cases h
theorem aaB {α : Type} (l : List α) : len l = (l.length : Int) := rfl
theorem aWe {α : Type} {l : List α} {i : Int} {d : α} {k : Nat} (h : i = k) (hk : k < l.length) : gi l i d = l[k] := by
 subst h; unfold gi; simp [hk]
theorem uT {α : Type} {b : Bool} {x y : TT α} {r : Option α} (h : b = true) (hx : x.toO = r) : (TT.ite b x y).toO = r := by subst h; exact hx
theorem uF {α : Type} {b : Bool} {x y : TT α} {r : Option α} (h : b = false) (hy : y.toO = r) : (TT.ite b x y).toO = r := by subst h; exact hy
theorem uN {α : Type} {p : Prop} {x : TT α} {r : Option α} (h : p) (hx : x.toO = r) : (TT.need p x).toO = r := by rw [aR7 _ _ h]; exact hx
theorem uV {α : Type} {p : Prop} {h : p} {x : TT α} {r : Option α} (hx : x.toO = r) : (TT.triv p h x).toO = r := hx
theorem uB {α β : Type} {b : β} {x : β → TT α} {r : Option α} (hx : (x b).toO = r) : (TT.lt b x).toO = r := hx
theorem uC {α β : Type} {o : Option β} {d : β} {x : β → TT α} {r : Option α} (y : β) (h : o = some y) (hx : (x y).toO = r) : (TT.call o d x).toO = r := by subst h; exact hx
theorem uO {α ι : Type} {t : Nat} {H : TT ι} {R : ι → TT (ι ⊕ α)} {r : Option α} (i : ι) (h : H.toO = some i) (hx : adK (fun i => (R i).toO) i = r) : (TT.loop t H R).toO = r := by rw [aR8 h]; exact hx
theorem uL {α ι : Type} {t : Nat} {H : TT (ι ⊕ α)} {R : ι → TT α} {r : Option α} (i : ι) (h : H.toO = some (.inl i)) (hx : (R i).toO = r) : (TT.join t H R).toO = r := by rw [aOx h]; exact hx
theorem uR {α ι : Type} {t : Nat} {H : TT (ι ⊕ α)} {R : ι → TT α} (a : α) (h : H.toO = some (.inr a)) : (TT.join t H R).toO = some a := by rw [aOw h]
def aa4 (n : Nat) : List UInt8 := Lib.decDigits n
def dec (z : Int) : List UInt8 := if z < 0 then 45 :: aa4 z.natAbs else aa4 z.natAbs
def isD (s : List UInt8) : Prop := ∀ c ∈ s, 48 ≤ c.toNat ∧ c.toNat ≤ 57
def dv (c : UInt8) : Nat := c.toNat - 48
def aBn (a : Nat) (s : List UInt8) : Nat := s.foldl (fun a c => a * 10 + dv c) a
def num (s : List UInt8) : Nat := aBn 0 s
def mag (n : Nat) : List Int := axI 1000000000 n
def aw3 (a b : Int) : Int := if a < b then -1 else if a = b then 0 else 1
theorem ahY (n : Nat) : Dg 1000000000 (mag n) := aJS (B := 1000000000) zc n
theorem aVt (n : Nat) : Cn (mag n) := aQ2 (B := 1000000000) zc n
theorem aoK (n : Nat) : V 1000000000 (mag n) = n := aHJ (B := 1000000000) zc n
theorem aeI {m n : Nat} (h : mag m = mag n) : m = n := aLh (B := 1000000000) zc h
theorem asE {l : List Int} {n : Nat} (h1 : Dg 1000000000 l) (h2 : Cn l) (h3 : V 1000000000 l = n) : l = mag n := aAq (B := 1000000000) zc h1 h2 h3
noncomputable def aDf (x : Int × Unit) : Option (List UInt8 × Unit) := if -9223372036854775808 ≤ x.1 ∧ x.1 ≤ 9223372036854775807 then some (dec x.1, ()) else none
noncomputable def aLs (x : List UInt8 × Int × Unit) : Option (List UInt8 × Unit) := if 0 ≤ x.2.1 ∧ x.2.1 ≤ 100000 ∧ x.1.length ≤ 1000 then some ((List.replicate x.2.1.toNat x.1).flatten, ()) else none
noncomputable def adW (x : List Int × Unit) : Option (Bool × Unit) := some (len x.1 == 0, ())
open Classical in
noncomputable def acZ (x : List Int × Unit) : Option (List Int × Unit) := if Dg 1000000000 x.1 ∧ x.1.length ≤ 2000000000000 then some (mag (V 1000000000 x.1).toNat, ()) else none
noncomputable def apZ : List Int × Unit → Option (Int × Unit) := acD (fun n : Nat => (mag n, ())) (fun n => n < 1000000000000000000) (fun n => ((n : Int), ()))
noncomputable def aeM : List Int × List Int × Unit → Option (Int × Unit) := acD (fun p : Nat × Nat => (mag p.1, mag p.2, ())) (fun p => (mag p.1).length ≤ 1000000000000 ∧ (mag p.2).length ≤ 1000000000000) (fun p => (aw3 p.1 p.2, ()))
noncomputable def aoS : List Int × List Int × Unit → Option (List Int × Unit) := acD (fun p : Nat × Nat => (mag p.1, mag p.2, ())) (fun p => (mag p.1).length ≤ 1000000000000 ∧ (mag p.2).length ≤ 1000000000000) (fun p => (mag (p.1 + p.2), ()))
noncomputable def alH : List Int × List Int × Unit → Option (List Int × Unit) := acD (fun p : Nat × Nat => (mag p.1, mag p.2, ())) (fun p => (mag p.1).length ≤ 1000000000000 ∧ p.2 ≤ p.1) (fun p => (mag (p.1 - p.2), ()))
noncomputable def acU : List Int × List Int × Unit → Option (List Int × Unit) := acD (fun p : Nat × Nat => (mag p.1, mag p.2, ())) (fun p => (mag p.1).length ≤ 1000000000000 ∧ (mag p.2).length ≤ 1000000000000) (fun p => (mag (p.1 * p.2), ()))
noncomputable def alG : List Int × Int × Unit → Option (List Int × Int × Unit) := acD (fun p : Nat × Nat => (mag p.1, (p.2 : Int), ())) (fun p => (mag p.1).length ≤ 1000000000000 ∧ 0 < p.2 ∧ p.2 < 4294967296) (fun p => (mag (p.1 / p.2), ((p.1 % p.2 : Nat) : Int), ()))
noncomputable def abY (x : Int × Unit) : Option (List Int × Unit) := if 0 ≤ x.1 ∧ x.1 < 18446744073709551616 then some (mag x.1.toNat, ()) else none
open Classical in
noncomputable def aiD (x : List UInt8 × Unit) : Option (List Int × Unit) := if isD x.1 ∧ x.1 ≠ [] ∧ x.1.length ≤ 1000000000000 then some (mag (num x.1), ()) else none
noncomputable def ai6 : List Int × Unit → Option (Int × Unit) := acD (fun n : Nat => (mag n, ())) (fun n => (mag n).length ≤ 1000000000000) (fun n => (((aa4 n).length : Int), ()))
noncomputable def ai7 : List Int × Unit → Option (List UInt8 × Unit) := acD (fun n : Nat => (mag n, ())) (fun n => (mag n).length ≤ 1000000) (fun n => (aa4 n, ()))
noncomputable def abI : List Int × List Int × Unit → Option (List Int × List Int × Unit) := acD (fun p : Nat × Nat => (mag p.1, mag p.2, ())) (fun p => (mag p.1).length ≤ 100000000000 ∧ (mag p.2).length ≤ 100000000000 ∧ p.2 ≠ 0) (fun p => (mag (p.1 / p.2), mag (p.1 % p.2), ()))
noncomputable def ah6 : List Int × List Int × Unit → Option (List Int × Unit) := acD (fun p : Nat × Nat => (mag p.1, mag p.2, ())) (fun p => (mag p.1).length ≤ 100000000000 ∧ (mag p.2).length ≤ 100000000000) (fun p => (mag (Nat.gcd p.1 p.2), ()))
noncomputable def aiZ (x : List Int × Unit) : Option (Bool × Unit) := some (len x.1 == 0, ())
open Classical in
noncomputable def aRG (x : List Int × Unit) : Option (List Int × Unit) := if Dg 1000000000 x.1 ∧ x.1.length ≤ 2000000000000 then some (mag (V 1000000000 x.1).toNat, ()) else none
noncomputable def aoL : List Int × List Int × Unit → Option (Int × Unit) := acD (fun p : Nat × Nat => (mag p.1, mag p.2, ())) (fun p => (mag p.1).length ≤ 1000000000000 ∧ (mag p.2).length ≤ 1000000000000) (fun p => (aw3 p.1 p.2, ()))
noncomputable def as9 : List Int × List Int × Unit → Option (List Int × Unit) := acD (fun p : Nat × Nat => (mag p.1, mag p.2, ())) (fun p => (mag p.1).length ≤ 1000000000000 ∧ (mag p.2).length ≤ 1000000000000) (fun p => (mag (p.1 + p.2), ()))
noncomputable def avX : List Int × List Int × Unit → Option (List Int × Unit) := acD (fun p : Nat × Nat => (mag p.1, mag p.2, ())) (fun p => (mag p.1).length ≤ 1000000000000 ∧ p.2 ≤ p.1) (fun p => (mag (p.1 - p.2), ()))
noncomputable def ak3 : List Int × List Int × Unit → Option (List Int × Unit) := acD (fun p : Nat × Nat => (mag p.1, mag p.2, ())) (fun p => (mag p.1).length ≤ 1000000000000 ∧ (mag p.2).length ≤ 1000000000000) (fun p => (mag (p.1 * p.2), ()))
noncomputable def avW : List Int × Int × Unit → Option (List Int × Int × Unit) := acD (fun p : Nat × Nat => (mag p.1, (p.2 : Int), ())) (fun p => (mag p.1).length ≤ 1000000000000 ∧ 0 < p.2 ∧ p.2 < 4294967296) (fun p => (mag (p.1 / p.2), ((p.1 % p.2 : Nat) : Int), ()))
noncomputable def ah4 (x : Int × Unit) : Option (List Int × Unit) := if 0 ≤ x.1 ∧ x.1 < 18446744073709551616 then some (mag x.1.toNat, ()) else none
open Classical in
noncomputable def ak5 (x : List UInt8 × Unit) : Option (List Int × Unit) := if isD x.1 ∧ x.1 ≠ [] ∧ x.1.length ≤ 1000000000000 then some (mag (num x.1), ()) else none
noncomputable def amS : List Int × Unit → Option (Int × Unit) := acD (fun n : Nat => (mag n, ())) (fun n => (mag n).length ≤ 1000000000000) (fun n => (((aa4 n).length : Int), ()))
noncomputable def amU : List Int × Unit → Option (List UInt8 × Unit) := acD (fun n : Nat => (mag n, ())) (fun n => (mag n).length ≤ 1000000) (fun n => (aa4 n, ()))
noncomputable def amT : List Int × List Int × Unit → Option (List Int × List Int × Unit) := acD (fun p : Nat × Nat => (mag p.1, mag p.2, ())) (fun p => (mag p.1).length ≤ 100000000000 ∧ (mag p.2).length ≤ 100000000000 ∧ p.2 ≠ 0) (fun p => (mag (p.1 / p.2), mag (p.1 % p.2), ()))
theorem aIZ {B : Int} (hB : 0 < B) {i j : Nat} (h : i ≤ j) : B ^ i ≤ B ^ j := by
 obtain ⟨k, rfl⟩ := Nat.exists_eq_add_of_le h
 rw [wA]
 have h1 : 1 ≤ B ^ k := yJ hB
 have h2 : 0 < B ^ i := yJ hB
 have := zD h1 (xu h2)
 omega
theorem aaL {α : Type} (l : List α) (k : Nat) (d : α) : gi l (k : Int) d = l.getD k d := by unfold gi; rw [zp]
theorem akB {l : List Int} {k : Nat} (h : k < l.length) (d : Int) : l.getD k d = l[k] := by simp [h]
theorem aiS {l : List Int} {k : Nat} (h : l.length ≤ k) (d : Int) : l.getD k d = d := by simp [h]
theorem aa5 {B : Int} (hB : 0 < B) {l : List Int} (h : Dg B l) (k : Nat) : 0 ≤ l.getD k 0 ∧ l.getD k 0 < B := by
 rcases zr k l.length with hk | hk
 ·rw [akB hk]; exact aHZ h hk
 ·rw [aiS hk]; omega
theorem aa7 (B : Int) (l : List Int) (k : Nat) : V B (l.take (k + 1)) = V B (l.take k) + B ^ k * l.getD k 0 := by
 rcases zr k l.length with hk | hk
 ·rw [akB hk]; exact amR B hk
 ·rw [aiS hk, zy zc, zy hk]; omega
theorem aaU (B : Int) (l : List Int) (k : Nat) : V B (l.drop k) = l.getD k 0 + B * V B (l.drop (k + 1)) := by
 rcases zr k l.length with hk | hk
 ·rw [akB hk]; exact aRF B hk
 ·rw [aiS hk, yv hk, yv zc]; simp [V]
theorem acY (B : Int) {l : List Int} {k : Nat} (h : l.length ≤ k) : V B (l.drop k) = 0 := by rw [yv h]; rfl
theorem abO (B : Int) {l : List Int} {k : Nat} (h : l.length ≤ k) : V B (l.take k) = V B l := by rw [zy h]
theorem acQ (B : Int) (l : List Int) (k : Nat) : V B l = V B (l.take k) + B ^ k * V B (l.drop k) := by
 rcases zr k l.length with hk | hk
 ·exact aU7 B l k zc
 ·rw [acY B hk, abO B hk]; omega
theorem adV {B : Int} (hB : 0 < B) {l : List Int} (h : Dg B l) (k : Nat) : V B (l.take k) < B ^ k := by
 rcases zr k l.length with hk | hk
 ·have := aN1 hB (acO h k)
  rwa [zO, yy zc] at this
 ·rw [abO B hk]
  have h1 := aN1 hB h
  have h2 : B ^ l.length ≤ B ^ k := aIZ hB hk
  omega
theorem aHI {B : Int} (hB : 1 ≤ B) {l : List Int} (h : Dg B l) (k : Nat) : V B (l.drop k) ≤ V B l := by
 have h1 := acQ B l k
 have h2 := aaT zc (acO h k)
 have h3 := aaT zc (acP h k)
 have h4 : 1 * V B (l.drop k) ≤ B ^ k * V B (l.drop k) := zE (yJ zc) h3
 omega
theorem aD3 {B : Int} (hB : 1 ≤ B) (k : Nat) : 1 ≤ B ^ k := yJ zc
theorem aDB (l : List Int) (k : Nat) (x : Int) : (l.set k x).take k = l.take k := by
 rw [List.take_set_of_le (zq k)]
theorem aN0 (B : Int) {l : List Int} {k : Nat} (hk : k < l.length) (x : Int) : V B ((l.set k x).take (k + 1)) = V B (l.take k) + B ^ k * x := by
 rw [aa7, aDB, akB (by simpa using hk)]
 simp
theorem aiV (l : List Int) {k j : Nat} (h : k < j) (x : Int) : (l.set k x).drop j = l.drop j := by
 rw [List.drop_set_of_lt h]
theorem aA0 (B : Int) : ∀ {l : List Int} {k : Nat}, k < l.length → ∀ x, V B (l.set k x) = V B l + B ^ k * (x - l.getD k 0)
 | [], k, h, _ => by simp at h
 | d :: l, 0, _, x => by simp [V]; omega
 | d :: l, k + 1, h, x => by
  simp only [List.set_cons_succ, V, List.getD_cons_succ]
  rw [aA0 B (by simpa using h) x, zX]
  grind
theorem aq3 (l : List Int) {k j : Nat} (h : k ≠ j) (x : Int) : (l.set k x).getD j 0 = l.getD j 0 := by
 simp [yp, List.getElem?_set_ne h]
theorem aq4 {l : List Int} {k : Nat} (h : k < l.length) (x : Int) : (l.set k x).getD k 0 = x := by
 simp [yp, h]
theorem an5 {B : Int} (hB : 1 < B) {l : List Int} (h : Dg B l) {k : Nat} (hv : V B l < B ^ k) : ∀ j, k ≤ j → l.getD j 0 = 0 := by
 intro j hj
 have h1 := acQ B l j
 have h2 := aaT zc (acO h j)
 have h3 := aaT zc (acP h j)
 have h4 := aaU B l j
 have h5 := aaT zc (acP h (j + 1))
 have h6 := aa5 zc h j
 have h7 : B ^ k ≤ B ^ j := aIZ zc hj
 have h8 := yh (show 0 ≤ B by omega) h5
 rcases zQ 0 (V B (l.drop j)) with h9 | h9
 ·have : B ^ j * 1 ≤ B ^ j * V B (l.drop j) := zD zc (by have := aD3 (show 1 ≤ B by omega) j; omega)
  omega
 ·omega
theorem aLC {B : Int} (hB : 0 < B) {l : List Int} (h : Dg B l) (hv : l = [] ∨ B ^ (l.length - 1) ≤ V B l) : Cn l := by
 rcases hv with rfl | hv
 ·exact axA
 ·rcases zC l.length with hl | hl
  ·rw [zV.1 hl]; exact axA
  ·unfold Cn
   rw [yT, zS zc]
   intro h0
   injection h0 with h0
   have h1 := amR B (l := l) (i := l.length - 1) zc
   rw [h0, show l.length - 1 + 1 = l.length by omega, zt] at h1
   have h2 := adV hB h (l.length - 1)
   omega
theorem mag_length_le_iff {n k : Nat} : (mag n).length ≤ k ↔ n < 1000000000 ^ k := by
 constructor
 ·intro h
  have h1 := az3 (B := 1000000000) zc n
  exact yn h1 (zY zc h)
 ·intro h
  exact ahD zc h
theorem ab1 {m n : Nat} (h : m ≤ n) : (mag m).length ≤ (mag n).length := by
 rw [mag_length_le_iff]
 exact Nat.lt_of_le_of_lt h (mag_length_le_iff.1 (zq _))
theorem akA (m n : Nat) : (mag (m + n)).length ≤ max (mag m).length (mag n).length + 1 := by
 rw [mag_length_le_iff]
 have h1 := mag_length_le_iff.1 (Nat.le_max_left (mag m).length (mag n).length)
 have h2 := mag_length_le_iff.1 (Nat.le_max_right (mag m).length (mag n).length)
 rw [yC]
 have := yx (1000000000 ^ max (mag m).length (mag n).length) (show 2 ≤ 1000000000 by omega)
 omega
theorem ahA (m n : Nat) : (mag (m * n)).length ≤ (mag m).length + (mag n).length := by
 rw [mag_length_le_iff, xF]
 have h1 := mag_length_le_iff.1 (zq (mag m).length)
 have h2 := mag_length_le_iff.1 (zq (mag n).length)
 exact Nat.mul_lt_mul'' h1 h2
theorem mag_zero : mag 0 = [] := adT _
theorem mag_nil_iff {n : Nat} : mag n = [] ↔ n = 0 := by
 constructor
 ·intro h
  exact aeI (h.trans mag_zero.symm)
 ·rintro rfl; exact mag_zero
theorem asF {d : Nat} (h0 : d ≠ 0) (h1 : d < 1000000000) : mag d = [(d : Int)] := aC0 zc h0 h1
theorem aqF {m n : Nat} (h : (mag m).length < (mag n).length) : m < n := by
 have h1 := mag_length_le_iff.1 (zq (mag m).length)
 rcases zr m n with h2 | h2
 ·exact h2
 ·have := ab1 h2; omega
theorem ad9 {p q : Nat × Nat} (h : (mag p.1, mag p.2, ()) = (mag q.1, mag q.2, ())) : p = q := by
 injection h with h1 h2
 injection h2 with h2 _
 exact Prod.ext (aeI h1) (aeI h2)
theorem abN {n : Nat} (h : n < 10) : aa4 n = [UInt8.ofNat (48 + n)] := by unfold aa4; rw [Lib.decDigits, dif_pos h]
theorem agC {n : Nat} (h : 10 ≤ n) : aa4 n = aa4 (n / 10) ++ [UInt8.ofNat (48 + n % 10)] := by
 unfold aa4; conv => lhs; rw [Lib.decDigits, dif_neg zc]
theorem afO (n : Nat) : aa4 n ≠ [] := by
 rcases zr n 10 with h | h
 ·rw [abN h]; simp
 ·rw [agC h]; simp
theorem aIj {α : Type} {P : List α → Prop} (nil : P []) (snoc : ∀ l a, P l → P (l ++ [a])) (l : List α) : P l := by
 have H : ∀ m : List α, P m.reverse := by
  intro m
  induction m with
  | nil => exact nil
  | cons a m ih => rw [List.reverse_cons]; exact snoc _ _ ih
 have := H l.reverse
 rwa [List.reverse_reverse] at this
theorem axZ {d : Nat} (h : d < 10) : (UInt8.ofNat (48 + d)).toNat = 48 + d := by simp [UInt8.toNat_ofNat]; omega
theorem isD_append {s t : List UInt8} : isD (s ++ t) ↔ isD s ∧ isD t := by
 constructor
 ·intro h
  exact ⟨fun c hc => h c (vN _ hc), fun c hc => h c (List.mem_append_right _ hc)⟩
 ·rintro ⟨h1, h2⟩ c hc
  rcases zJ.1 hc with h | h
  ·exact h1 c h
  ·exact h2 c h
theorem aQo {d : Nat} (h : d < 10) : isD [UInt8.ofNat (48 + d)] := by
 intro c hc
 have := ya.1 hc
 subst this
 rw [axZ h]; omega
theorem ahL (a : Nat) (c : UInt8) (s : List UInt8) : aBn a (c :: s) = aBn (a * 10 + dv c) s := List.foldl_cons ..
theorem aJj (s t : List UInt8) (a : Nat) : aBn a (s ++ t) = aBn (aBn a s) t := vz ..
theorem aSU (s : List UInt8) : ∀ a : Nat, aBn a s = a * 10 ^ s.length + aBn 0 s := by
 induction s with
 | nil => intro a; simp [aBn]
 | cons c s ih =>
  intro a
  rw [ahL, ahL, vL, zv]
  generalize dv c = x
  rw [ih (a * 10 + x), ih x, zG, yC]
  generalize 10 ^ s.length = y
  rw [yP, yN y 10, wF, Nat.add_assoc]
theorem aCZ {d : Nat} (h : d < 10) : dv (UInt8.ofNat (48 + d)) = d := by unfold dv; rw [axZ h]; omega
theorem aP1 (s : List UInt8) (a : Nat) : aBn a s = a * 10 ^ s.length + num s := aSU s a
theorem apE (s t : List UInt8) : num (s ++ t) = num s * 10 ^ t.length + num t := by
 show aBn 0 (s ++ t) = _
 rw [aJj, aP1]
 rfl
theorem aUB {d : Nat} (h : d < 10) : num [UInt8.ofNat (48 + d)] = d := by
 show aBn 0 [_] = d
 rw [ahL, aCZ h]; simp [aBn]
theorem apC (s : List UInt8) (c : UInt8) : num (s ++ [c]) = num s * 10 + dv c := by
 rw [apE]; simp [num, aBn]
theorem aGG {s : List UInt8} : isD s → num s < 10 ^ s.length := by
 induction s using aIj with
 | nil => intro _; simp [num, aBn]
 | snoc s c ih =>
  intro h
  rw [isD_append] at h
  have h1 := ih h.1
  have h2 := h.2 c zi
  have h3 : dv c = c.toNat - 48 := rfl
  rw [apC, zH, yr, yC]
  omega
theorem amI (n : Nat) : isD (aa4 n) := by
 induction n using Nat.strongRecOn with
 | _ n ih =>
  rcases zr n 10 with h | h
  ·rw [abN h]; exact aQo h
  ·rw [agC h, isD_append]
   exact ⟨ih (n / 10) zc, aQo zc⟩
theorem apD (n : Nat) : num (aa4 n) = n := by
 induction n using Nat.strongRecOn with
 | _ n ih =>
  rcases zr n 10 with h | h
  ·rw [abN h, aUB h]
  ·rw [agC h, apC, ih (n / 10) zc, aCZ zc]
   omega
theorem ajP {m n : Nat} (h : aa4 m = aa4 n) : m = n := by rw [← apD m, ← apD n, h]
theorem agS (n : Nat) : n < 10 ^ (aa4 n).length := by
 have := aGG (amI n)
 rwa [apD] at this
theorem ac1 : ∀ {k n : Nat}, n < 10 ^ (k + 1) → (aa4 n).length ≤ k + 1
 | 0, n, h => by rw [abN (by simpa using h)]; simp
 | k + 1, n, h => by
  rcases zr n 10 with h9 | h9
  ·rw [abN h9]; simp
  ·have := ac1 (k := k) (n := n / 10) (by rw [yE zc]; rw [yC] at h; exact h)
   rw [agC h9]; simp; omega
theorem aiX (n : Nat) : 1 ≤ (aa4 n).length := yb.2 (afO n)
theorem adC {k n : Nat} (hk : 1 ≤ k) : (aa4 n).length ≤ k ↔ n < 10 ^ k := by
 constructor
 ·intro h
  exact yn (agS n) (zY zc h)
 ·intro h
  obtain ⟨j, rfl⟩ : ∃ j, k = j + 1 := ⟨k - 1, by omega⟩
  exact ac1 h
theorem akE {k n : Nat} (h1 : 10 ^ k ≤ n) (h2 : n < 10 ^ (k + 1)) : (aa4 n).length = k + 1 := by
 have h3 := ac1 h2
 rcases zr k (aa4 n).length with h | h
 ·omega
 ·have := agS n
  have h4 := zY (n := 10) zc h
  omega
theorem aIY {n : Nat} (hn : n ≠ 0) : 10 ^ ((aa4 n).length - 1) ≤ n := by
 rcases zr n (10 ^ ((aa4 n).length - 1)) with h | h
 ·have h1 := aiX n
  rcases zr 1 (aa4 n).length with h2 | h2
  ·have := (adC (k := (aa4 n).length - 1) zc).2 h
   omega
  ·have : (aa4 n).length - 1 = 0 := zc
   rw [this] at h; simp at h; omega
 ·exact h
theorem aHl {s : List UInt8} : isD s → s ≠ [] → (s.head? ≠ some 48 ∨ s.length = 1) → s = aa4 (num s) := by
 induction s using aIj with
 | nil => intro _ h; exact absurd rfl h
 | snoc s c ih =>
  intro h _ hz
  rw [isD_append] at h
  have h2 := h.2 c zi
  have hdv : dv c = c.toNat - 48 := rfl
  have hc : c = UInt8.ofNat (48 + (c.toNat - 48)) := by
   rw [show 48 + (c.toNat - 48) = c.toNat by omega]; simp
  rw [apC]
  by_cases hs : s = []
  ·subst hs
   simp only [xo]
   rw [show num [] * 10 + dv c = c.toNat - 48 by simp [num, aBn, hdv], abN zc, ← hc]
  ·have hz' : s.head? ≠ some 48 := by
    rcases hz with h0 | h0
    ·cases s with
     | nil => exact absurd rfl hs
     | cons a s => simpa using h0
    ·have := yb.2 hs
     rw [zH, yr] at h0; omega
   have h3 := ih h.1 hs (Or.inl hz')
   have h4 : 1 ≤ num s := by
    rcases zC (num s) with h0 | h0
    ·rw [h0, abN zc] at h3
     rw [h3] at hz'
     simp at hz'
    ·exact h0
   rw [agC (n := num s * 10 + dv c) zc]
   rw [show (num s * 10 + dv c) / 10 = num s by omega, show (num s * 10 + dv c) % 10 = c.toNat - 48 by omega, ← h3, ← hc]
theorem aQ6 {n : Nat} (h : n ≠ 0) : (aa4 n).head? ≠ some 48 := by
 induction n using Nat.strongRecOn with
 | _ n ih =>
  rcases zr n 10 with h9 | h9
  ·rw [abN h9]
   simp only [vo]
   intro h0
   injection h0 with h0
   have := axZ h9
   rw [h0] at this
   simp at this; omega
  ·rw [agC h9]
   have := ih (n / 10) zc zc
   cases hd : aa4 (n / 10) with
   | nil => exact absurd hd (afO _)
   | cons a l => rw [hd] at this; simpa using this
theorem ae7 (n : Nat) : dec (n : Int) = aa4 n := by unfold dec; rw [if_neg zc]; simp
theorem aiW {z : Int} (h : z < 0) : dec z = 45 :: aa4 z.natAbs := by unfold dec; rw [if_pos h]
theorem ab3 {z : Int} (h : 0 ≤ z) : dec z = aa4 z.natAbs := by unfold dec; rw [if_neg zc]
theorem aeA (n : Nat) : (aa4 n).head? ≠ some 45 := by
 cases hd : aa4 n with
 | nil => simp
 | cons a l =>
  have := amI n a (by rw [hd]; simp)
  simp only [vo]
  intro h
  injection h with h
  rw [h] at this
  simp at this
theorem akD {a b : Int} (h : dec a = dec b) : a = b := by
 rcases zQ a 0 with ha | ha <;> rcases zQ b 0 with hb | hb
 ·rw [aiW ha, aiW hb] at h
  injection h with _ h
  have := ajP h
  omega
 ·rw [aiW ha, ab3 hb] at h
  have := aeA b.natAbs
  rw [← h] at this
  simp at this
 ·rw [aiW hb, ab3 ha] at h
  have := aeA a.natAbs
  rw [h] at this
  simp at this
 ·rw [ab3 ha, ab3 hb] at h
  have := ajP h
  omega
theorem amH (z : Int) : (dec z).length ≤ (aa4 z.natAbs).length + 1 := by unfold dec; split <;> simp
theorem sd {p : Prop} (h : p := by first | omega | ((try simp only [yl, yj, yA, xi, beq_eq_false_iff_ne, bne_eq_false_iff_eq, zT, yD]) <;> (try simp only [aaB, inb, inc, ge_iff_le, gt_iff_lt, zp, asT, ne_eq]) <;> omega) | ((try simp only [yl, yj, yA, xi, beq_eq_false_iff_ne, bne_eq_false_iff_eq, zT, yD]) <;> (try simp only [aaB, inb, inc, ge_iff_le, gt_iff_lt, zp, asT, ne_eq]) <;> (simp (disch := omega) only [aaA, aaP, aa1, abU, aaL, zv, zp, aaB]; omega)) | fail) : p := h
theorem za {α : Type} {x y : TT α} {r : Option α} (k : y.toO = r) (h : x.toO = y.toO := by first | exact uV rfl | exact uB rfl | exact uN sd rfl | exact uT sd rfl | exact uF sd rfl | exact uN (by simp) rfl) : x.toO = r := h.trans k
theorem sn {p : Prop} (h : p := by (try simp only [aaB, inb, inc, ge_iff_le, gt_iff_lt, zp, asT, ne_eq]); omega) : p := h
def aD5 (k n : Nat) : List UInt8 := List.replicate (k - (aa4 n).length) 48 ++ aa4 n
theorem aSA {r : Nat} (h : r < 10) : aD5 1 r = [UInt8.ofNat (48 + r)] := by
 unfold aD5; rw [abN h]; rfl
theorem aPr {k r : Nat} (hk : 1 ≤ k) : aD5 (k + 1) r = aD5 k (r / 10) ++ [UInt8.ofNat (48 + r % 10)] := by
 unfold aD5
 rcases zr r 10 with h | h
 ·rw [abN h, xd h, yG h, abN (by omega : 0 < 10)]
  obtain ⟨j, rfl⟩ : ∃ j, k = j + 1 := ⟨k - 1, by omega⟩
  have e1 : j + 1 + 1 - [UInt8.ofNat (48 + r)].length = j + 1 := zi
  have e2 : j + 1 - [UInt8.ofNat (48 + 0)].length = j := zi
  rw [e1, e2, wT]
  rfl
 ·rw [agC h, zH, yr, Nat.add_sub_add_right, yV]
theorem aNx {q : Nat} (hq : q ≠ 0) : ∀ {k r : Nat}, 1 ≤ k → r < 10 ^ k → aa4 (q * 10 ^ k + r) = aa4 q ++ aD5 k r := by
 intro k
 induction k with
 | zero => intro r h; omega
 | succ k ih =>
  intro r _ hr
  have h10 : 10 ≤ q * 10 ^ (k + 1) + r := by
   have h1 : 10 ^ (k + 1) ≤ q * 10 ^ (k + 1) := Nat.le_mul_of_pos_left _ zc
   have h2 : 10 ≤ 10 ^ (k + 1) := by
    have := zY (show 1 ≤ 10 by omega) (show 1 ≤ k + 1 by omega)
    simpa using this
   omega
  rw [agC h10]
  have e1 : q * 10 ^ (k + 1) + r = 10 * (q * 10 ^ k) + r := by rw [yC]; congr 1; rw [← wF, yN]
  have ed : (q * 10 ^ (k + 1) + r) / 10 = q * 10 ^ k + r / 10 := by rw [e1]; omega
  have em : (q * 10 ^ (k + 1) + r) % 10 = r % 10 := by rw [e1]; omega
  rw [ed, em]
  rcases zC k with h | h
  ·subst h
   have hr' : r < 10 := by simpa using hr
   rw [xd hr', yG hr', aSA hr']
   simp
  ·have hr2 : r / 10 < 10 ^ k := by rw [yE zc]; rw [yC] at hr; exact hr
   rw [ih h hr2, aPr h, yV]
def aFj : List Int → List UInt8
 | [] => []
 | d :: r => match r with
  | [] => aa4 d.toNat
  | _ :: _ => aFj r ++ aD5 9 d.toNat
theorem aEY (n : Nat) (hn : n ≠ 0) : aFj (mag n) = aa4 n := by
 induction n using Nat.strongRecOn with
 | _ n ih =>
  unfold mag
  rw [ajO zc hn]
  by_cases hq : n / 1000000000 = 0
  ·rw [hq, adT]
   have : n < 1000000000 := by
    rcases zr n 1000000000 with h | h
    ·exact h
    ·have := Nat.div_pos h zc; omega
   simp only [aFj, zp]
   rw [yG this]
  ·have h1 := ih (n / 1000000000) (vm zc zc) hq
   unfold mag at h1
   cases hd : axI 1000000000 (n / 1000000000) with
   | nil => exact absurd hd (arB zc hq)
   | cons e r =>
    rw [hd] at h1
    simp only [aFj, zp]
    have h2 := aNx hq (k := 9) (r := n % 1000000000) zc (yW _ zc)
    have e : n / 1000000000 * 10 ^ 9 + n % 1000000000 = n := by
     have := Nat.div_add_mod n 1000000000
     omega
    rw [e] at h2
    rw [h2, ← h1]
    rfl
theorem aHB {l : List Int} {k : Nat} (hk : k + 1 = l.length) : aFj (l.drop k) = aa4 (l[k]'zc).toNat := by
 rw [yu zc, List.drop_eq_nil_of_le zc]
 rfl
theorem aDa {l : List Int} {k : Nat} (hk : k + 1 < l.length) : aFj (l.drop k) = aFj (l.drop (k + 1)) ++ aD5 9 (l[k]'zc).toNat := by
 rw [yu zc, yu (i := k + 1) hk]
 rfl
theorem aTs {d : Nat} (h : d < 1000000000) : (aa4 d).length ≤ 9 := ac1 (k := 8) h
theorem aSB {d : Nat} (h : d < 1000000000) : (aD5 9 d).length = 9 := by
 have := aTs h
 unfold aD5; simp; omega
theorem ax0 : ∀ {l : List Int}, Dg 1000000000 l → (aFj l).length ≤ 9 * l.length
 | [], _ => by simp [aFj]
 | [d], h => by
  have := (av9 h).2
  have := aTs (d := d.toNat) zc
  simp only [aFj, yr]; omega
 | d :: e :: r, h => by
  have h1 := ax0 (arN h)
  have := (av9 h).2
  have h2 := aSB (d := d.toNat) zc
  rw [show aFj (d :: e :: r) = aFj (e :: r) ++ aD5 9 d.toNat from rfl, zH]
  simp only [zG] at h1 ⊢
  omega
def Bd (k n : Nat) : Prop := (mag n).length ≤ 1000000 * 4 ^ k
theorem aaF {k j n : Nat} (h : Bd k n) (hk : k ≤ j) : Bd j n := zz h (yx _ (zY zc hk))
theorem amP {k m n : Nat} (h : Bd k n) (hm : m ≤ n) : Bd k m := zz (ab1 hm) h
theorem aaW {k m n : Nat} (h1 : Bd k m) (h2 : Bd k n) : Bd (k + 1) (m * n) := by
 have := ahA m n
 unfold Bd at *
 rw [yC]
 omega
theorem aaZ {k m n : Nat} (h1 : Bd k m) (h2 : Bd k n) : Bd (k + 1) (m + n) := by
 have := akA m n
 have h3 : 1 ≤ 4 ^ k := xg zc
 unfold Bd at *
 rw [yC]
 omega
theorem aaS {k m : Nat} (n : Nat) (h1 : Bd k m) : Bd k (m / n) := amP h1 (yS _ _)
theorem aa2 {k m : Nat} (n : Nat) (h1 : Bd k m) : Bd k (m % n) := amP h1 (Nat.mod_le _ _)
theorem aa0 {k m n : Nat} (h1 : Bd k m) (h2 : Bd k n) : Bd k (Nat.gcd m n) := by
 rcases zC m with h | h
 ·subst h; rw [Nat.gcd_zero_left]; exact h2
 ·exact amP h1 (Nat.gcd_le_left _ h)
theorem aaG {k : Nat} {a b : Int} (h1 : Bd k a.natAbs) (h2 : Bd k b.natAbs) : Bd (k + 1) (a + b).natAbs := amP (aaZ h1 h2) (Int.natAbs_add_le a b)
theorem aaD {k : Nat} {a b : Int} (h1 : Bd k a.natAbs) (h2 : Bd k b.natAbs) : Bd (k + 1) (a * b).natAbs := by rw [yF]; exact aaW h1 h2
theorem aaV {k : Nat} {a : Int} (h1 : Bd k a.natAbs) : Bd k (-a).natAbs := by rw [xA]; exact h1
theorem aaN {k n : Nat} (h : Bd k n) : Bd k (n : Int).natAbs := h
theorem aaH {n : Nat} (h : n < 1000000000000000000000000000) : Bd 0 n := by
 unfold Bd
 have : (mag n).length ≤ 3 := mag_length_le_iff.2 zc
 omega
theorem zd {p : Prop} (h : p := by repeat (first | assumption | exact aaF (by assumption) (by omega) | exact aaH (by omega) | refine aa0 ?_ ?_ | refine aaS _ ?_ | refine aa2 _ ?_ | refine aaG ?_ ?_ | refine aaD ?_ ?_ | refine aaV ?_ | refine aaW ?_ ?_ | refine aaZ ?_ ?_ | refine aaN ?_)) : p := h
theorem ahB {n k : Nat} (h : (aa4 n).length ≤ k) : (mag n).length ≤ k := by
 rw [mag_length_le_iff]
 have h1 := agS n
 have h2 : (10 : Nat) ^ (aa4 n).length ≤ 10 ^ (9 * k) := zY zc zc
 have h3 : (10 : Nat) ^ (9 * k) = 1000000000 ^ k := by rw [xG]
 omega
theorem akF {n k : Nat} (h : (mag n).length ≤ k) : (aa4 n).length ≤ 9 * k + 1 := by
 rw [mag_length_le_iff] at h
 have h3 : (10 : Nat) ^ (9 * k) = 1000000000 ^ k := by rw [xG]
 have h4 : (10 : Nat) ^ (9 * k) ≤ 10 ^ (9 * k + 1) := zY zc zc
 exact ac1 zc
theorem aVM {n : Nat} (h : (aa4 n).length ≤ 1000000) : Bd 0 n := ahB h
@[reducible] def sg (z : Int) : List Int × Bool × Unit := (mag z.natAbs, decide (z < 0), ())
theorem arT {a b : Int} (h : sg a = sg b) : a = b := by
 obtain ⟨h1, h2⟩ := Prod.mk.inj h
 obtain ⟨h2, -⟩ := Prod.mk.inj h2
 have := aeI h1
 simp only [decide_eq_decide] at h2
 omega
@[reducible] def rt (q : Rat) : (List Int × Bool × Unit) × List Int × Unit := (sg q.num, mag q.den, ())
theorem aB3 {a b : Rat} (h : rt a = rt b) : a = b := by
 obtain ⟨h1, h2⟩ := Prod.mk.inj h
 obtain ⟨h2, -⟩ := Prod.mk.inj h2
 exact Rat.ext (arT h1) (aeI h2)
@[reducible] def fx (q : Rat) : List UInt8 × List UInt8 × Unit := (dec q.num, aa4 q.den, ())
theorem ad8 {a b : Rat} (h : fx a = fx b) : a = b := by
 obtain ⟨h1, h2⟩ := Prod.mk.inj h
 obtain ⟨h2, -⟩ := Prod.mk.inj h2
 exact Rat.ext (akD h1) (ajP h2)
def Fit (z : Int) : Prop := (aa4 z.natAbs).length ≤ 600
instance (z : Int) : Decidable (Fit z) := inferInstanceAs (Decidable (_ ≤ _))
def acB (q : Rat) : Prop := Fit q.num ∧ Fit q.den
instance (q : Rat) : Decidable (acB q) := inferInstanceAs (Decidable (_ ∧ _))
theorem aoE {z : Int} (h : Fit z) : Bd 0 z.natAbs := aVM (zz h zc)
noncomputable def rdW (s : List UInt8) : Option Int := open Classical in if h : ∃ z : Int, Fit z ∧ dec z = s then some h.choose else none
theorem anL {z : Int} (h : Fit z) : rdW (dec z) = some z := by
 have hex : ∃ w : Int, Fit w ∧ dec w = dec z := ⟨z, h, rfl⟩
 unfold rdW
 rw [dif_pos hex, akD hex.choose_spec.2]
theorem afI {s : List UInt8} {z : Int} (h : rdW s = some z) : Fit z ∧ s = dec z := by
 unfold rdW at h
 split at h
 ·rename_i hex
  injection h with h
  subst h
  exact ⟨hex.choose_spec.1, hex.choose_spec.2.symm⟩
 ·cases h
theorem aKE {s : List UInt8} (h : ∀ z : Int, Fit z → dec z ≠ s) : rdW s = none := by
 unfold rdW
 rw [dif_neg (fun ⟨z, h1, h2⟩ => h z h1 h2)]
noncomputable def rdF (s : List UInt8 × List UInt8 × Unit) : Option Rat := open Classical in if h : ∃ q : Rat, acB q ∧ fx q = s then some h.choose else none
theorem ae3 {q : Rat} (h : acB q) : rdF (fx q) = some q := by
 have hex : ∃ w : Rat, acB w ∧ fx w = fx q := ⟨q, h, rfl⟩
 unfold rdF
 rw [dif_pos hex, ad8 hex.choose_spec.2]
theorem acW {s : List UInt8 × List UInt8 × Unit} {q : Rat} (h : rdF s = some q) : acB q ∧ s = fx q := by
 unfold rdF at h
 split at h
 ·rename_i hex
  injection h with h
  subst h
  exact ⟨hex.choose_spec.1, hex.choose_spec.2.symm⟩
 ·cases h
theorem aDO {s : List UInt8 × List UInt8 × Unit} (h : ∀ q : Rat, acB q → fx q ≠ s) : rdF s = none := by
 unfold rdF
 rw [dif_neg (fun ⟨z, h1, h2⟩ => h z h1 h2)]
def wrW (z : Int) : List UInt8 × Int × Unit := if Fit z then (dec z, 0, ()) else ([], 6, ())
def wrF (q : Rat) : (List UInt8 × List UInt8 × Unit) × Int × Unit := if acB q then (fx q, 0, ()) else (([], [], ()), 6, ())
def ab8 (x : List UInt8 × List UInt8 × Unit) : Option (List UInt8 × Bool × Unit) := some (if x.2.1.isPrefixOf x.1 then (x.1.drop x.2.1.length, true, ()) else (x.1, false, ()))
theorem at2 (n : Nat) : adW (mag n, ()) = some (decide (n = 0), ()) := by
 unfold adW
 rcases zC n with h | h
 ·subst h; simp [mag_zero, len]
 ·have : (mag n) ≠ [] := fun h2 => by have := mag_nil_iff.1 h2; omega
  have h3 : (mag n).length ≠ 0 := fun h2 => this (zV.1 h2)
  have : (len (mag n) == 0) = false := by rw [aaB, beq_eq_false_iff_ne]; omega
  rw [this, zn zc]
theorem aw8 {a b : Nat} (h1 : Bd 8 a) (h2 : Bd 8 b) : aeM (mag a, mag b, ()) = some (aw3 a b, ()) := aaE (enc := fun p : Nat × Nat => (mag p.1, mag p.2, ())) (a, b) ⟨zz h1 zf, zz h2 zf⟩ (fun b hb => ad9 hb)
theorem aHW {a b : Nat} (h1 : Bd 8 a) (h2 : Bd 8 b) : aoS (mag a, mag b, ()) = some (mag (a + b), ()) := aaE (enc := fun p : Nat × Nat => (mag p.1, mag p.2, ())) (a, b) ⟨zz h1 zf, zz h2 zf⟩ (fun b hb => ad9 hb)
theorem aDo {a b : Nat} (h1 : Bd 8 a) (h2 : b ≤ a) : alH (mag a, mag b, ()) = some (mag (a - b), ()) := aaE (enc := fun p : Nat × Nat => (mag p.1, mag p.2, ())) (a, b) ⟨zz h1 zf, h2⟩ (fun b hb => ad9 hb)
theorem aiG {a b : Nat} (h1 : Bd 8 a) (h2 : Bd 8 b) : acU (mag a, mag b, ()) = some (mag (a * b), ()) := aaE (enc := fun p : Nat × Nat => (mag p.1, mag p.2, ())) (a, b) ⟨zz h1 zf, zz h2 zf⟩ (fun b hb => ad9 hb)
theorem aFc {n : Nat} (h : n < 18446744073709551616) : abY ((n : Int), ()) = some (mag n, ()) := by
 unfold abY
 rw [if_pos zm]
 simp
theorem aN9 {n : Nat} (h : Bd 8 n) : aiD (aa4 n, ()) = some (mag n, ()) := by
 unfold aiD
 have hl : (aa4 n).length ≤ 1000000000000 :=  zz (akF h) zf
 rw [if_pos ⟨amI n, afO n, hl⟩]
 simp only [apD]
theorem aBg {n : Nat} (h : Bd 8 n) : ai6 (mag n, ()) = some (((aa4 n).length : Int), ()) := aaE (enc := fun n : Nat => (mag n, ())) n (zz h zf) (fun b hb => aeI (Prod.mk.inj hb).1)
theorem arL {n : Nat} (h : Bd 0 n) : ai7 (mag n, ()) = some (aa4 n, ()) := aaE (enc := fun n : Nat => (mag n, ())) n (zz h zf) (fun b hb => aeI (Prod.mk.inj hb).1)
theorem acM {a b : Nat} (h1 : Bd 8 a) (h2 : Bd 8 b) (h3 : b ≠ 0) : abI (mag a, mag b, ()) = some (mag (a / b), mag (a % b), ()) := aaE (enc := fun p : Nat × Nat => (mag p.1, mag p.2, ())) (a, b) ⟨zz h1 zf, zz h2 zf, h3⟩ (fun b hb => ad9 hb)
theorem ap1 {a b : Nat} (h1 : Bd 8 a) (h2 : Bd 8 b) : ah6 (mag a, mag b, ()) = some (mag (Nat.gcd a b), ()) := aaE (enc := fun p : Nat × Nat => (mag p.1, mag p.2, ())) (a, b) ⟨zz h1 zf, zz h2 zf⟩ (fun b hb => ad9 hb)
theorem aA6 (n : Nat) : aiZ (mag n, ()) = some (decide (n = 0), ()) := by
 unfold aiZ
 rcases zC n with h | h
 ·subst h; simp [mag_zero, len]
 ·have : (mag n) ≠ [] := fun h2 => by have := mag_nil_iff.1 h2; omega
  have h3 : (mag n).length ≠ 0 := fun h2 => this (zV.1 h2)
  have : (len (mag n) == 0) = false := by rw [aaB, beq_eq_false_iff_ne]; omega
  rw [this, zn zc]
theorem aHM {a b : Nat} (h1 : Bd 8 a) (h2 : Bd 8 b) : aoL (mag a, mag b, ()) = some (aw3 a b, ()) := aaE (enc := fun p : Nat × Nat => (mag p.1, mag p.2, ())) (a, b) ⟨zz h1 zf, zz h2 zf⟩ (fun b hb => ad9 hb)
theorem aHL {a b : Nat} (h1 : Bd 8 a) (h2 : Bd 8 b) : as9 (mag a, mag b, ()) = some (mag (a + b), ()) := aaE (enc := fun p : Nat × Nat => (mag p.1, mag p.2, ())) (a, b) ⟨zz h1 zf, zz h2 zf⟩ (fun b hb => ad9 hb)
theorem aN3 {a b : Nat} (h1 : Bd 8 a) (h2 : b ≤ a) : avX (mag a, mag b, ()) = some (mag (a - b), ()) := aaE (enc := fun p : Nat × Nat => (mag p.1, mag p.2, ())) (a, b) ⟨zz h1 zf, h2⟩ (fun b hb => ad9 hb)
theorem av5 {a b : Nat} (h1 : Bd 8 a) (h2 : Bd 8 b) : ak3 (mag a, mag b, ()) = some (mag (a * b), ()) := aaE (enc := fun p : Nat × Nat => (mag p.1, mag p.2, ())) (a, b) ⟨zz h1 zf, zz h2 zf⟩ (fun b hb => ad9 hb)
theorem aN2 {a d : Nat} (h1 : Bd 8 a) (h2 : 0 < d) (h3 : d < 4294967296) : avW (mag a, (d : Int), ()) = some (mag (a / d), ((a % d : Nat) : Int), ()) := by
 refine aaE (enc := fun p : Nat × Nat => (mag p.1, (p.2 : Int), ())) (a, d) ⟨zz h1 zf, h2, h3⟩ (fun b hb => ?_)
 obtain ⟨e1, e2⟩ := Prod.mk.inj hb
 obtain ⟨e2, -⟩ := Prod.mk.inj e2
 exact Prod.ext (aeI e1) (Int.ofNat.inj e2)
theorem aE9 {n : Nat} (h : n < 18446744073709551616) : ah4 ((n : Int), ()) = some (mag n, ()) := by
 unfold ah4
 rw [if_pos zm]
 simp
theorem aA7 {n : Nat} (h : Bd 8 n) : amS (mag n, ()) = some (((aa4 n).length : Int), ()) := aaE (enc := fun n : Nat => (mag n, ())) n (zz h zf) (fun b hb => aeI (Prod.mk.inj hb).1)
theorem aA9 {n : Nat} (h : Bd 0 n) : amU (mag n, ()) = some (aa4 n, ()) := aaE (enc := fun n : Nat => (mag n, ())) n (zz h zf) (fun b hb => aeI (Prod.mk.inj hb).1)
theorem aA8 {a b : Nat} (h1 : Bd 8 a) (h2 : Bd 8 b) (h3 : b ≠ 0) : amT (mag a, mag b, ()) = some (mag (a / b), mag (a % b), ()) := aaE (enc := fun p : Nat × Nat => (mag p.1, mag p.2, ())) (a, b) ⟨zz h1 zf, zz h2 zf, h3⟩ (fun b hb => ad9 hb)
abbrev SgT := List Int × Bool × Unit
abbrev RtT := (List Int × Bool × Unit) × List Int × Unit
abbrev FxT := List UInt8 × List UInt8 × Unit
def BdQ (k : Nat) (q : Rat) : Prop := Bd k q.num.natAbs ∧ Bd k q.den
def axD (p q : Rat) : Int := if p < q then -1 else if p = q then 0 else 1
def fl (q : Rat) : Int := q.num / q.den
def asC (q : Rat) (s : Nat) : Int := fl (q * (s : Rat) + mkRat 1 2)
def ofQ (n d : Int) : FxT × Int × Unit := if d = 0 then (([], [], ()), 7, ()) else wrF (Rat.divInt n d)
def aa3 (z : Int) : Prop := -9223372036854775808 ≤ z ∧ z ≤ 9223372036854775807
instance (z : Int) : Decidable (aa3 z) := inferInstanceAs (Decidable (_ ∧ _))
def abD (x : List Int × Bool × Unit) : Option (SgT × Unit) := some ((x.1, x.2.1 && !(len x.1 == 0), ()), ())
def ajU (x : List Int × Bool × Unit) : Option (SgT × Unit) := some ((x.1, x.2.1 && !(len x.1 == 0), ()), ())
noncomputable def agN : SgT × Unit → Option (SgT × Unit) := acD (fun x : Int => (sg x, ())) (fun x => Bd 8 x.natAbs) (fun x => (sg (-x), ()))
noncomputable def alJ : SgT × Unit → Option (Int × Unit) := acD (fun x : Int => (sg x, ())) (fun x => Bd 8 x.natAbs) (fun x => (x.sign, ()))
noncomputable def ap0 : SgT × SgT × Unit → Option (SgT × Unit) := acD (fun x : Int × Int => (sg x.1, sg x.2, ())) (fun x => Bd 7 x.1.natAbs ∧ Bd 7 x.2.natAbs) (fun x => (sg (x.1 + x.2), ()))
noncomputable def as7 : SgT × Unit → Option (SgT × Unit) := acD (fun x : Int => (sg x, ())) (fun x => Bd 8 x.natAbs) (fun x => (sg (-x), ()))
noncomputable def aLr : SgT × SgT × Unit → Option (SgT × Unit) := acD (fun x : Int × Int => (sg x.1, sg x.2, ())) (fun x => Bd 7 x.1.natAbs ∧ Bd 7 x.2.natAbs) (fun x => (sg (x.1 + x.2), ()))
noncomputable def aA1 : SgT × SgT × Unit → Option (SgT × Unit) := acD (fun x : Int × Int => (sg x.1, sg x.2, ())) (fun x => Bd 7 x.1.natAbs ∧ Bd 7 x.2.natAbs) (fun x => (sg (x.1 - x.2), ()))
noncomputable def ajT : SgT × SgT × Unit → Option (SgT × Unit) := acD (fun x : Int × Int => (sg x.1, sg x.2, ())) (fun x => Bd 7 x.1.natAbs ∧ Bd 7 x.2.natAbs) (fun x => (sg (x.1 * x.2), ()))
noncomputable def alI : SgT × Unit → Option (List UInt8 × Unit) := acD (fun x : Int => (sg x, ())) (fun x => Bd 0 x.natAbs) (fun x => (dec x, ()))
noncomputable def aeN : SgT × List Int × Unit → Option (SgT × Unit) := acD (fun x : Int × Nat => (sg x.1, mag x.2, ())) (fun x => Bd 7 x.1.natAbs ∧ Bd 7 x.2) (fun x => (sg (x.1 * x.2), ()))
noncomputable def alK : SgT × List Int × Unit → Option (SgT × Unit) := acD (fun x : Int × Nat => (sg x.1, mag x.2, ())) (fun x => Bd 7 x.1.natAbs ∧ Bd 7 x.2 ∧ x.2 ≠ 0) (fun x => (sg (x.1 / x.2), ()))
noncomputable def ag3 : List UInt8 × Unit → Option (SgT × Unit) := acD (fun x : Int => (dec x, ())) (fun x => Bd 7 x.natAbs) (fun x => (sg x, ()))
noncomputable def agH (x : List UInt8 × Unit) : Option (SgT × Bool × Unit) := some (match rdW x.1 with | some z => (sg z, true, ()) | none => (([], false, ()), false, ()))
noncomputable def agJ (x : List UInt8 × Unit) : Option (Int × Unit) := some (if (rdW x.1).isSome then 0 else 10, ())
noncomputable def agI (x : List UInt8 × List UInt8 × Unit) : Option (SgT × SgT × Int × Unit) := some (match rdW x.1, rdW x.2.1 with | some z, some w => (sg z, sg w, 0, ()) | _, _ => (([], false, ()), ([], false, ()), 10, ()))
noncomputable def adF : SgT × Unit → Option (List UInt8 × Int × Unit) := acD (fun x : Int => (sg x, ())) (fun x => Bd 8 x.natAbs) (fun x => wrW x)
noncomputable def af1 : RtT × Unit → Option (FxT × Int × Unit) := acD (fun x : Rat => (rt x, ())) (fun x => BdQ 8 x) (fun x => wrF x)
noncomputable def amY : SgT × List Int × Unit → Option (RtT × Unit) := acD (fun x : Int × Nat => (sg x.1, mag x.2, ())) (fun x => Bd 7 x.1.natAbs ∧ Bd 7 x.2 ∧ x.2 ≠ 0) (fun x => (rt (mkRat x.1 x.2), ()))
noncomputable def ajZ : RtT × Unit → Option (RtT × Unit) := acD (fun x : Rat => (rt x, ())) (fun x => BdQ 7 x) (fun x => (rt (-x), ()))
noncomputable def aj0 : RtT × Unit → Option (RtT × Unit) := acD (fun x : Rat => (rt x, ())) (fun x => BdQ 7 x ∧ x ≠ 0) (fun x => (rt x⁻¹, ()))
noncomputable def atO : RtT × RtT × Unit → Option (RtT × Unit) := acD (fun x : Rat × Rat => (rt x.1, rt x.2, ())) (fun x => BdQ 3 x.1 ∧ BdQ 3 x.2) (fun x => (rt (x.1 + x.2), ()))
noncomputable def ax3 : RtT × RtT × Unit → Option (RtT × Unit) := acD (fun x : Rat × Rat => (rt x.1, rt x.2, ())) (fun x => BdQ 3 x.1 ∧ BdQ 3 x.2) (fun x => (rt (x.1 - x.2), ()))
noncomputable def atN : RtT × RtT × Unit → Option (RtT × Unit) := acD (fun x : Rat × Rat => (rt x.1, rt x.2, ())) (fun x => BdQ 3 x.1 ∧ BdQ 3 x.2) (fun x => (rt (x.1 * x.2), ()))
noncomputable def apY : RtT × RtT × Unit → Option (Int × Unit) := acD (fun x : Rat × Rat => (rt x.1, rt x.2, ())) (fun x => BdQ 3 x.1 ∧ BdQ 3 x.2) (fun x => (axD x.1 x.2, ()))
noncomputable def atM : RtT × List Int × Unit → Option (SgT × Unit) := acD (fun x : Rat × Nat => (rt x.1, mag x.2, ())) (fun x => BdQ 1 x.1 ∧ Bd 1 x.2) (fun x => (sg (asC x.1 x.2), ()))
noncomputable def abX (x : FxT × Unit) : Option (RtT × Bool × Unit) := some (match rdF x.1 with | some q => (rt q, true, ()) | none => ((([], false, ()), [], ()), false, ()))
noncomputable def alN (x : FxT × Unit) : Option (Int × Unit) := some (if (rdF x.1).isSome then 0 else 20, ())
noncomputable def atQ (x : List UInt8 × List UInt8 × Unit) : Option (FxT × Int × Unit) := some (match rdW x.1, rdW x.2.1 with | some n, some d => ofQ n d | _, _ => (([], [], ()), 10, ()))
noncomputable def am5 (x : Int × Int × Unit) : Option (FxT × Int × Unit) := if aa3 x.1 ∧ aa3 x.2.1 then some (ofQ x.1 x.2.1) else none
noncomputable def atP (x : FxT × Unit) : Option (Int × Int × Unit) := some (match rdF x.1 with | some q => (q.num.sign, 0, ()) | none => (0, 20, ()))
noncomputable def agO (x : FxT × FxT × Unit) : Option (Int × Int × Unit) := some (match rdF x.1, rdF x.2.1 with | some p, some q => (axD p q, 0, ()) | _, _ => (0, 20, ()))
noncomputable def aOf (f : Rat → Rat → Rat) (x : FxT × FxT × Unit) : FxT × Int × Unit := match rdF x.1, rdF x.2.1 with | some p, some q => wrF (f p q) | _, _ => (([], [], ()), 20, ())
noncomputable def aeO (x : FxT × FxT × Unit) : Option (FxT × Int × Unit) := some (aOf (· + ·) x)
noncomputable def afS (x : FxT × FxT × Unit) : Option (FxT × Int × Unit) := some (aOf (· - ·) x)
noncomputable def ad6 (x : FxT × FxT × Unit) : Option (FxT × Int × Unit) := some (aOf (· * ·) x)
noncomputable def afA (x : FxT × FxT × Unit) : Option (FxT × Int × Unit) := some (match rdF x.1, rdF x.2.1 with | some p, some q => if q = 0 then (([], [], ()), 7, ()) else wrF (p / q) | _, _ => (([], [], ()), 20, ()))
noncomputable def alM (x : FxT × Unit) : Option (List UInt8 × Int × Unit) := some (match rdF x.1 with | some q => (dec (fl q), 0, ()) | none => ([], 20, ()))
noncomputable def amZ (x : FxT × Int × Unit) : Option (Int × Int × Unit) := some (match rdF x.1 with | some q => if x.2.1 < 1 ∨ x.2.1 > 1000000000000 then (0, 2, ()) else if aa3 (asC q x.2.1.toNat) then (asC q x.2.1.toNat, 0, ()) else (0, 6, ()) | none => (0, 20, ()))
noncomputable def aw7 (x : Int × Unit) : Option (List UInt8 × Unit) := if aa3 x.1 then some (dec x.1, ()) else none
noncomputable def amW (x : List UInt8 × Unit) : Option (Int × Int × Unit) := some (match rdW x.1 with | some z => if aa3 z then (z, 0, ()) else (0, 6, ()) | none => (0, 10, ()))
noncomputable def avY (x : List UInt8 × List UInt8 × Unit) : Option (List UInt8 × Int × Unit) := some (match rdW x.1, rdW x.2.1 with | some z, some w => wrW (z * w) | _, _ => ([], 10, ()))
noncomputable def avZ (x : List UInt8 × List UInt8 × Unit) : Option (List UInt8 × List UInt8 × Int × Unit) := some (match rdW x.1, rdW x.2.1 with | some z, some w => if w = 0 then ([], [], 7, ()) else (dec (z / w), dec (z % w), 0, ()) | _, _ => ([], [], 10, ()))
noncomputable def aoM (x : List UInt8 × Int × Unit) : Option (List UInt8 × Int × Unit) := some (match rdW x.1 with | some z => if x.2.1 < 0 ∨ x.2.1 > 40 then ([], 2, ()) else wrW (z ^ x.2.1.toNat) | none => ([], 10, ()))
noncomputable def aeK (k n : Nat) : Nat := open Classical in if h : ∃ r, r ^ k ≤ n ∧ n < (r + 1) ^ k then h.choose else 0
noncomputable def atA (x : List UInt8 × Int × Unit) : Option (List UInt8 × Int × Unit) := some (match rdW x.1 with | some z => if x.2.1 < 1 ∨ x.2.1 > 12 ∨ z < 0 then ([], 2, ()) else wrW (aeK x.2.1.toNat z.natAbs) | none => ([], 10, ()))
noncomputable def amV : Int × Unit → Option (List Int × Unit) := acD (fun x : Nat => ((x : Int), ())) (fun x => x ≤ 100000000) (fun x => (mag (10 ^ x), ()))
noncomputable def ak4 : List Int × Int × Unit → Option (List Int × Unit) := acD (fun x : Nat × Nat => (mag x.1, (x.2 : Int), ())) (fun x => Bd 2 x.1 ∧ x.2 ≤ 40) (fun x => (mag (x.1 ^ x.2), ()))
noncomputable def as8 : List Int × Int × Unit → Option (List Int × Unit) := acD (fun x : Nat × Nat => (mag x.1, (x.2 : Int), ())) (fun x => Bd 0 x.1 ∧ 1 ≤ x.2 ∧ x.2 ≤ 12) (fun x => (mag (aeK x.2 x.1), ()))
noncomputable def aRI : List UInt8 × Unit → Option (Int × Bool × Unit) := acD (fun z : Int => (dec z, ())) aa3 (fun z => (z, false, ()))
theorem aVV {z : Int} (h : aa3 z) : aRI (dec z, ()) = some (z, false, ()) := aaE (enc := fun z : Int => (dec z, ())) z h (fun b hb => akD (Prod.mk.inj hb).1)
open Classical in
noncomputable def aRH : List UInt8 × Int × Int × Unit → Option (Int × Bool × Unit) := acD (fun z : Int => (dec z, 10, 64, ())) (fun z => (dec z).length ≤ 1000000000) (fun z => if aa3 z then (z, false, ()) else (if z < 0 then -9223372036854775808 else 9223372036854775807, true, ()))
open Classical in
theorem aVT {z : Int} (h : (dec z).length ≤ 1000000000) : aRH (dec z, 10, 64, ()) = some (if aa3 z then (z, false, ()) else (if z < 0 then -9223372036854775808 else 9223372036854775807, true, ())) :=
 aaE (enc := fun z : Int => (dec z, (10 : Int), (64 : Int), ())) z h (fun b hb => akD (Prod.mk.inj hb).1)
theorem aUC (s : List UInt8) (a : Nat) : a ≤ aBn a s := by
 rw [aP1]
 have := Nat.le_mul_of_pos_right a (show 0 < 10 ^ s.length from xg zc)
 omega
theorem aBW : ∀ {s : List UInt8} {a : Nat}, isD s → a < 18446744073709551616 → Lib.parseUint10 a s = if aBn a s < 18446744073709551616 then .ok (aBn a s) else .range
 | [], a, _, ha => by
  rw [show aBn a [] = a from rfl, if_pos ha]
  rfl
 | c :: s, a, h, ha => by
  have hc := h c zi
  have hs : isD s := fun d hd => h d (by simp [hd])
  have hge := aUC s (a * 10 + dv c)
  rw [ahL]
  simp only [Lib.parseUint10]
  rw [if_pos hc]
  have hdv : dv c = c.toNat - 48 := rfl
  by_cases h1 : 1844674407370955162 ≤ a
  ·rw [if_pos h1, if_neg zc]
  ·rw [if_neg h1]
   by_cases h2 : 18446744073709551616 ≤ a * 10 + (c.toNat - 48)
   ·rw [if_pos h2, if_neg zc]
   ·rw [if_neg h2]
    exact aBW hs zc
theorem arZ (n : Nat) : Lib.parseMag (aa4 n) = if n < 18446744073709551616 then .ok n else .range := by
 unfold Lib.parseMag
 rw [if_neg (afO n), aBW (amI n) zc]
 have : aBn 0 (aa4 n) = n := apD n
 rw [this]
theorem aQ7 (n : Nat) : ∃ c r, aa4 n = c :: r ∧ 48 ≤ c.toNat ∧ c.toNat ≤ 57 := by
 cases h : aa4 n with
 | nil => exact absurd h (afO n)
 | cons c r => exact ⟨c, r, rfl, amI n c (by rw [h]; simp)⟩
open Classical in
theorem aE2 (z : Int) : Lib.atoiAll (dec z) = if aa3 z then .ok z else .range := by
 unfold dec
 by_cases hz : z < 0
 ·rw [if_pos hz]
  rw [Lib.atoiAll_minus, arZ]
  by_cases h1 : z.natAbs < 18446744073709551616
  ·rw [if_pos h1]
   simp only [Lib.signed]
   by_cases h2 : 9223372036854775808 < z.natAbs
   ·rw [if_pos h2, if_neg (fun h => by have := h.1; omega)]
   ·rw [if_neg h2, if_pos ⟨by omega, by omega⟩]
    congr 1
    omega
  ·rw [if_neg h1, if_neg (fun h => by have := h.1; omega)]
   rfl
 ·rw [if_neg hz]
  obtain ⟨c, r, e, c1, c2⟩ := aQ7 z.natAbs
  have hp := arZ z.natAbs
  rw [e] at hp ⊢
  rw [Lib.atoiAll_plain _ _ zc zc, hp]
  by_cases h1 : z.natAbs < 18446744073709551616
  ·rw [if_pos h1]
   simp only [Lib.signless]
   by_cases h2 : 9223372036854775808 ≤ z.natAbs
   ·rw [if_pos h2, if_neg (fun h => by have := h.2; omega)]
   ·rw [if_neg h2, if_pos ⟨by omega, by omega⟩]
    congr 1
    omega
  ·rw [if_neg h1, if_neg (fun h => by have := h.2; omega)]
   rfl
theorem aKe (z : Int) : Lib.atoiSat (dec z) = if z < 0 then -9223372036854775808 else 9223372036854775807 := by
 unfold dec Lib.atoiSat
 by_cases hz : z < 0
 ·rw [if_pos hz, if_pos hz]
  exact if_pos rfl
 ·rw [if_neg hz, if_neg hz]
  obtain ⟨c, r, e, c1, c2⟩ := aQ7 z.natAbs
  rw [e, if_neg]
  simp only [vo, wG, Option.some.injEq]
  omega
theorem aS5 (z : Int) : Lib.itoa z = dec z := by
 unfold Lib.itoa dec aa4
 by_cases hz : z < 0
 ·rw [if_pos hz, if_pos hz]
 ·rw [if_neg hz, if_neg hz]
  congr 1
  omega
theorem ayM (s : List UInt8) : ∀ n, Lib.repeatL s n = (List.replicate n s).flatten
 | 0 => rfl
 | n + 1 => by rw [Lib.repeatL, ayM s n, xq, List.flatten_cons]
end Go.Vs
namespace Go.Vg
abbrev TT.tt {α : Type} (x : TT α) : TT α := .triv (true = true) rfl x
abbrev TT.tr {α : Type} (x : TT α) : TT α := .triv True trivial x
abbrev TT.vW {α : Type} (p : Prop) (x : TT α) (h : p := by repeat' constructor) : TT α := .triv p h x
end Go.Vg
namespace Go.Vs
open Go Go.Vg
abbrev Qq {α : Sort _} (x : α) : Prop := x = x
theorem tv {p : Prop} (h : p := by repeat' constructor) : p := h
abbrev uf {α₁ : Sort _} (a : α₁) : Prop := Qq a ∧ True
abbrev ui {α₁ α₂ : Sort _} (a : α₁) (b : α₂) : Prop := Qq a ∧ Qq b ∧ True
abbrev vZ {α₁ α₂ α₃ : Sort _} (a : α₁) (b : α₂) (c : α₃) : Prop := Qq a ∧ Qq b ∧ Qq c ∧ True
abbrev vY {α₁ α₂ α₃ α₄ : Sort _} (a : α₁) (b : α₂) (c : α₃) (d : α₄) : Prop := Qq a ∧ Qq b ∧ Qq c ∧ Qq d ∧ True
abbrev um {α₁ α₂ α₃ α₄ α₅ : Sort _} (a : α₁) (b : α₂) (c : α₃) (d : α₄) (e : α₅) : Prop := Qq a ∧ Qq b ∧ Qq c ∧ Qq d ∧ Qq e ∧ True
abbrev un {α₁ α₂ α₃ α₄ α₅ α₆ α₇ : Sort _} (a : α₁) (b : α₂) (c : α₃) (d : α₄) (e : α₅) (f : α₆) (g : α₇) : Prop := Qq a ∧ Qq b ∧ Qq c ∧ Qq d ∧ Qq e ∧ Qq f ∧ Qq g ∧ True
abbrev ua {α₁ α₂ : Sort _} (a : α₁) (b : α₂) : Prop := Qq a ∧ Qq b
abbrev uk {α₁ α₂ α₃ : Sort _} (a : α₁) (b : α₂) (c : α₃) : Prop := Qq a ∧ Qq b ∧ Qq c
abbrev ub {α₁ α₂ α₃ α₄ : Sort _} (a : α₁) (b : α₂) (c : α₃) (d : α₄) : Prop := Qq a ∧ Qq b ∧ Qq c ∧ Qq d
abbrev vX {α₁ : Sort _} (a : α₁) (R : Prop) : Prop := Qq a ∧ R
abbrev ud {α₁ α₂ : Sort _} (a : α₁) (b : α₂) (R : Prop) : Prop := Qq a ∧ Qq b ∧ R
abbrev uh {α₁ α₂ α₃ : Sort _} (a : α₁) (b : α₂) (c : α₃) (R : Prop) : Prop := Qq a ∧ Qq b ∧ Qq c ∧ R
abbrev ue {α₁ α₂ α₃ α₄ : Sort _} (a : α₁) (b : α₂) (c : α₃) (d : α₄) (R : Prop) : Prop := Qq a ∧ Qq b ∧ Qq c ∧ Qq d ∧ R
abbrev uc {α₁ α₂ α₃ α₄ α₅ : Sort _} (a : α₁) (b : α₂) (c : α₃) (d : α₄) (e : α₅) (R : Prop) : Prop := Qq a ∧ Qq b ∧ Qq c ∧ Qq d ∧ Qq e ∧ R
abbrev ul {α₁ α₂ α₃ α₄ α₅ α₆ : Sort _} (a : α₁) (b : α₂) (c : α₃) (d : α₄) (e : α₅) (f : α₆) (R : Prop) : Prop := Qq a ∧ Qq b ∧ Qq c ∧ Qq d ∧ Qq e ∧ Qq f ∧ R
abbrev uj {α₁ α₂ α₃ α₄ α₅ α₆ α₇ : Sort _} (a : α₁) (b : α₂) (c : α₃) (d : α₄) (e : α₅) (f : α₆) (g : α₇) (R : Prop) : Prop := Qq a ∧ Qq b ∧ Qq c ∧ Qq d ∧ Qq e ∧ Qq f ∧ Qq g ∧ R
abbrev ug {α₁ α₂ α₃ α₄ α₅ α₆ α₇ α₈ : Sort _} (a : α₁) (b : α₂) (c : α₃) (d : α₄) (e : α₅) (f : α₆) (g : α₇) (h : α₈) (R : Prop) : Prop := Qq a ∧ Qq b ∧ Qq c ∧ Qq d ∧ Qq e ∧ Qq f ∧ Qq g ∧ Qq h ∧ R
abbrev vV (a R : Prop) : Prop := a ∧ Qq true ∧ R
abbrev ux : Prop := uk 0 0 true
abbrev uz : Prop := vZ 53 (0 : Int) (0 : Int)
abbrev uD : Prop := uk 1 0 true
abbrev uJ : Prop := ud 83 false <| True ∧ True
abbrev uK : Prop := uk 2 0 true
abbrev uM : Prop := uk 3 0 true
abbrev uU : Prop := ud 42 (3 : Int) <| True ∧ (ub 11 0 1 true) ∧ True
abbrev th : Prop := uM ∧ uD ∧ ux ∧ True
abbrev tk : Prop := uk 4 0 true
abbrev tA : Prop := ud 42 (2 : Int) <| True ∧ True ∧ True
abbrev tK : Prop := ub 4 0 1 true
abbrev tP : Prop := ua 11 true
abbrev tQ : Prop := uk 7 0 true
abbrev tT : Prop := ui 48 (0 : Int)
abbrev tU : Prop := vV (vX 212 <| True ∧ uf false) True
abbrev tY : Prop := uk 20 0 true
abbrev sf : Prop := uk 15 0 true
abbrev si : Prop := (uk 10 0 true) ∧ (vX (0 : Int) <| uK ∧ ux ∧ True)
abbrev sy : Prop := ub 5 0 1 true
abbrev sB : Prop := vV uJ True
abbrev sE : Prop := vX 169 <| True ∧ True
abbrev sF : Prop := sf ∧ (tk ∧ (vX (0 : Int) <| uK ∧ True))
abbrev Dd0 := Ty.dflt sj
abbrev Dd1 := Ty.dflt te
abbrev Dd2 := Ty.dflt (Ty.pair Ty.str Ty.unit)
abbrev Dd3 := Ty.dflt (Ty.pair uX Ty.unit)
abbrev Dd4 := Ty.dflt (Ty.pair tj sj)
abbrev Dd5 := Ty.dflt (Ty.pair sa Ty.unit)
abbrev Dd6 := Ty.dflt uW
abbrev Dd7 := Ty.dflt (Ty.pair Ty.str te)
abbrev Dd8 := Ty.dflt (Ty.pair (Ty.pair sa sj) Ty.unit)
abbrev Dd9 := Ty.dflt (Ty.pair sa te)
abbrev aWs := Ty.dflt (Ty.pair sa (Ty.pair sa uW))
abbrev aKm := Ty.dflt (Ty.pair Ty.str uW)
abbrev aWh := Ty.dflt (Ty.pair tj (Ty.pair uy Ty.unit))
abbrev aLB := Ty.dflt (Ty.pair (Ty.pair sa sj) te)
abbrev adZ := Ty.dflt (Ty.pair tw uW)
abbrev aDr := Ty.dflt sb
abbrev am9 := Ty.dflt (Ty.pair sb uW)
abbrev aWr := Ty.dflt (Ty.pair Ty.str (Ty.pair Ty.bool uW))
abbrev aWy := Ty.dflt (Ty.pair Ty.str (Ty.pair Ty.str uW))
abbrev ac5 := Ty.dflt (Ty.pair tw Ty.unit)
abbrev aH3 := Ty.dflt (Ty.pair tV Ty.unit)
abbrev ah8 := Ty.dflt (Ty.pair tg Ty.unit)
abbrev aWx := Ty.dflt (Ty.pair tV uW)
abbrev aWq := Ty.dflt (Ty.pair tV (Ty.pair tV Ty.unit))
abbrev aVW := Ty.dflt (Ty.pair tg (Ty.pair tg Ty.unit))
abbrev ai9 := Ty.dflt (Ty.pair (Ty.pair tg (Ty.pair tg Ty.unit)) Ty.unit)
abbrev aOd := Ty.dflt (Ty.pair sb Ty.unit)
abbrev aOc := Ty.dflt (Ty.pair sx Ty.unit)
abbrev aWp := Ty.dflt (Ty.pair uq te)
abbrev aWw := Ty.dflt (Ty.pair (Ty.arr 3 sx) Ty.unit)
theorem aTR {q : Rat} {n : Int} {D : Nat} (nz : D ≠ 0) (c : n.natAbs.Coprime D) (h : q = mkRat n D) : q.num = n ∧ q.den = D := by
 rw [h, ← Rat.mk_eq_mkRat n D nz c]; exact ⟨rfl, rfl⟩
theorem aNA {a b : Nat} (h : ∀ k, k ∣ a → k ∣ b → k = 1) : a.Coprime b := h _ (xP a b) (xM a b)
theorem aRa {n1 n2 : Int} {b' d' b : Nat} (h1 : n1.natAbs.Coprime b) (hb : b' ∣ b) (h3 : b'.Coprime d') : (n1 * d' + n2 * b').natAbs.Coprime b' := by
 refine aNA fun k hk hkb => ?_
 have e1 : (k : Int) ∣ n1 * d' + n2 * b' := xS.2 hk
 have e2 : (k : Int) ∣ n2 * b' := Int.dvd_trans (Int.natCast_dvd_natCast.2 hkb) (Int.dvd_mul_left _ _)
 have e3 : (k : Int) ∣ n1 * d' := by
  have := Int.dvd_sub e1 e2
  rwa [Int.add_sub_cancel] at this
 have e4 : k ∣ n1.natAbs * d' := by
  have := xS.1 e3
  rwa [yF] at this
 have e5 : k.Coprime d' := Nat.Coprime.coprime_dvd_left hkb h3
 have e6 := Nat.Coprime.dvd_of_dvd_mul_right e5 e4
 exact Nat.Coprime.eq_one_of_dvd (Nat.Coprime.coprime_dvd_left e6 h1) (Nat.dvd_trans hkb hb)
theorem aHG (p q : Rat) : ∃ g h : Nat, ∃ top t : Int, g = Nat.gcd p.den q.den ∧ top = p.num * (q.den / g : Nat) + q.num * (p.den / g : Nat) ∧ h = Nat.gcd top.natAbs g ∧ g ≠ 0 ∧ h ≠ 0 ∧ top = h * t ∧ (p + q).num = t ∧ (p + q).den = (p.den / g) * (q.den / h) := by
 obtain ⟨g, hg⟩ : ∃ g, g = Nat.gcd p.den q.den := ⟨_, rfl⟩
 have g0 : 0 < g := by rw [hg]; exact Nat.gcd_pos_of_pos_left _ p.den_pos
 obtain ⟨b', hb⟩ : g ∣ p.den := hg ▸ xP _ _
 obtain ⟨d', hd⟩ : g ∣ q.den := hg ▸ xM _ _
 have hb' : p.den / g = b' := by rw [hb, yq _ g0]
 have hd' : q.den / g = d' := by rw [hd, yq _ g0]
 have hbd : b'.Coprime d' := by
  have := xT (m := p.den) (n := q.den) (by rw [← hg]; exact g0)
  rwa [← hg, hb', hd'] at this
 obtain ⟨top, ht⟩ : ∃ top : Int, top = p.num * (q.den / g : Nat) + q.num * (p.den / g : Nat) := ⟨_, rfl⟩
 obtain ⟨h, hh⟩ : ∃ h, h = Nat.gcd top.natAbs g := ⟨_, rfl⟩
 have h0 : 0 < h := by rw [hh]; exact wC _ g0
 obtain ⟨t, htt⟩ : (h : Int) ∣ top := xS.2 (hh ▸ xP _ _)
 obtain ⟨g', hg'⟩ : h ∣ g := hh ▸ xM _ _
 have c1 : top.natAbs.Coprime b' := by rw [ht, hb', hd']; exact aRa p.reduced ⟨g, by rw [hb, yN]⟩ hbd
 have c2 : top.natAbs.Coprime d' := by rw [ht, hb', hd', Int.add_comm]; exact aRa q.reduced ⟨g, by rw [hd, yN]⟩ hbd.symm
 have c3 : t.natAbs.Coprime g' := by
  have := xT (m := top.natAbs) (n := g) (by rw [← hh]; exact h0)
  rw [← hh, htt, yF, zK, yq _ h0] at this
  conv at this => rhs; rw [hg']
  rwa [yq _ h0] at this
 have ct : t.natAbs ∣ top.natAbs := by rw [htt, yF]; exact Nat.dvd_mul_left _ _
 have e : q.den / h = g' * d' := by rw [hd, hg', wF, yq _ h0]
 have hc : t.natAbs.Coprime (b' * (g' * d')) := Nat.Coprime.mul_right (Nat.Coprime.coprime_dvd_left ct c1) (Nat.Coprime.mul_right c3 (Nat.Coprime.coprime_dvd_left ct c2))
 have nb : b' ≠ 0 := by rintro rfl; exact p.den_nz (by rw [hb]; simp)
 have nd : d' ≠ 0 := by rintro rfl; exact q.den_nz (by rw [hd]; simp)
 have ng : g' ≠ 0 := by rintro rfl; simp at hg'; omega
 have nz : b' * (g' * d') ≠ 0 := xp nb (xp ng nd)
 have hv : p + q = mkRat t (b' * (g' * d')) := by
  rw [Rat.add_def', yd (xp p.den_nz q.den_nz) nz, hb, hd]
  rw [hb', hd', htt] at ht
  simp only [yg]
  have hgz : (g : Int) = h * g' := by rw [hg']; simp
  have e1 : (p.num * ((g : Int) * d') + q.num * ((g : Int) * b')) = (g : Int) * (h * t) := by rw [ht]; grind
  rw [e1, hgz]
  grind
 obtain ⟨r1, r2⟩ := aTR nz hc hv
 exact ⟨g, h, top, t, hg, ht, hh, by omega, by omega, htt, r1, by rw [r2, hb', e]⟩
theorem aGJ (p q : Rat) : ∃ g h : Nat, ∃ s t : Int, g = Nat.gcd p.num.natAbs q.den ∧ h = Nat.gcd q.num.natAbs p.den ∧ g ≠ 0 ∧ h ≠ 0 ∧ p.num = g * s ∧ q.num = h * t ∧ (p * q).num = s * t ∧ (p * q).den = (p.den / h) * (q.den / g) := by
 obtain ⟨g, hg⟩ : ∃ g, g = Nat.gcd p.num.natAbs q.den := ⟨_, rfl⟩
 obtain ⟨h, hh⟩ : ∃ h, h = Nat.gcd q.num.natAbs p.den := ⟨_, rfl⟩
 have g0 : 0 < g := by rw [hg]; exact wC _ q.den_pos
 have h0 : 0 < h := by rw [hh]; exact wC _ p.den_pos
 obtain ⟨s, hs⟩ : (g : Int) ∣ p.num := xS.2 (hg ▸ xP _ _)
 obtain ⟨t, ht⟩ : (h : Int) ∣ q.num := xS.2 (hh ▸ xP _ _)
 obtain ⟨d', hd⟩ : g ∣ q.den := hg ▸ xM _ _
 obtain ⟨b', hb⟩ : h ∣ p.den := hh ▸ xM _ _
 have hb' : p.den / h = b' := by rw [hb, yq _ h0]
 have hd' : q.den / g = d' := by rw [hd, yq _ g0]
 have as1 : p.num.natAbs / g = s.natAbs := by rw [hs, yF, zK, yq _ g0]
 have at' : q.num.natAbs / h = t.natAbs := by rw [ht, yF, zK, yq _ h0]
 have ds : s.natAbs ∣ p.num.natAbs := by rw [hs, yF]; exact Nat.dvd_mul_left _ _
 have dt : t.natAbs ∣ q.num.natAbs := by rw [ht, yF]; exact Nat.dvd_mul_left _ _
 have db : b' ∣ p.den := ⟨h, by rw [hb, yN]⟩
 have dd : d' ∣ q.den := ⟨g, by rw [hd, yN]⟩
 have c1 : s.natAbs.Coprime b' := Nat.Coprime.coprime_dvd_left ds (Nat.Coprime.coprime_dvd_right db p.reduced)
 have c2 : s.natAbs.Coprime d' := by
  have := xT (m := p.num.natAbs) (n := q.den) (by rw [← hg]; exact g0)
  rwa [← hg, as1, hd'] at this
 have c3 : t.natAbs.Coprime d' := Nat.Coprime.coprime_dvd_left dt (Nat.Coprime.coprime_dvd_right dd q.reduced)
 have c4 : t.natAbs.Coprime b' := by
  have := xT (m := q.num.natAbs) (n := p.den) (by rw [← hh]; exact h0)
  rwa [← hh, at', hb'] at this
 have hc : (s * t).natAbs.Coprime (b' * d') := by
  rw [yF]
  exact Nat.Coprime.mul_left (Nat.Coprime.mul_right c1 c2) (Nat.Coprime.mul_right c4 c3)
 have nb : b' ≠ 0 := by rintro rfl; exact p.den_nz (by rw [hb]; simp)
 have nd : d' ≠ 0 := by rintro rfl; exact q.den_nz (by rw [hd]; simp)
 have nz : b' * d' ≠ 0 := xp nb nd
 have hv : p * q = mkRat (s * t) (b' * d') := by
  rw [Rat.mul_def', yd (xp p.den_nz q.den_nz) nz, hs, ht]
  conv => lhs; rw [yg]
  rw [hb, hd]
  simp only [yg]
  grind
 obtain ⟨r1, r2⟩ := aTR nz hc hv
 exact ⟨g, h, s, t, hg, hh, by omega, by omega, hs, ht, r1, by rw [r2, hb', hd']⟩
theorem aeH (n : Int) {d : Nat} (hd : d ≠ 0) : ∃ g : Nat, ∃ t : Int, g = Nat.gcd n.natAbs d ∧ g ≠ 0 ∧ n = g * t ∧ (mkRat n d).num = t ∧ (mkRat n d).den = d / g := by
 obtain ⟨g, hg⟩ : ∃ g, g = Nat.gcd n.natAbs d := ⟨_, rfl⟩
 have g0 : 0 < g := by rw [hg]; exact wC _ zc
 obtain ⟨t, ht⟩ : (g : Int) ∣ n := xS.2 (hg ▸ xP _ _)
 refine ⟨g, t, hg, by omega, ht, ?_, ?_⟩
 ·rw [Rat.num_mkRat, if_neg hd, xI, ← hg, ht, Int.mul_ediv_cancel_left _ zc]
 ·rw [Rat.den_mkRat, if_neg hd, xI, ← hg]
theorem asN (n : Int) {d : Nat} (hd : d ≠ 0) : fl (mkRat n d) = n / d := by
 obtain ⟨g, t, hg, g0, hn, h1, h2⟩ := aeH n hd
 obtain ⟨d', hd'⟩ : g ∣ d := hg ▸ xM _ _
 have : d / g = d' := by rw [hd', yq _ zc]
 unfold fl
 rw [h1, h2, this, hn, hd', yg, Int.mul_ediv_mul_of_pos _ _ zc]
theorem aP7 (q : Rat) (s : Nat) : asC q s = (q.num * (s * 2 : Nat) + q.den) / (q.den * 2 : Nat) := by
 unfold asC
 have h1 : (s : Rat) = mkRat s 1 := by
  have := Rat.mkRat_self (s : Rat)
  rw [Rat.num_natCast, Rat.den_natCast] at this
  exact this.symm
 have h2 : q * (s : Rat) + mkRat 1 2 = mkRat (q.num * (s * 2 : Nat) + q.den) (q.den * 2) := by
  conv => lhs; rw [h1, ← Rat.mkRat_self q]
  rw [yO, xN _ _ (by have := q.den_nz; omega) zc, xE, Int.one_mul]
  congr 1
  simp only [yg]
  grind
 rw [h2, asN _ (xp q.den_nz zc)]
theorem aPv (p q : Rat) : axD p q = (p.num * q.den + -(q.num * p.den)).sign := by
 unfold axD
 simp only [Rat.lt_iff, Rat.eq_iff_mul_eq_mul]
 split
 ·rename_i h; exact (yH zc).symm
 ·split
  ·rename_i h; rw [h, Int.add_right_neg]; rfl
  ·exact (xh zc).symm
theorem aTQ (a b : List UInt8) : rdF (a, b, ()) = match rdW a, rdW b with
  | some n, some d => if h : 0 < d ∧ n.natAbs.Coprime d.natAbs then some ⟨n, d.natAbs, by omega, h.2⟩ else none
  | _, _ => none := by
 cases ha : rdW a with
 | none =>
  refine aDO fun q hq he => ?_
  obtain ⟨h1, -⟩ := Prod.mk.inj he
  rw [← h1, anL hq.1] at ha
  cases ha
 | some n =>
  obtain ⟨fa, rfl⟩ := afI ha
  cases hb : rdW b with
  | none =>
   refine aDO fun q hq he => ?_
   obtain ⟨-, h1⟩ := Prod.mk.inj he
   obtain ⟨h1, -⟩ := Prod.mk.inj h1
   rw [← h1, ← ae7, anL hq.2] at hb
   cases hb
  | some d =>
   obtain ⟨fb, rfl⟩ := afI hb
   simp only
   split
   ·rename_i h
    have e : (dec n, dec d, ()) = fx ⟨n, d.natAbs, by omega, h.2⟩ := by
     unfold fx
     rw [ab3 (z := d) zc]
    rw [e, ae3 ⟨fa, ?_⟩]
    unfold Fit at *
    simpa using fb
   ·rename_i h
    refine aDO fun q hq he => h ?_
    obtain ⟨h1, h2⟩ := Prod.mk.inj he
    obtain ⟨h2, -⟩ := Prod.mk.inj h2
    have e1 := akD h1
    have e2 : (q.den : Int) = d := akD (by rw [ae7]; exact h2)
    rw [← e1, ← e2]
    exact ⟨by have := q.den_pos; omega, q.reduced⟩
abbrev BdT := Int × Int × Unit
def okB (lo hi : Int) : Prop := -1000000000000000000 ≤ lo ∧ lo ≤ hi ∧ hi ≤ 1000000000000000000
instance (lo hi : Int) : Decidable (okB lo hi) := inferInstanceAs (Decidable (_ ∧ _))
def mkB (e lo hi : Int) : BdT × Int × Unit := if okB lo hi then ((lo, hi, ()), 0, ()) else ((0, 0, ()), e, ())
def aeQ (x : Int × Int × Unit) : Option (Bool × Unit) := some (decide (okB x.1 x.2.1), ())
def aj3 (x : Int × Int × Unit) : Option (BdT × Int × Unit) := some (mkB 6 x.1 x.2.1)
def atT (x : BdT × Unit) : Option (Int × Unit) := some (if okB x.1.1 x.1.2.1 then 0 else 30, ())
def aLt (x : Int × Int × Unit) : Option (BdT × Int × Unit) := some (mkB 30 x.1 x.2.1)
def aA2 (x : List Int × Unit) : Option (Int × Unit) := match x.1 with | [] => none | a :: l => if l.length ≤ 1000000000000 then some (l.foldl (fun m y => if y < m then y else m) a, ()) else none
def aA3 (x : List Int × Unit) : Option (Int × Unit) := match x.1 with | [] => none | a :: l => if l.length ≤ 1000000000000 then some (l.foldl (fun m y => if y > m then y else m) a, ()) else none
def aA5 (x : List Int × Unit) : Option (Int × Unit) := aA2 x
def aoU (x : List Int × Unit) : Option (Int × Unit) := aA3 x
def adJ : Rat := (1000000000000 : Nat)
def aeV (p q : Rat) : BdT × Int × Unit := mkB 6 (fl (p * adJ)) (-fl (-(q * adJ)))
noncomputable def ad2 (x : FxT × Unit) : Option (BdT × Int × Unit) := some (match rdF x.1 with | some q => aeV q q | none => ((0, 0, ()), 20, ()))
def aKh (a b : BdT) : BdT × Int × Unit := if okB a.1 a.2.1 ∧ okB b.1 b.2.1 then mkB 6 (a.1 + b.1) (a.2.1 + b.2.1) else ((0, 0, ()), 30, ())
def aUL (a b : BdT) : BdT × Int × Unit := if okB a.1 a.2.1 ∧ okB b.1 b.2.1 then ((min a.1 b.1, max a.2.1 b.2.1, ()), 0, ()) else ((0, 0, ()), 30, ())
def aC5 (b : BdT) (lo hi : Int) : BdT × Int × Unit := if okB b.1 b.2.1 then (if okB lo hi then ((min (max b.1 lo) hi, min (max b.2.1 lo) hi, ()), 0, ()) else ((0, 0, ()), 2, ())) else ((0, 0, ()), 30, ())
def aKi (x : BdT × BdT × Unit) : Option (BdT × Int × Unit) := some (aKh x.1 x.2.1)
def atS (x : BdT × BdT × Unit) : Option (BdT × Int × Unit) := some (aUL x.1 x.2.1)
def alP (x : BdT × Int × Int × Unit) : Option (BdT × Int × Unit) := some (aC5 x.1 x.2.1 x.2.2.1)
noncomputable def ai5 : Int × Unit → Option (List UInt8 × Unit) := acD (fun n : Nat => ((n : Int), ())) (fun n => n ≤ 1000) (fun n => (aa4 (10 ^ n), ()))
noncomputable def atK : List UInt8 × Int × Unit → Option (List UInt8 × Bool × Int × Unit) := acD (fun x : Nat × Nat => (aa4 x.1, (x.2 : Int), ())) (fun x => Fit x.1 ∧ 1 ≤ x.2 ∧ x.2 ≤ 12) (fun x => (aa4 (aeK x.2 x.1), decide (aeK x.2 x.1 ^ x.2 = x.1), 0, ()))
noncomputable def ac2 : List UInt8 × Bool × Unit → Option (Int × Int × Unit) := acD (fun x : Nat × Bool => (aa4 x.1, x.2, ())) (fun x => Fit x.1) (fun x => if x.1 > 1000000000000000000 then (0, 6, ()) else ((x.1 : Int) + (if x.2 then 1 else 0), 0, ()))
def okE (p q : Int) : Prop := 1 ≤ p ∧ p ≤ 36 ∧ 1 ≤ q ∧ q ≤ 12
instance (p q : Int) : Decidable (okE p q) := inferInstanceAs (Decidable (_ ∧ _))
def av3 (x : (Int × Int × Unit) × Unit) : Option (Bool × Unit) := some (decide (okE x.1.1 x.1.2.1), ())
noncomputable def arA (p q n : Nat) : Nat := aeK q (n ^ p * 10 ^ (12 * q) / 10 ^ (12 * p))
noncomputable def at6 (p q n : Nat) (up : Bool) : Int × Int × Unit :=
 if arA p q n > 1000000000000000000 then (0, 6, ()) else ((arA p q n : Int) + (if up = true ∧ arA p q n ^ q * 10 ^ (12 * p) ≠ n ^ p * 10 ^ (12 * q) then 1 else 0), 0, ())
noncomputable def atJ : ((Int × Int × Unit) × Unit) × Int × Bool × Unit → Option (Int × Int × Unit) := acD (fun x : (Nat × Nat) × Nat × Bool => ((((x.1.1 : Int), (x.1.2 : Int), ()), ()), (x.2.1 : Int), x.2.2, ())) (fun x => okE x.1.1 x.1.2 ∧ x.2.1 ≤ 1000000000000000000) (fun x => at6 x.1.1 x.1.2 x.2.1 x.2.2)
noncomputable def aH2 (b : BdT) (p q : Int) : BdT × Int × Unit :=
 if okB b.1 b.2.1 then
  if okE p q ∧ 0 ≤ b.1 then
   (if (at6 p.toNat q.toNat b.1.toNat false).2.1 ≠ 0 then ((0, 0, ()), 6, ()) else if (at6 p.toNat q.toNat b.2.1.toNat true).2.1 ≠ 0 then ((0, 0, ()), 6, ())
    else mkB 6 (at6 p.toNat q.toNat b.1.toNat false).1 (at6 p.toNat q.toNat b.2.1.toNat true).1)
  else ((0, 0, ()), 2, ())
 else ((0, 0, ()), 30, ())
noncomputable def aA4 (x : BdT × Int × Int × Unit) : Option (BdT × Int × Unit) := some (aH2 x.1 x.2.1 x.2.2.1)
abbrev adI := Int × Int × Int × Int × Int × Int × Unit
abbrev CvT := Int × List Int × List adI × Unit
abbrev PcT := adI × Int × Bool × Unit
def inR (n a b : Int) : Prop := a ≤ n ∧ n ≤ b
instance (n a b : Int) : Decidable (inR n a b) := inferInstanceAs (Decidable (_ ∧ _))
def adL (s : adI) : Prop := inR s.2.1 (-100000000) 100000000 ∧ inR s.2.2.1 (-100000000) 100000000 ∧ inR s.2.2.2.2.2.1 (-100000000) 100000000 ∧ inR s.2.2.2.1 1 36 ∧ inR s.2.2.2.2.1 1 12 ∧ Nat.gcd s.2.2.2.1.natAbs s.2.2.2.2.1.natAbs = 1
instance (s : adI) : Decidable (adL s) := inferInstanceAs (Decidable (_ ∧ _))
def akL (last : Int) (s : adI) : Prop := adL s ∧ inR s.1 (last + 1) 1000000
instance (last : Int) (s : adI) : Decidable (akL last s) := inferInstanceAs (Decidable (_ ∧ _))
def ahJ : Int → List adI → Prop
 | last, [] => last = 1000000
 | last, s :: r => akL last s ∧ ahJ s.1 r
def aOH : (last : Int) → (l : List adI) → Decidable (ahJ last l)
 | last, [] => inferInstanceAs (Decidable (last = 1000000))
 | last, s :: r => @instDecidableAnd _ _ (inferInstanceAs (Decidable (akL last s))) (aOH s.1 r)
instance (last : Int) (l : List adI) : Decidable (ahJ last l) := aOH last l
def adM (l : List Int) : Prop := 2 ≤ l.length ∧ l.length ≤ 17 ∧ ∀ v ∈ l, inR v 0 65535
instance (l : List Int) : Decidable (adM l) := inferInstanceAs (Decidable (_ ∧ _ ∧ _))
def acA (l : List adI) : Prop := 1 ≤ l.length ∧ l.length ≤ 4 ∧ ahJ 0 l
instance (l : List adI) : Decidable (acA l) := inferInstanceAs (Decidable (_ ∧ _ ∧ _))
def abJ (c : CvT) : Prop := (c.1 = 1 ∧ c.2.1 = [] ∧ c.2.2.1 = []) ∨ (c.1 = 2 ∧ adM c.2.1 ∧ c.2.2.1 = []) ∨ (c.1 = 3 ∧ c.2.1 = [] ∧ acA c.2.2.1)
instance (c : CvT) : Decidable (abJ c) := inferInstanceAs (Decidable (_ ∨ _ ∨ _))
noncomputable def eqb {α : Type} (a b : α) : Bool := open Classical in if a = b then true else false
theorem aLf {α : Type} {a b : α} (h : a = b) : eqb a b = true := if_pos h
theorem aAn {α : Type} {a b : α} (h : ¬ a = b) : eqb a b = false := if_neg h
def acV (x : Int × Int × Int × Unit) : Option (Bool × Unit) := some (decide (inR x.1 x.2.1 x.2.2.1), ())
def ab4 (x : Int × Int × Unit) : Option (FxT × Unit) := if aa3 x.1 ∧ aa3 x.2.1 then some ((ofQ x.1 x.2.1).1, ()) else none
def aaJ (x : Int × Unit) : Option (FxT × Unit) := if aa3 x.1 then some (fx (mkRat x.1 1), ()) else none
def afF (q : Rat) : Rat := if q < 0 then 0 else if q > 1 then 1 else q
noncomputable def acC : FxT × Unit → Option (FxT × Unit) := acD (fun q : Rat => (fx q, ())) (fun q => acB q) (fun q => (fx (afF q), ()))
def akI (x : List Int × Unit) : Option (Bool × Unit) := some (decide (adM x.1), ())
def ag4 (x : PcT × Unit) : Option (Bool × Unit) := if inR x.1.2.1 0 1000000 then some (decide (akL x.1.2.1 x.1.1), ()) else none
def ag7 (x : CvT × Unit) : Option (Bool × Unit) := some (decide (acA x.1.2.2.1), ())
def ahV (x : CvT × Unit) : Option (Int × Unit) := some (if abJ x.1 then 0 else 90, ())
def aVG (c : CvT) : Prop := abJ c ∧ ∀ s ∈ c.2.2.1, s.2.2.2.2.1 = 1
instance (c : CvT) : Decidable (aVG c) := inferInstanceAs (Decidable (_ ∧ _))
def aUh (l : List Int) : Bool := (List.range (l.length - 1)).any (fun i => decide (l.getD (i + 1) 0 > l.getD i 0))
def aUQ (l : List Int) : Bool := (List.range (l.length - 1)).any (fun i => decide (l.getD (i + 1) 0 < l.getD i 0))
def aOv (c : CvT) : Int :=
 if c.1 = 3 then (if c.2.2.1.length > 1 then 0 else if (c.2.2.1.getD 0 (0, 0, 0, 0, 0, 0, ())).2.1 < 0 then -1 else 1)
 else if !aUQ c.2.1 then 1 else if !aUh c.2.1 then -1 else 0
def aoT (x : CvT × Unit) : Option (Int × Int × Unit) := some (if abJ x.1 then (aOv x.1, 0, ()) else (0, 90, ()))
def dig (n : Nat) : List Int := axI 10000 n
theorem adU (n : Nat) : Dg 10000 (dig n) := aJS (B := 10000) zc n
theorem aLi (n : Nat) : Cn (dig n) := aQ2 (B := 10000) zc n
theorem ah3 (n : Nat) : V 10000 (dig n) = n := aHJ (B := 10000) zc n
theorem aAr {m n : Nat} (h : dig m = dig n) : m = n := aLh (B := 10000) zc h
theorem aEJ {l : List Int} {n : Nat} (h1 : Dg 10000 l) (h2 : Cn l) (h3 : V 10000 l = n) : l = dig n := aAq (B := 10000) zc h1 h2 h3
theorem dig_length_le_iff {n k : Nat} : (dig n).length ≤ k ↔ n < 10000 ^ k := by
 constructor
 ·intro h
  have h1 := az3 (B := 10000) zc n
  exact yn h1 (zY zc h)
 ·intro h
  exact ahD zc h
theorem acK {m n : Nat} (h : m ≤ n) : (dig m).length ≤ (dig n).length := by
 rw [dig_length_le_iff]
 exact Nat.lt_of_le_of_lt h (dig_length_le_iff.1 (zq _))
theorem dig_zero : dig 0 = [] := adT _
theorem dig_nil_iff {n : Nat} : dig n = [] ↔ n = 0 := by
 constructor
 ·intro h
  exact aAr (h.trans dig_zero.symm)
 ·rintro rfl; exact dig_zero
theorem aQ3 {d : Nat} (h0 : d ≠ 0) (h1 : d < 10000) : dig d = [(d : Int)] := aC0 zc h0 h1
theorem aqD {m n : Nat} (h : (dig m).length < (dig n).length) : m < n := by
 rcases zr m n with h2 | h2
 ·exact h2
 ·have := acK h2; omega
theorem aC2 {n k : Nat} (h : (mag n).length ≤ k) : (dig n).length ≤ 3 * k := by
 rw [mag_length_le_iff] at h
 rw [dig_length_le_iff, xG]
 exact yn h (xr zc _)
theorem aAQ {k n : Nat} (h : Bd k n) (hk : k ≤ 8) : (dig n).length ≤ 200000000000 := by
 have h1 : Bd 8 n := aaF h hk
 have h2 := aC2 (k := 1000000 * 4 ^ 8) h1
 omega
@[reducible] def pl (z : Int) : Bool × List Int × Unit := (decide (z < 0), dig z.natAbs, ())
theorem arY {a b : Int} (h : pl a = pl b) : a = b := by
 obtain ⟨h1, h2⟩ := Prod.mk.inj h
 obtain ⟨h2, -⟩ := Prod.mk.inj h2
 have := aAr h2
 simp only [decide_eq_decide] at h1
 omega
abbrev PlT := Bool × List Int × Unit
abbrev RaT := PlT × PlT × Unit
@[reducible] def ra (q : Rat) : RaT := (pl q.num, pl q.den, ())
theorem awF {a b : Rat} (h : ra a = ra b) : a = b := by
 obtain ⟨h1, h2⟩ := Prod.mk.inj h
 obtain ⟨h2, -⟩ := Prod.mk.inj h2
 have := arY h2
 exact Rat.ext (arY h1) zc
def aR6 (a b : List Int) : Nat → Int
 | 0 => 0
 | k + 1 => if a.getD k 0 ≠ b.getD k 0 then a.getD k 0 - b.getD k 0 else aR6 a b k
def aTS (a b : List Int) : Int := if a.length ≠ b.length then (a.length : Int) - b.length else aR6 a b a.length
open Classical in
noncomputable def ac3 (x : List Int × Unit) : Option (List Int × Unit) := if Dg 10000 x.1 ∧ x.1.length ≤ 1000000000000 then some (dig (V 10000 x.1).toNat, ()) else none
open Classical in
noncomputable def abP (x : Bool × List Int × Unit) : Option (PlT × Unit) := if Dg 10000 x.2.1 ∧ x.2.1.length ≤ 1000000000000 then some ((x.1 && decide (V 10000 x.2.1 ≠ 0), dig (V 10000 x.2.1).toNat, ()), ()) else none
noncomputable def ag2 (x : List UInt8 × Unit) : Option (Bool × Unit) := if x.1.length ≤ 1000000000000 then some ((rdW x.1).isSome, ()) else none
noncomputable def arK : List UInt8 × Unit → Option (PlT × Unit) := acD (fun z : Int => (dec z, ())) (fun z => Fit z) (fun z => (pl z, ()))
noncomputable def abR (x : Int × Unit) : Option (PlT × Unit) := if aa3 x.1 then some (pl x.1, ()) else none
def aBF (n : Nat) : List UInt8 := [UInt8.ofNat (48 + n / 1000), UInt8.ofNat (48 + n / 100 % 10), UInt8.ofNat (48 + n / 10 % 10), UInt8.ofNat (48 + n % 10)]
noncomputable def atH : Int × Unit → Option (List UInt8 × Unit) := acD (fun n : Nat => ((n : Int), ())) (fun n => n < 10000) (fun n => (aBF n, ()))
noncomputable def aoQ : PlT × Unit → Option (List UInt8 × Unit) := acD (fun z : Int => (pl z, ())) (fun z => Bd 6 z.natAbs) (fun z => (dec z, ()))
noncomputable def atI : PlT × Unit → Option (List UInt8 × Int × Unit) := acD (fun z : Int => (pl z, ())) (fun z => Bd 6 z.natAbs) (fun z => wrW z)
noncomputable def ag1 (x : List Int × List Int × Unit) : Option (Int × Unit) := open Classical in if Dg 10000 x.1 ∧ Dg 10000 x.2.1 ∧ x.1.length ≤ 1000000000000 ∧ x.2.1.length ≤ 1000000000000 then some (aTS x.1 x.2.1, ()) else none
noncomputable def ax2 : List Int × List Int × Unit → Option (List Int × Unit) := acD (fun p : Nat × Nat => (dig p.1, dig p.2, ())) (fun p => (dig p.1).length ≤ 1000000000000 ∧ (dig p.2).length ≤ 1000000000000) (fun p => (dig (p.1 + p.2), ()))
open Classical in
noncomputable def abF (x : List Int × List Int × Unit) : Option (List Int × Unit) := if Dg 10000 x.1 ∧ Dg 10000 x.2.1 ∧ x.1.length ≤ 1000000000000 ∧ x.2.1.length ≤ x.1.length ∧ V 10000 x.2.1 ≤ V 10000 x.1 then some (dig (V 10000 x.1 - V 10000 x.2.1).toNat, ()) else none
open Classical in
noncomputable def ab2 (x : List Int × List Int × Unit) : Option (List Int × Unit) := if Dg 10000 x.1 ∧ (Dg 10000 x.2.1 ∨ x.2.1 = [10000]) ∧ x.1.length ≤ 400000000000 ∧ x.2.1.length ≤ 400000000000 then some (dig (V 10000 x.1 * V 10000 x.2.1).toNat, ()) else none
noncomputable def atG : List Int × Int × Unit → Option (List Int × Int × Unit) := acD (fun p : Nat × Nat => (dig p.1, (p.2 : Int), ())) (fun p => (dig p.1).length ≤ 1000000000000 ∧ 0 < p.2 ∧ p.2 < 10000) (fun p => (dig (p.1 / p.2), ((p.1 % p.2 : Nat) : Int), ()))
noncomputable def alD : List Int × List Int × Unit → Option (List Int × List Int × Unit) := acD (fun p : Nat × Nat => (dig p.1, dig p.2, ())) (fun p => (dig p.1).length ≤ 200000000000 ∧ (dig p.2).length ≤ 200000000000 ∧ p.2 ≠ 0) (fun p => (dig (p.1 / p.2), dig (p.1 % p.2), ()))
noncomputable def ai3 : PlT × Unit → Option (PlT × Unit) := acD (fun z : Int => (pl z, ())) (fun z => Bd 8 z.natAbs) (fun z => (pl (-z), ()))
noncomputable def ahU : PlT × PlT × Unit → Option (PlT × Unit) := acD (fun p : Int × Int => (pl p.1, pl p.2, ())) (fun p => Bd 7 p.1.natAbs ∧ Bd 7 p.2.natAbs) (fun p => (pl (p.1 + p.2), ()))
noncomputable def alE : PlT × PlT × Unit → Option (PlT × Unit) := acD (fun p : Int × Int => (pl p.1, pl p.2, ())) (fun p => Bd 7 p.1.natAbs ∧ Bd 7 p.2.natAbs) (fun p => (pl (p.1 - p.2), ()))
noncomputable def acF : PlT × PlT × Unit → Option (PlT × Unit) := acD (fun p : Int × Int => (pl p.1, pl p.2, ())) (fun p => Bd 7 p.1.natAbs ∧ Bd 7 p.2.natAbs) (fun p => (pl (p.1 * p.2), ()))
noncomputable def afZ : PlT × PlT × Unit → Option (PlT × PlT × Unit) := acD (fun p : Int × Int => (pl p.1, pl p.2, ())) (fun p => Bd 6 p.1.natAbs ∧ Bd 6 p.2.natAbs ∧ p.2 ≠ 0) (fun p => (pl (p.1 / p.2), pl (p.1 % p.2), ()))
noncomputable def aiC : PlT × PlT × Unit → Option (Int × Unit) := acD (fun p : Int × Int => (pl p.1, pl p.2, ())) (fun p => Bd 7 p.1.natAbs ∧ Bd 7 p.2.natAbs) (fun p => ((p.1 - p.2).sign, ()))
noncomputable def af0 : PlT × PlT × Unit → Option (PlT × Unit) := acD (fun p : Int × Int => (pl p.1, pl p.2, ())) (fun p => Bd 8 p.1.natAbs ∧ Bd 8 p.2.natAbs) (fun p => (pl (Nat.gcd p.1.natAbs p.2.natAbs), ()))
noncomputable def ai4 : PlT × Int × Unit → Option (PlT × Unit) := acD (fun p : Int × Nat => (pl p.1, (p.2 : Int), ())) (fun p => (p.2 ≤ 40 ∧ Bd 2 p.1.natAbs) ∨ (p.2 ≤ 500 ∧ p.1 = 10)) (fun p => (pl (p.1 ^ p.2), ()))
noncomputable def agM : PlT × Unit → Option (Int × Int × Unit) := acD (fun z : Int => (pl z, ())) (fun z => Bd 6 z.natAbs) (fun z => if aa3 z then (z, 0, ()) else (0, 6, ()))
def shF (x : FxT) : Prop := x.1.length ≤ 1000000000000 ∧ x.2.1.length ≤ 1000000000000
instance (x : FxT) : Decidable (shF x) := inferInstanceAs (Decidable (_ ∧ _))
noncomputable def afR : PlT × PlT × Unit → Option (RaT × Unit) := acD (fun x : Int × Int => (pl x.1, pl x.2, ())) (fun x => Bd 6 x.1.natAbs ∧ Bd 6 x.2.natAbs ∧ x.2 ≠ 0) (fun x => (ra (Rat.divInt x.1 x.2), ()))
noncomputable def aiB : Int × Int × Unit → Option (RaT × Unit) := acD (fun x : Int × Int => (x.1, x.2, ())) (fun x => aa3 x.1 ∧ aa3 x.2 ∧ x.2 ≠ 0) (fun x => (ra (Rat.divInt x.1 x.2), ()))
noncomputable def abA (x : FxT × Unit) : Option (Bool × Unit) := if shF x.1 then some ((rdF x.1).isSome, ()) else none
noncomputable def alC (x : FxT × Unit) : Option (Int × Unit) := if shF x.1 then alN x else none
noncomputable def adG : FxT × Unit → Option (RaT × Unit) := acD (fun x : Rat => (fx x, ())) (fun x => acB x) (fun x => (ra x, ()))
noncomputable def ajX : RaT × Unit → Option (FxT × Int × Unit) := acD (fun x : Rat => (ra x, ())) (fun x => BdQ 6 x) (fun x => wrF x)
noncomputable def aoO : RaT × Unit → Option (RaT × Unit) := acD (fun x : Rat => (ra x, ())) (fun x => BdQ 6 x) (fun x => (ra (-x), ()))
noncomputable def ai2 : RaT × RaT × Unit → Option (RaT × Unit) := acD (fun x : Rat × Rat => (ra x.1, ra x.2, ())) (fun x => BdQ 3 x.1 ∧ BdQ 3 x.2) (fun x => (ra (x.1 + x.2), ()))
noncomputable def apU : RaT × RaT × Unit → Option (RaT × Unit) := acD (fun x : Rat × Rat => (ra x.1, ra x.2, ())) (fun x => BdQ 3 x.1 ∧ BdQ 3 x.2) (fun x => (ra (x.1 - x.2), ()))
noncomputable def aiA : RaT × RaT × Unit → Option (RaT × Unit) := acD (fun x : Rat × Rat => (ra x.1, ra x.2, ())) (fun x => BdQ 3 x.1 ∧ BdQ 3 x.2) (fun x => (ra (x.1 * x.2), ()))
noncomputable def atE : RaT × RaT × Unit → Option (RaT × Unit) := acD (fun x : Rat × Rat => (ra x.1, ra x.2, ())) (fun x => BdQ 3 x.1 ∧ BdQ 3 x.2 ∧ x.2 ≠ 0) (fun x => (ra (x.1 / x.2), ()))
noncomputable def ae0 : RaT × RaT × Unit → Option (Int × Unit) := acD (fun x : Rat × Rat => (ra x.1, ra x.2, ())) (fun x => BdQ 3 x.1 ∧ BdQ 3 x.2) (fun x => (axD x.1 x.2, ()))
noncomputable def aoP : RaT × Unit → Option (PlT × Unit) := acD (fun x : Rat => (ra x, ())) (fun x => BdQ 6 x) (fun x => (pl (fl x), ()))
noncomputable def arJ (x : Int × Int × Unit) : Option (FxT × Int × Unit) := am5 x
noncomputable def atF (x : FxT × FxT × Unit) : Option (Int × Int × Unit) := if shF x.1 ∧ shF x.2.1 then agO x else none
noncomputable def ajY (x : FxT × FxT × Unit) : Option (FxT × Int × Unit) := if shF x.1 ∧ shF x.2.1 then aeO x else none
noncomputable def apT (x : FxT × FxT × Unit) : Option (FxT × Int × Unit) := if shF x.1 ∧ shF x.2.1 then afS x else none
noncomputable def ah5 (x : FxT × FxT × Unit) : Option (FxT × Int × Unit) := if shF x.1 ∧ shF x.2.1 then ad6 x else none
noncomputable def amX (x : FxT × FxT × Unit) : Option (FxT × Int × Unit) := if shF x.1 ∧ shF x.2.1 then afA x else none
noncomputable def apV : FxT × FxT × FxT × Unit → Option (FxT × Int × Unit) := acD (fun x : Rat × Rat × Rat => (fx x.1, fx x.2.1, fx x.2.2, ())) (fun x => acB x.1 ∧ acB x.2.1 ∧ acB x.2.2 ∧ x.2.1 ≤ x.2.2) (fun x => (fx (if x.1 < x.2.1 then x.2.1 else if x.1 > x.2.2 then x.2.2 else x.1), 0, ()))
noncomputable def afQ : RaT × Int × Unit → Option (RaT × Unit) := acD (fun x : Rat × Nat => (ra x.1, (x.2 : Int), ())) (fun x => BdQ 2 x.1 ∧ x.2 ≤ 40) (fun x => (ra (x.1 ^ x.2), ()))
def aeZ (x : BdT × Unit) : Option (Bool × Unit) := some (decide (okB x.1.1 x.1.2.1), ())
def av2 (x : BdT × Unit) : Option (Int × Unit) := some (if okB x.1.1 x.1.2.1 then 0 else 30, ())
noncomputable def abL (x : Int × Unit) : Option (RaT × Unit) := if aa3 x.1 then some (ra (mkRat x.1 1000000000000), ()) else none
noncomputable def alB : RaT × RaT × Unit → Option (BdT × Int × Unit) := acD (fun x : Rat × Rat => (ra x.1, ra x.2, ())) (fun x => BdQ 3 x.1 ∧ BdQ 3 x.2) (fun x => aeV x.1 x.2)
noncomputable def ai1 (x : FxT × Unit) : Option (BdT × Int × Unit) := if shF x.1 then ad2 x else none
def aE7 (x : BdT × BdT × Unit) : Option (BdT × Int × Unit) := some (aKh x.1 x.2.1)
def av0 (x : Int × Int × Unit) : Option (Bool × Unit) := some (decide (okE x.1 x.2.1), ())
def atD (x : Int × Int × Unit) : Option (BdT × Int × Unit) := some (mkB 6 x.1 x.2.1)
def abM (n : Nat) : Rat := mkRat n 1000000000000
noncomputable def dnQ (x : Rat) (q : Nat) : Nat := open Classical in if h : ∃ n : Nat, n ≤ 1000000000000000001 ∧ abM n ^ q ≤ x ∧ (n = 1000000000000000001 ∨ x < abM (n + 1) ^ q) then h.choose else 0
noncomputable def upQ (x : Rat) (q : Nat) : Nat := if abM (dnQ x q) ^ q < x then dnQ x q + 1 else dnQ x q
noncomputable def aoN : RaT × Int × Unit → Option (Int × Unit) := acD (fun x : Rat × Nat => (ra x.1, (x.2 : Int), ())) (fun x => 0 ≤ x.1 ∧ 1 ≤ x.2 ∧ x.2 ≤ 12 ∧ BdQ 3 x.1) (fun x => ((dnQ x.1 x.2 : Int), ()))
noncomputable def aE6 : RaT × Int × Unit → Option (Int × Unit) := acD (fun x : Rat × Nat => (ra x.1, (x.2 : Int), ())) (fun x => 0 ≤ x.1 ∧ 1 ≤ x.2 ∧ x.2 ≤ 12 ∧ BdQ 3 x.1) (fun x => ((upQ x.1 x.2 : Int), ()))
noncomputable def av1 (x : BdT × Int × Int × Unit) : Option (BdT × Int × Unit) := some (aH2 x.1 x.2.1 x.2.2.1)
def shC (c : CvT) : Prop := c.2.1.length ≤ 1000000000000 ∧ c.2.2.1.length ≤ 1000000000000
instance (c : CvT) : Decidable (shC c) := inferInstanceAs (Decidable (_ ∧ _))
def acL (x : Int × Int × Int × Unit) : Option (Bool × Unit) := acV x
def abH (x : Int × Int × Unit) : Option (Bool × Unit) := if inR x.1 1 36 ∧ inR x.2.1 1 12 then some (!decide (Nat.gcd x.1.natAbs x.2.1.natAbs = 1), ()) else none
def ajV (x : adI × Unit) : Option (Bool × Unit) := some (decide (adL x.1), ())
def ag0 (x : CvT × Unit) : Option (Bool × Unit) := if shC x.1 then some (decide (abJ x.1), ()) else none
def abT (x : Int × Int × Unit) : Option (FxT × Unit) := ab4 x
noncomputable def ahT : FxT × Unit → Option (FxT × Unit) := acC
noncomputable def agK : FxT × FxT × Unit → Option (Bool × Unit) := acD (fun q : Rat × Rat => (fx q.1, fx q.2, ())) (fun q => acB q.1 ∧ acB q.2) (fun q => (decide (q.1 < q.2), ()))
def am6 (b : BdT) : BdT := (min (max b.1 0) 1000000000000, min (max b.2.1 0) 1000000000000, ())
def atB (x : BdT × Unit) : Option (BdT × Unit) := some (am6 x.1, ())
noncomputable def adN : FxT × Unit → Option (BdT × Unit) := acD (fun q : Rat => (fx q, ())) (fun q => acB q) (fun q => ((aeV q q).1, ()))
def adA (a b : BdT) : BdT := (min a.1 b.1, max a.2.1 b.2.1, ())
def ak7 (x : BdT × BdT × Unit) : Option (BdT × Unit) := some (adA x.1 x.2.1, ())
noncomputable def abQ (q : Rat) : Option Rat := if acB q then some q else none
def anU : Option Rat → FxT × Int × Unit
 | some q => (fx q, 0, ())
 | none => (([], [], ()), 6, ())
noncomputable def asG (m a : Int) (x : Rat) : Option Rat := (abQ (mkRat m 1 * x)).bind fun u => (abQ (u + mkRat a 1)).bind fun v => abQ (v / mkRat 1000000 1)
noncomputable def acX (u : Rat) : Nat → Rat → Option Rat
 | 0, y => some y
 | n + 1, y => (abQ (y * u)).bind (acX u n)
def aI0 (u : Rat) : Rat := if u < 0 then 0 else u
noncomputable def aEr (s : adI) (x : Rat) : Option Rat := (asG s.2.1 s.2.2.1 x).bind fun u => (acX (aI0 u) (s.2.2.2.1 - 1).toNat (aI0 u)).bind fun y => (abQ (y + mkRat s.2.2.2.2.2.1 1000000)).map afF
def afL (x : Rat) (l : List adI) : Nat := l.findIdx (fun s => decide (x ≤ mkRat s.1 1000000))
noncomputable def az6 (l : List adI) (x : Rat) : FxT × Int × Unit := if (l.getD (afL x l) (0, 0, 0, 0, 0, 0, ())).2.2.2.2.1 = 1 then anU (aEr (l.getD (afL x l) (0, 0, 0, 0, 0, 0, ())) x) else (([], [], ()), 5, ())
noncomputable def ahK (l : List Int) (p : Rat) : Nat := min p.floor.toNat (l.length - 2)
noncomputable def aKu (l : List Int) (x : Rat) : Option Rat := (abQ (x * mkRat ((l.length - 1 : Nat) : Int) 1)).bind fun p =>
 (abQ (p - mkRat (ahK l p : Int) 1)).bind fun r => (abQ (r * mkRat (l.getD (ahK l p + 1) 0 - l.getD (ahK l p) 0) 1)).bind fun t =>
 (abQ (mkRat (l.getD (ahK l p) 0) 1 + t)).bind fun y => abQ (y / mkRat 65535 1)
noncomputable def axH (c : CvT) (x : Rat) : FxT × Int × Unit := if c.1 = 1 then (fx x, 0, ()) else if c.1 = 2 then anU (aKu c.2.1 x) else az6 c.2.2.1 x
noncomputable def alO : PcT × FxT × Unit → Option (FxT × Int × Unit) := acD (fun p : PcT × Rat => (p.1, fx p.2, ())) (fun p => acB p.2 ∧ adL p.1.1) (fun p => anU (asG p.1.1.2.1 p.1.1.2.2.1 p.2))
noncomputable def ah7 : (CvT × Unit) × FxT × Unit → Option (FxT × Int × Unit) := acD (fun p : CvT × Rat => ((p.1, ()), fx p.2, ())) (fun p => acB p.2) (fun p => (fx p.2, 0, ()))
noncomputable def ag5 : (CvT × Unit) × FxT × Unit → Option (FxT × Int × Unit) := acD (fun p : CvT × Rat => ((p.1, ()), fx p.2, ())) (fun p => acB p.2 ∧ 0 ≤ p.2 ∧ p.2 ≤ 1 ∧ adM p.1.2.1) (fun p => anU (aKu p.1.2.1 p.2))
noncomputable def aj1 : (CvT × Unit) × FxT × Unit → Option (FxT × Int × Unit) := acD (fun p : CvT × Rat => ((p.1, ()), fx p.2, ())) (fun p => acB p.2 ∧ p.2 ≤ 1 ∧ acA p.1.2.2.1) (fun p => az6 p.1.2.2.1 p.2)
noncomputable def acR (x : CvT × FxT × Unit) : Option (FxT × Int × Unit) := some (if abJ x.1 then (match rdF x.2.1 with | some q => axH x.1 (afF q) | none => (([], [], ()), 20, ())) else (([], [], ()), 90, ()))
noncomputable def ak8 : adI × FxT × Unit → Option (FxT × Int × Unit) := acD (fun p : adI × Rat => (p.1, fx p.2, ())) (fun p => acB p.2 ∧ adL p.1) (fun p => anU (asG p.1.2.1 p.1.2.2.1 p.2))
noncomputable def ajW : adI × FxT × Unit → Option (FxT × Int × Unit) := acD (fun p : adI × Rat => (p.1, fx p.2, ())) (fun p => acB p.2 ∧ adL p.1) (fun p => anU (aEr p.1 p.2))
noncomputable def ak6 : CvT × FxT × Unit → Option (Int × Unit) := acD (fun p : CvT × Rat => (p.1, fx p.2, ())) (fun p => acB p.2 ∧ p.2 ≤ 1 ∧ acA p.1.2.2.1) (fun p => ((afL p.2 p.1.2.2.1 : Int), ()))
noncomputable def apS : List Int × FxT × Unit → Option (FxT × Int × Unit) := acD (fun p : List Int × Rat => (p.1, fx p.2, ())) (fun p => acB p.2 ∧ 0 ≤ p.2 ∧ p.2 ≤ 1 ∧ adM p.1) (fun p => anU (aKu p.1 p.2))
noncomputable def ahS (x : CvT × FxT × Unit) : Option (FxT × Int × Unit) := if shC x.1 ∧ shF x.2.1 then acR x else none
def ad4 : List BdT → BdT
 | [] => (0, 0, ())
 | b :: l => l.foldl adA b
def okL (l : List BdT) : Prop := l ≠ [] ∧ l.length ≤ 1000000 ∧ ∀ b ∈ l, okB b.1 b.2.1
instance (l : List BdT) : Decidable (okL l) := inferInstanceAs (Decidable (_ ∧ _ ∧ _))
def aj2 (x : List BdT × Unit) : Option (BdT × Int × Unit) := if okL x.1 then some (ad4 x.1, 0, ()) else none
noncomputable def af2 : List FxT × Unit → Option (BdT × Int × Unit) := acD (fun l : List Rat => (l.map (fun q => fx q), ())) (fun l => l ≠ [] ∧ l.length ≤ 1000000 ∧ ∀ q ∈ l, acB q ∧ (aeV q q).2.1 = 0) (fun l => (ad4 (l.map fun q => (aeV q q).1), 0, ()))
def af8 (m a n : Int) : Int := m * n + a * 1000000000000
def auD (s : adI) (lo hi : Int) : BdT :=
 (max (min (af8 s.2.1 s.2.2.1 lo / 1000000) (af8 s.2.1 s.2.2.1 hi / 1000000)) 0, max (max (-(-af8 s.2.1 s.2.2.1 lo / 1000000)) (-(-af8 s.2.1 s.2.2.1 hi / 1000000))) 0, ())
noncomputable def auE (s : adI) (lo hi : Int) : BdT × Int × Unit :=
 if (aH2 (auD s lo hi) s.2.2.2.1 s.2.2.2.2.1).2.1 ≠ 0 then ((0, 0, ()), (aH2 (auD s lo hi) s.2.2.2.1 s.2.2.2.2.1).2.1, ())
 else if (aKh (aH2 (auD s lo hi) s.2.2.2.1 s.2.2.2.2.1).1 (s.2.2.2.2.2.1 * 1000000, s.2.2.2.2.2.1 * 1000000, ())).2.1 ≠ 0 then ((0, 0, ()), (aKh (aH2 (auD s lo hi) s.2.2.2.1 s.2.2.2.2.1).1 (s.2.2.2.2.2.1 * 1000000, s.2.2.2.2.2.1 * 1000000, ())).2.1, ())
 else (am6 (aKh (aH2 (auD s lo hi) s.2.2.2.1 s.2.2.2.2.1).1 (s.2.2.2.2.2.1 * 1000000, s.2.2.2.2.2.1 * 1000000, ())).1, 0, ())
def inU (n : Int) : Prop := inR n 0 1000000000000
instance (n : Int) : Decidable (inU n) := inferInstanceAs (Decidable (_ ∧ _))
noncomputable def aeP (x : PcT × Int × Int × Unit) : Option (BdT × Int × Unit) := if adL x.1.1 ∧ inU x.2.1 ∧ inU x.2.2.1 then some (auE x.1.1 x.2.1 x.2.2.1) else none
noncomputable def ahR : adI × FxT × FxT × Unit → Option (BdT × Int × Unit) := acD (fun p : adI × Int × Int => (p.1, fx (mkRat p.2.1 1000000000000), fx (mkRat p.2.2 1000000000000), ())) (fun p => adL p.1 ∧ inU p.2.1 ∧ inU p.2.2) (fun p => auE p.1 p.2.1 p.2.2)
def ag6 (x : (CvT × Unit) × BdT × Unit) : Option (BdT × Int × Unit) := some (x.2.1, 0, ())
def abC (l : List adI) (k : Nat) : Int := if k = 0 then 0 else (l.getD (k - 1) (0, 0, 0, 0, 0, 0, ())).1
def aaY (n : Int) (l : List adI) : Nat := l.findIdx (fun s => decide (n ≤ s.1 * 1000000))
noncomputable def am8 (l : List adI) (lo hi : Int) (k : Nat) : BdT × Int × Unit := auE (l.getD k (0, 0, 0, 0, 0, 0, ())) (max lo (abC l k * 1000000)) (min hi ((l.getD k (0, 0, 0, 0, 0, 0, ())).1 * 1000000))
noncomputable def arH (l : List adI) (lo hi : Int) : Nat → Nat → List BdT → BdT × Int × Unit
 | 0, _, acc => (ad4 acc, 0, ())
 | n + 1, k, acc => if (am8 l lo hi k).2.1 ≠ 0 then ((0, 0, ()), (am8 l lo hi k).2.1, ()) else arH l lo hi n (k + 1) (acc ++ [(am8 l lo hi k).1])
noncomputable def aoG (l : List adI) (lo hi : Int) : BdT × Int × Unit := arH l lo hi (aaY hi l + 1 - aaY lo l) (aaY lo l) []
noncomputable def adX (x : (CvT × Unit) × BdT × Unit) : Option (BdT × Int × Unit) := if acA x.1.1.2.2.1 ∧ inU x.2.1.1 ∧ inU x.2.1.2.1 ∧ x.2.1.1 ≤ x.2.1.2.1 then some (aoG x.1.1.2.2.1 x.2.1.1 x.2.1.2.1) else none
def aCp (l : List Int) (n : Int) : Nat := min (n * ((l.length - 1 : Nat) : Int) / 1000000000000).toNat (l.length - 2)
def anF (l : List Int) (n : Int) : Int := l.getD (aCp l n) 0 * 1000000000000 + (n * ((l.length - 1 : Nat) : Int) - (aCp l n : Int) * 1000000000000) * (l.getD (aCp l n + 1) 0 - l.getD (aCp l n) 0)
def aOz (m : Int) : BdT := (m / 65535, -(-m / 65535), ())
def aBC (l : List Int) (lo hi : Int) (k : Nat) : Bool := decide (inR ((k : Int) * 1000000000000) (lo * ((l.length - 1 : Nat) : Int)) (hi * ((l.length - 1 : Nat) : Int)))
def alW (l : List Int) (lo hi : Int) (k : Nat) : List BdT := aOz (anF l lo) :: aOz (anF l hi) :: ((List.range k).filter (aBC l lo hi)).map (fun j => aOz (l.getD j 0 * 1000000000000))
def aoF (l : List Int) (lo hi : Int) : BdT := ad4 (alW l lo hi l.length)
def afG (x : (CvT × Unit) × BdT × Unit) : Option (BdT × Int × Unit) := if adM x.1.1.2.1 ∧ inU x.2.1.1 ∧ inU x.2.1.2.1 ∧ x.2.1.1 ≤ x.2.1.2.1 then some (aoF x.1.1.2.1 x.2.1.1 x.2.1.2.1, 0, ()) else none
noncomputable def aAR (c : CvT) (b : BdT) : BdT × Int × Unit := if c.1 = 1 then (b, 0, ()) else if c.1 = 2 then (aoF c.2.1 b.1 b.2.1, 0, ()) else aoG c.2.2.1 b.1 b.2.1
noncomputable def adY (x : CvT × BdT × Unit) : Option (BdT × Int × Unit) := some (if abJ x.1 then (if okB x.2.1.1 x.2.1.2.1 then aAR x.1 (am6 x.2.1) else ((0, 0, ()), 30, ())) else ((0, 0, ()), 90, ()))
noncomputable def alA (x : CvT × BdT × Unit) : Option (BdT × Int × Unit) := if shC x.1 then adY x else none
noncomputable def atC : CvT × FxT × FxT × Unit → Option (BdT × Unit) := acD (fun p : CvT × Int × Int => (p.1, fx (mkRat p.2.1 1000000000000), fx (mkRat p.2.2 1000000000000), ())) (fun p => abJ p.1 ∧ p.1.1 ≠ 3 ∧ inU p.2.1 ∧ inU p.2.2 ∧ p.2.1 ≤ p.2.2) (fun p => ((aAR p.1 (p.2.1, p.2.2, ())).1, ()))
def auB : CvT := (2, [0, 65535, 0], [], ())
def stepsC : CvT := (3, [], [(500000, 1000000, 0, 1, 1, 0, ()), (1000000, 2000000, -1000000, 2, 1, 500000, ())], ())
def rootC : CvT := (3, [], [(1000000, 1000000, 0, 1, 2, 0, ())], ())
def ad5 (x : Int × Int × Unit) : Option (FxT × Unit) := ab4 x
def alF (_ : Unit) : Option (CvT × Unit) := some (auB, ())
def apX (_ : Unit) : Option (CvT × Unit) := some (stepsC, ())
def atL (_ : Unit) : Option (CvT × Unit) := some (rootC, ())
noncomputable def ae1 (x : CvT × FxT × FxT × Unit) : Option (Bool × Unit) := (acR (x.1, x.2.1, ())).map (fun r => (eqb r (x.2.2.1, 0, ()), ()))
def av4 (_ : Unit) : Option (Bool × Unit) := some (true, ())
end Go.Vs
namespace Go.Vg
open Go
def opn (P : Program) : Nat → TypeId → Ty → Bool
 | 0, _, _ => false
 | n + 1, t, u => Nat.beq (P.cellsOf t) u.size && (match P.underlying t, u with
  | some (.int k), .int k' => decide (k = k')
  | some .bool, .bool => true
  | some .string, .str => true
  | some (.slice e), .sl v => opn P n e v && Nat.ble 1 v.size && Nat.ble 1 (P.bytesOf e)
  | some (.array m e), .arr m' v => Nat.beq m m' && opn P n e v
  | some (.struct fs), u => opFs (opn P n) fs.toList 0 u
  | _, _ => false)
where opFs (f : TypeId → Ty → Bool) : List Field → Nat → Ty → Bool
 | [], _, u => match u with | .unit => true | _ => false
 | x :: r, off, u => match u with
  | .pair t v => Nat.beq x.offset off && f x.type t && opFs f r (off + t.size) v
  | _ => false
theorem aOV {α : Type} {R : α → List Value → Prop} {n : Nat} : ∀ (len : Nat) (cs : List Value), cs.length = len * n → (∀ i, i < len → ∃ x, R x ((cs.drop (i * n)).take n)) → ∃ xs, xs.length = len ∧ RdL R xs cs
 | 0, cs, hl, _ => ⟨[], rfl, by rw [vL] at hl; exact yI hl⟩
 | len + 1, cs, hl, h => by
  obtain ⟨x, hx⟩ := h 0 (Nat.succ_pos _)
  rw [vL, yK] at hx
  have hl' : (cs.drop n).length = len * n := by rw [yz, hl, yi]; omega
  obtain ⟨xs, h1, h2⟩ := aOV len (cs.drop n) hl' (fun i hi => by
   have := h (i + 1) (Nat.succ_lt_succ hi)
   rw [yc]
   rwa [yi, xe] at this)
  exact ⟨x :: xs, by rw [zG, h1], cs.take n, cs.drop n, (xz n cs).symm, hx, h2⟩
section
variable {H : Type} {enc : TypeId × Value → H} {P : Program} {w : World} {spare : Nat → Bool} {held : Bool}
abbrev ap6 (l : List Nat) : Prop := l.all (· ≤ reachBytes) = true
theorem an2 {a b : List Nat} (h : ap6 (a ++ b)) : ap6 a ∧ ap6 b := by
 simp only [ap6, List.all_append, zw] at h
 exact h
theorem az4 {e : TypeId} : ∀ {ds : List (DataW H)}, ap6 (DataW.weightsAll P e ds) → ∀ d ∈ ds, ap6 (d.weights P e)
 | [], _, _, h => by cases h
 | d :: r, h, x, hx => by
  rw [DataW.weightsAll] at h
  obtain ⟨h1, h2⟩ := an2 h
  rcases zx.1 hx with rfl | hx
  ·exact h1
  ·exact az4 h2 x hx
theorem aCJ : ∀ {ts : List TypeId} {ds : List (DataW H)}, ap6 (DataW.weightsEach P ts ds) → ∀ (i : Nat) t d, ts[i]? = some t → ds[i]? = some d → ap6 (d.weights P t)
 | [], _, _, i, t, d, h, _ => by simp at h
 | _ :: _, [], _, i, t, d, _, h => by simp at h
 | t :: ts, d :: ds, h, i, t', d', h1, h2 => by
  rw [DataW.weightsEach] at h
  obtain ⟨h3, h4⟩ := an2 h
  cases i with
  | zero => simp at h1 h2; subst h1; subst h2; exact h3
  | succ i => exact aCJ h4 i t' d' (by simpa using h1) (by simpa using h2)
theorem apQ {a : Addr} {n : Nat} {l : List Value} (h : w.cells? 0 a n = some l) : l.length = n ∧ ∀ i (hi : i < n), w.cell? (a.add i) = l[i]? := by
 unfold World.cells? at h
 rw [if_pos (ye _)] at h
 refine ⟨by simpa using mapM_some_length h, fun i hi => ?_⟩
 have := mapM_some_get h i i (by simp [hi])
 exact this
theorem aNB {a : Addr} {v : Value} (h : w.cell? a = some v) : ∃ c e fr, w.heap[a.block]? = some (.cells c e fr) ∧ a.spot = none ∧ c[a.off]? = some v := by
 unfold World.cell? at h
 split at h
 ·rename_i c e fr hc
  split at h
  ·cases h
  ·rename_i hs
   exact ⟨c, e, fr, hc, by simpa using hs, h⟩
 ·cases h
theorem aFC : reachBytes ≤ lim := zf
theorem aPw {n : Nat} {f : TypeId → Ty → Bool} {cs : List Value} (hf : ∀ t u cs d ps, f t u = true → DataW.trod enc P w 0 spare held n t cs = some (d, ps) → ap6 (d.weights P t) → ∃ x, Rd (· < w.heap.size) w u x cs)
  (hsz : ∀ t u, f t u = true → P.cellsOf t = u.size) :
  ∀ (fs : List Field) (off : Nat) (u : Ty) (xs : List (DataW H × List MemPlace)), opn.opFs f fs off u = true → cs.length = off + u.size → xs.length = fs.length →
   (∀ (i : Nat) (g : Field), fs[i]? = some g → DataW.trod enc P w 0 spare held n g.type ((cs.drop g.offset).take (P.cellsOf g.type)) = xs[i]?) →
   (∀ (i : Nat) (g : Field) y, fs[i]? = some g → xs[i]? = some y → ap6 (y.1.weights P g.type)) → ∃ x, Rd (· < w.heap.size) w u x (cs.drop off)
 | [], off, u, xs, h, hl, _, _, _ => by
  cases u <;> first | (cases h; done) | skip
  exact ⟨(), by
   have : cs.length = off := by simpa [Ty.size] using hl
   show cs.drop off = []
   exact List.drop_eq_nil_of_le zc⟩
 | g :: r, off, u, xs, h, hl, hx, ht, hw => by
  cases u <;> first | (cases h; done) | skip
  rename_i t v
  simp only [opn.opFs, zw] at h
  obtain ⟨⟨h1, h2⟩, h3⟩ := h
  have h1 := Nat.eq_of_beq_eq_true h1
  subst h1
  have hs := hsz _ _ h2
  cases xs with
  | nil => simp at hx
  | cons y ys =>
   have h4 := ht 0 g rfl
   rw [hs] at h4
   obtain ⟨a, ha⟩ := hf _ _ _ y.1 y.2 h2 h4 (hw 0 g y rfl rfl)
   obtain ⟨b, hb⟩ := aPw hf hsz r (g.offset + t.size) v ys h3 (by rw [hl]; simp only [Ty.size]; omega) (by simpa using hx) (fun i k hk => by have := ht (i + 1) k (by simpa using hk); simpa using this) (fun i k z hk hz => hw (i + 1) k z (by simpa using hk) (by simpa using hz))
   refine ⟨(a, b), _, _, (xz t.size (cs.drop g.offset)).symm, ha, ?_⟩
   rw [yc]
   exact hb
theorem axR {n : Nat} {t : TypeId} {u : Ty} (h : opn P n t u = true) : P.cellsOf t = u.size := by
 cases n with
 | zero => cases h
 | succ n =>
  simp only [opn, zw] at h
  exact Nat.eq_of_beq_eq_true h.1
theorem ar1 : ∀ (n : Nat) (t : TypeId) (u : Ty) (fuel : Nat) (cs : List Value) (d : DataW H) (ps : List MemPlace), opn P n t u = true → DataW.trod enc P w 0 spare held fuel t cs = some (d, ps) → ap6 (d.weights P t) →
  ∃ x, Rd (· < w.heap.size) w u x cs
 | 0, _, _, _, _, _, _, h, _, _ => by cases h
 | n + 1, t, u, fuel, cs, d, ps, h, hd, hw => by
  have hsz := axR h
  simp only [opn, zw] at h
  obtain ⟨-, h⟩ := h
  split at h
  ·rename_i k k' hu
   have := of_decide_eq_true h
   subst this
   obtain ⟨m, rfl, _, hwf⟩ := DataW.trod_int hu hd
   refine ⟨m, rfl, ?_⟩
   simpa [Lit.wf] using hwf
  ·rename_i hu
   obtain ⟨b, rfl, _⟩ := DataW.trod_bool hu hd
   exact ⟨b, rfl⟩
  ·rename_i hu
   obtain ⟨s, rfl, hx, _⟩ := DataW.trod_string hu hd
   injection hx with hx _
   subst hx
   have : s.data.toList.length ≤ reachBytes := by simpa [ap6, DataW.weights] using hw
   exact ⟨s.data.toList, rfl, zz this aFC⟩
  ·rename_i e v hu
   simp only [zw] at h
   obtain ⟨⟨h1, h2⟩, h3⟩ := h
   have h2 := Nat.le_of_ble_eq_true h2
   have h3 := Nat.le_of_ble_eq_true h3
   have hse := axR h1
   rcases DataW.trod_slice hu hd with ⟨rfl, hx⟩ | ⟨a, len, cap, elems, rest, m, rfl, rfl, hx, _, hlc, _, hle, hel, _, _⟩
   ·exact ⟨[], none, 0, rfl, zq _, ye _, Or.inl rfl⟩
   ·injection hx with hx _
    subst hx
    simp only [DataW.weights, hu, ap6, List.all_cons, zw, yl, List.all_append] at hw
    obtain ⟨hw1, hw2, _⟩ := hw
    have hlim : len ≤ lim := by
     have : len * 1 ≤ (List.map (·.1) elems).length * P.bytesOf e := Nat.mul_le_mul (by simp [hle]) h3
     have h4 : (List.map (·.1) elems).length * P.bytesOf e ≤ ((List.map (·.1) elems).length + (List.map (·.1) rest).length) * P.bytesOf e := zU _ (xk _ _)
     exact zz zc (zz hw1 aFC)
    rcases zC len with h0 | h0
    ·subst h0
     exact ⟨[], some a, cap, rfl, hlc, ye _, Or.inl rfl⟩
    ·-- the cells of an element
     have key : ∀ i, i < len → ∃ l y, w.cells? 0 (a.add (i * v.size)) v.size = some l ∧ DataW.trod enc P w 0 spare held m e l = some y ∧ elems[i]? = some y := by
      intro i hi
      have := hel i hi
      rw [zS zc, hse] at this
      obtain ⟨l, hl1, hl2⟩ := Option.bind_eq_some_iff.1 this
      exact ⟨l, _, hl1, hl2, by rw [zS zc]⟩
     obtain ⟨l0, y0, hl0, -, -⟩ := key 0 h0
     obtain ⟨hn0, hc0⟩ := apQ hl0
     have hc00 := hc0 0 h2
     rw [zS zc] at hc00
     obtain ⟨c, et, fr, hb, hsp, _⟩ := aNB hc00
     have e0 : a.add (0 * v.size) = a := by simp [Addr.add]
     rw [e0] at hb hsp
     have e00 : a.add 0 = a := by simp [Addr.add]
     rw [e00] at hb hsp
     obtain ⟨b, o, sp⟩ := a
     dsimp only at hb hsp
     subst hsp
     -- each cell
     have cell : ∀ i, i < len → ∀ j, j < v.size → ∀ l, w.cells? 0 (Addr.add ⟨b, o, none⟩ (i * v.size)) v.size = some l → c[o + i * v.size + j]? = l[j]? := by
      intro i hi j hj l hl
      obtain ⟨q1, q2⟩ := apQ hl
      have := q2 j hj
      rw [← this]
      have ea : ((Addr.add ⟨b, o, none⟩ (i * v.size)).add j) = ⟨b, o + i * v.size + j, none⟩ := by
       unfold Addr.add
       by_cases c1 : i * v.size = 0 <;> by_cases c2 : j = 0 <;> simp [c1, c2]
      rw [ea]
      unfold World.cell?
      dsimp only
      rw [hb]
      rfl
     have part : ∀ i, i < len → ∀ l, w.cells? 0 (Addr.add ⟨b, o, none⟩ (i * v.size)) v.size = some l → (c.toList.drop (o + i * v.size)).take v.size = l := by
      intro i hi l hl
      obtain ⟨q1, q2⟩ := apQ hl
      apply List.ext_getElem?
      intro j
      rcases zr j v.size with hj | hj
      ·rw [List.getElem?_take_of_lt hj, yZ, ← cell i hi j hj l hl]
       simp
      ·rw [xX (by rw [zO]; omega), xX zc]
     have hlen : o + len * v.size ≤ c.size := by
      obtain ⟨l, y, hl, -, -⟩ := key (len - 1) zc
      obtain ⟨q1, q2⟩ := apQ hl
      have := cell (len - 1) zc (v.size - 1) zc l hl
      rw [zS zc] at this
      have hlt := (xx.1 this).1
      have e1 : len * v.size = (len - 1) * v.size + v.size := by
       conv => lhs; rw [show len = (len - 1) + 1 by omega]
       rw [yi]
      omega
     obtain ⟨xs, hx1, hx2⟩ := aOV (R := Rd (· < w.heap.size) w v) (n := v.size) len ((c.toList.drop o).take (len * v.size)) (by rw [zO, yz]; simp; omega) (fun i hi => by
      obtain ⟨l, y, hl, hl2, hy⟩ := key i hi
      have hm : y.1 ∈ elems.map (·.1) := zN.2 ⟨y, List.mem_of_getElem? hy, rfl⟩
      obtain ⟨x, hx⟩ := ar1 n e v m l y.1 y.2 h1 hl2 (az4 hw2 _ hm)
      refine ⟨x, ?_⟩
      have e2 : ((((c.toList.drop o).take (len * v.size)).drop (i * v.size)).take v.size) = l := by
       rw [← part i hi l hl, wK, xf, yc]
       congr 1
       have : i * v.size + v.size ≤ len * v.size := by rw [← yi]; exact zU _ hi
       omega
      rw [e2]
      exact hx)
     subst hx1
     exact ⟨xs, some ⟨b, o, none⟩, cap, rfl, hlc, hlim, Or.inr ⟨b, o, c, et, fr, rfl, (xx.1 hb).1, hb, hlen, hx2⟩⟩
  ·rename_i m e m' v hu
   simp only [zw] at h
   obtain ⟨h1, h2⟩ := h
   have h1 := Nat.eq_of_beq_eq_true h1
   subst h1
   have hse := axR h2
   obtain ⟨xs, k, rfl, hx, hlen, hxl, hel⟩ := DataW.trod_array hu hd
   injection hx with hx _
   subst hx
   rw [hsz] at hlen
   have hlen' : cs.length = m * v.size := hlen
   simp only [DataW.weights, hu] at hw
   obtain ⟨ys, hy1, hy2⟩ := aOV (R := Rd (· < w.heap.size) w v) (n := v.size) m cs hlen' (fun i hi => by
    have := hel i hi
    rw [zS zc, hse] at this
    exact ar1 n e v k _ _ _ h2 this (az4 hw _ (zN.2 ⟨_, ym zc, rfl⟩)))
   exact ⟨ys, hy1, hy2⟩
  ·rename_i _ fs hu
   obtain ⟨xs, k, rfl, hx, hlen, hxl, hel⟩ := DataW.trod_struct hu hd
   injection hx with hx _
   subst hx
   simp only [DataW.weights, hu] at hw
   obtain ⟨x, hx⟩ := aPw (n := k) (f := opn P n) (cs := cs) (fun t u cs d ps h1 h2 h3 => ar1 n t u k cs d ps h1 h2 h3) (fun t u h => axR h) fs.toList 0 _ xs h (by rw [hlen, hsz]; omega) (by simpa using hxl) (fun i g hg => hel i g (by simpa using hg))
    (fun i g y hg hy => aCJ hw i g.type y.1 (by simp [hg]) (by simp [hy]))
   exact ⟨x, by simpa using hx⟩
  ·cases h
theorem aSD {f : TypeId → Ty → Bool} : ∀ {fs : List Field} {off : Nat} {u : Ty}, opn.opFs f fs off u = true → u.agg = true
 | [], _, u, h => by cases u <;> first | rfl | (cases h; done)
 | _ :: _, _, u, h => by cases u <;> first | rfl | (cases h; done)
theorem aME {n : Nat} {t : TypeId} {u : Ty} {r : _root_.Go.Reach} {b0 : Nat} {v : Value} {d : DataW H} {ps : List MemPlace} (ho : opn P n t u = true) (hne : u ≠ .unit) (hval : Value.okWide P w r b0 t v) (hd : DataW.Trod enc P w 0 spare held t v d ps) (hw : ap6 (d.weights P t)) :
  ∃ x, RdV (· < w.heap.size) w u x v := by
 obtain ⟨fuel, hf⟩ := hd
 obtain ⟨x, hx⟩ := ar1 n t u fuel _ _ _ ho hf hw
 refine ⟨x, _, hx, ?_⟩
 cases n with
 | zero => cases ho
 | succ n =>
  simp only [opn, zw] at ho
  obtain ⟨-, h⟩ := ho
  split at h
  ·rename_i k k' hu
   obtain ⟨m, rfl⟩ := WideShapes.okWide_int hu hval
   rfl
  ·rename_i hu
   obtain ⟨m, rfl⟩ := WideShapes.okWide_bool hu hval
   rfl
  ·rename_i hu
   obtain ⟨m, rfl⟩ := WideShapes.okWide_string hu hval
   rfl
  ·rename_i e v' hu
   obtain ⟨a, len, cap, rfl⟩ := WideShapes.okWide_slice hu hval
   rfl
  ·rename_i ha
   unfold Value.okWide at hval
   rw [ha] at hval
   obtain ⟨cs, rfl, _⟩ := hval
   rfl
  ·rename_i fs hu'
   obtain ⟨cs, rfl, _⟩ := WideShapes.okWide_struct hu' hval
   unfold vOf
   rw [if_pos (aSD h)]
   rfl
  ·cases h
def aKW (P : Program) : List TypeId → Ty → Bool
 | [], u => match u with | .unit => true | _ => false
 | t :: ts, u => match u with
  | .pair a b => opn P 8 t a && (match a with | .unit => false | _ => true) && aKW P ts b
  | _ => false
theorem aKX : ∀ (ts : List TypeId) (u : Ty) (vs : List Value) (ds : List (DataW H)) (ps : List MemPlace) {r : _root_.Go.Reach} {b0 : Nat}, aKW P ts u = true → (∀ (j : Nat) t v, ts[j]? = some t → vs[j]? = some v → Value.okWide P w r b0 t v) →
  DataW.TrodAll enc P w 0 spare held ts vs ds ps → ap6 (DataW.weightsEach P ts ds) → ∃ x, RdVs (· < w.heap.size) w u x vs
 | [], u, vs, ds, ps, _, _, ho, _, hd, _ => by
  cases u <;> first | (cases ho; done) | skip
  cases vs with
  | nil => exact ⟨(), rfl⟩
  | cons v vs => cases ds <;> exact hd.elim
 | t :: ts, u, vs, ds, ps, r, b0, ho, hv, hd, hw => by
  cases u <;> first | (cases ho; done) | skip
  rename_i a b
  simp only [aKW, zw] at ho
  obtain ⟨⟨h1, h2⟩, h3⟩ := ho
  cases vs with
  | nil => exact hd.elim
  | cons v vs =>
   cases ds with
   | nil => exact hd.elim
   | cons d ds =>
    obtain ⟨p, q, hd1, hd2, _⟩ := hd
    rw [DataW.weightsEach] at hw
    obtain ⟨hw1, hw2⟩ := an2 hw
    obtain ⟨x, hx⟩ := aME h1 (fun e => by subst e; cases h2) (hv 0 t v rfl rfl) hd1 hw1
    obtain ⟨y, hy⟩ := aKX ts b vs ds q h3 (fun j t' v' e1 e2 => hv (j + 1) t' v' (by simpa using e1) (by simpa using e2)) hd2 hw2
    exact ⟨(x, y), v, vs, rfl, hx, hy⟩
theorem aKz (hl : laidOutB P = true) {W W' : World} (hb : RowKit.Below W.heap.size W W') : ∀ (ts : List TypeId) (vs : List Value) (ds : List (DataW H)) (ps : List MemPlace), (ts.all fun t => P.readableRec t && decide (t < P.types.size)) = true →
  DataW.TrodAll enc P W 0 (fun _ => true) true ts vs ds ps → (∀ x ∈ ps, x.block < W.heap.size) → DataW.TrodAll enc P W' 0 (fun b => decide (b < W.heap.size)) true ts vs ds ps
 | [], [], [], _, _, hd, _ => hd
 | [], _ :: _, [], _, _, hd, _ | [], _, _ :: _, _, _, hd, _ => by cases ‹List Value› <;> exact hd.elim
 | t :: ts, [], ds, _, _, hd, _ => by cases ds <;> exact hd.elim
 | t :: ts, v :: vs, [], _, _, hd, _ => hd.elim
 | t :: ts, v :: vs, d :: ds, ps, hr, ⟨p, q, h1, h2, e⟩, hlt => by
  simp only [List.all_cons, zw, yl] at hr
  obtain ⟨⟨r1, r2⟩, r3⟩ := hr
  subst e
  exact ⟨p, q, RowKit.Below.trod hl r1 r2 h1 hb (fun x hx => hlt x (vN _ hx)), aKz hl hb ts vs ds q r3 h2 (fun x hx => hlt x (List.mem_append_right _ hx)), rfl⟩
end
end Go.Vg
