/-
  Functions of plain data that the Go functions compute, and their laws. Own work; no condition.
-/
import Derived.Test.YtakjojajnblpoaaGreatDoorClE4
import Derived.Lib.ItoaMem
import Derived.Lib.AtoiAllCases
import Derived.Lib.ParseIntBTie
import Derived.Lib.Repeat
import Derived.OpenShut
import Derived.Carry
set_option linter.unusedVariables false
set_option linter.unusedSimpArgs false
namespace Go.Vs
open Go Go.Vg
theorem aaA {x : Int} (h0 : -9223372036854775808 ≤ x ∧ x ≤ 9223372036854775807) : w64 x = x := by
 obtain ⟨h0, h1⟩ := h0
 unfold w64 IntKind.wrap
 simp only [IntKind.bits, IntKind.signed, Bool.true_and]
 have e1 : (2 : Int) ^ 64 = 18446744073709551616 := by decide
 have e2 : (2 : Int) ^ (64 - 1) = 9223372036854775808 := by decide
 simp only [e1, e2, ge_iff_le, decide_eq_true_eq]
 split <;> omega
theorem aaO {x : Int} (h0 : 0 ≤ x ∧ x ≤ 18446744073709551615) : abO x = x := by
 obtain ⟨h0, h1⟩ := h0
 unfold abO IntKind.wrap
 simp only [IntKind.bits, IntKind.signed, Bool.false_and]
 have e1 : (2 : Int) ^ 64 = 18446744073709551616 := by decide
 simp only [e1]
 simp only [Bool.false_eq_true, if_false]
 omega
theorem aa0 {x : Int} (h0 : 0 ≤ x ∧ x ≤ 4294967295) : adS x = x := by
 obtain ⟨h0, h1⟩ := h0
 unfold adS IntKind.wrap
 simp only [IntKind.bits, IntKind.signed, Bool.false_and]
 have e1 : (2 : Int) ^ 32 = 4294967296 := by decide
 simp only [e1]
 simp only [Bool.false_eq_true, if_false]
 omega
theorem abN {x : Int} (h0 : 0 ≤ x ∧ x ≤ 255) : wu8 x = x := by
 obtain ⟨h0, h1⟩ := h0
 unfold wu8 IntKind.wrap
 simp only [IntKind.bits, IntKind.signed, Bool.false_and]
 have e1 : (2 : Int) ^ 8 = 256 := by decide
 simp only [e1]
 simp only [Bool.false_eq_true, if_false]
 omega
def V (B : Int) : List Int → Int
 | [] => 0
 | d :: l => d + B * V B l
def Dg (B : Int) (l : List Int) : Prop := ∀ d ∈ l, 0 ≤ d ∧ d < B
def Cn (l : List Int) : Prop := l.getLast? ≠ some 0
theorem adX (B : Int) : ∀ (l m : List Int), V B (l ++ m) = V B l + B ^ l.length * V B m
 | [], m => by simp [V]
 | d :: l, m => by
  simp only [List.cons_append, V, adX B l m, List.length_cons, Int.pow_succ]
  grind
theorem ayU (B d : Int) : V B [d] = d := by simp [V]
theorem akG (B : Int) {l : List Int} {i : Nat} (h : i < l.length) : V B (l.take (i + 1)) = V B (l.take i) + B ^ i * l[i] := by
 rw [List.take_succ_eq_append_getElem h, adX, ayU, List.length_take, Nat.min_eq_left (by omega)]
theorem aQA (B : Int) (l : List Int) (i : Nat) (h : i ≤ l.length) : V B l = V B (l.take i) + B ^ i * V B (l.drop i) := by
 conv => lhs; rw [← List.take_append_drop i l]
 rw [adX, List.length_take, Nat.min_eq_left h]
theorem aM9 (B : Int) {l : List Int} {i : Nat} (h : i < l.length) : V B (l.drop i) = l[i] + B * V B (l.drop (i + 1)) := by
 rw [List.drop_eq_getElem_cons h]; rfl
theorem atM (B : Int) : Dg B [] := fun _ h => by cases h
theorem aeG {B : Int} {l m : List Int} (hl : Dg B l) (hm : Dg B m) : Dg B (l ++ m) := by
 intro d hd
 rcases List.mem_append.1 hd with h | h
 ·exact hl d h
 ·exact hm d h
theorem al5 {B d : Int} (h0 : 0 ≤ d) (h1 : d < B) : Dg B [d] := by
 intro x hx
 have := List.mem_singleton.1 hx
 subst this
 exact ⟨h0, h1⟩
theorem aoJ {B d : Int} {l : List Int} (h : Dg B (d :: l)) : Dg B l := fun x hx => h x (List.mem_cons_of_mem _ hx)
theorem asG {B d : Int} {l : List Int} (h : Dg B (d :: l)) : 0 ≤ d ∧ d < B := h d List.mem_cons_self
theorem aCe {B d : Int} {l : List Int} (h0 : 0 ≤ d ∧ d < B) (h : Dg B l) : Dg B (d :: l) := by
 intro x hx
 rcases List.mem_cons.1 hx with rfl | h1
 ·exact h0
 ·exact h x h1
theorem ab5 {B : Int} {l : List Int} (h : Dg B l) (i : Nat) : Dg B (l.take i) := fun x hx => h x (List.mem_of_mem_take hx)
theorem acK {B : Int} {l : List Int} (h : Dg B l) (i : Nat) : Dg B (l.drop i) := fun x hx => h x (List.mem_of_mem_drop hx)
theorem aEu {B : Int} {l : List Int} (h : Dg B l) {i : Nat} (hi : i < l.length) : 0 ≤ l[i] ∧ l[i] < B := h _ (List.getElem_mem hi)
theorem aiE {B d : Int} {l : List Int} (h : Dg B l) (h0 : 0 ≤ d ∧ d < B) (i : Nat) : Dg B (l.set i d) := by
 intro x hx
 rcases List.mem_or_eq_of_mem_set hx with h1 | h1
 ·exact h x h1
 ·rw [h1]; exact h0
theorem af9 {B : Int} (hB : 0 < B) (n : Nat) : Dg B (List.replicate n 0) := by
 intro x hx
 have := (List.mem_replicate.1 hx).2
 omega
theorem ar7 (B : Int) : ∀ n, V B (List.replicate n 0) = 0
 | 0 => rfl
 | n + 1 => by simp [List.replicate_succ, V, ar7 B n]
theorem aaT {B : Int} (hB : 0 ≤ B) : ∀ {l : List Int}, Dg B l → 0 ≤ V B l
 | [], _ => Int.le_refl 0
 | d :: l, h => by
  have h1 := aaT hB (aoJ h)
  have h2 := asG h
  have := Int.mul_nonneg hB h1
  simp only [V]; omega
theorem aJK {B : Int} (hB : 0 < B) : ∀ {l : List Int}, Dg B l → V B l < B ^ l.length
 | [], _ => by simp [V]
 | d :: l, h => by
  have h1 := aJK hB (aoJ h)
  have h2 := asG h
  simp only [V, List.length_cons, Int.pow_succ]
  have h3 : B * (V B l + 1) ≤ B * B ^ l.length := Int.mul_le_mul_of_nonneg_left (by omega) (by omega)
  rw [Int.mul_comm (B ^ l.length) B]
  rw [Int.mul_add] at h3
  omega
def atV (B n : Nat) : List Int := if _h : n = 0 ∨ B < 2 then [] else ((n % B : Nat) : Int) :: atV B (n / B)
termination_by n
decreasing_by exact Nat.div_lt_self (by omega) (by omega)
theorem ac2 (B : Nat) : atV B 0 = [] := by rw [atV]; simp
theorem ah3 {B n : Nat} (hB : 2 ≤ B) (hn : n ≠ 0) : atV B n = ((n % B : Nat) : Int) :: atV B (n / B) := by
 rw [atV, dif_neg (by omega)]
theorem aEj {B : Nat} (hB : 2 ≤ B) (n : Nat) : V B (atV B n) = n := by
 induction n using Nat.strongRecOn with
 | _ n ih =>
  by_cases hn : n = 0
  ·subst hn; rw [ac2]; rfl
  ·rw [ah3 hB hn]
   simp only [V]
   rw [ih (n / B) (Nat.div_lt_self (by omega) (by omega))]
   have := Nat.mod_add_div n B
   have h2 : ((n % B : Nat) : Int) + (B : Int) * ((n / B : Nat) : Int) = ((n % B + B * (n / B) : Nat) : Int) := by simp
   rw [h2, this]
theorem aF3 {B : Nat} (hB : 2 ≤ B) (n : Nat) : Dg B (atV B n) := by
 induction n using Nat.strongRecOn with
 | _ n ih =>
  by_cases hn : n = 0
  ·subst hn; rw [ac2]; exact atM _
  ·rw [ah3 hB hn]
   refine aCe ⟨by omega, ?_⟩ (ih (n / B) (Nat.div_lt_self (by omega) (by omega)))
   have := Nat.mod_lt n (show 0 < B by omega)
   omega
theorem an6 {B : Nat} (hB : 2 ≤ B) {n : Nat} (hn : n ≠ 0) : atV B n ≠ [] := by rw [ah3 hB hn]; simp
theorem atN : Cn [] := by simp [Cn]
theorem aGz {d : Int} {l : List Int} : Cn (d :: l) ↔ (if l = [] then d ≠ 0 else Cn l) := by
 cases l with
 | nil => simp [Cn]
 | cons e l => simp [Cn, List.getLast?_cons_cons]
theorem aMr {B : Nat} (hB : 2 ≤ B) (n : Nat) : Cn (atV B n) := by
 induction n using Nat.strongRecOn with
 | _ n ih =>
  by_cases hn : n = 0
  ·subst hn; rw [ac2]; exact atN
  ·rw [ah3 hB hn, aGz]
   split
   ·rename_i h
    by_cases h2 : n / B = 0
    ·have := Nat.mod_add_div n B
     rw [h2, Nat.mul_zero] at this
     omega
    ·exact absurd h (an6 hB h2)
   ·exact ih (n / B) (Nat.div_lt_self (by omega) (by omega))
theorem aEi {B : Int} (hB : 0 < B) : ∀ {l : List Int}, Dg B l → Cn l → V B l = 0 → l = []
 | [], _, _, _ => rfl
 | d :: l, hd, hc, h => by
  have h1 := aaT (by omega) (aoJ hd)
  have h2 := asG hd
  simp only [V] at h
  have h3 := Int.mul_nonneg (show 0 ≤ B by omega) h1
  have h4 : B * V B l = 0 := by omega
  have h5 : V B l = 0 := by
   rcases Int.mul_eq_zero.1 h4 with h | h
   ·omega
   ·exact h
  rw [aGz] at hc
  split at hc
  ·omega
  ·rename_i hl; exact absurd (aEi hB (aoJ hd) hc h5) hl
theorem awG {B : Nat} (hB : 2 ≤ B) : ∀ {l : List Int} {n : Nat}, Dg B l → Cn l → V B l = n → l = atV B n
 | [], n, _, _, h => by
  have : n = 0 := by simp [V] at h; omega
  subst this; rw [ac2]
 | d :: l, n, hd, hc, h => by
  have h1 := aaT (by omega) (aoJ hd)
  have h2 := asG hd
  have hn : n ≠ 0 := by
   intro h0
   have := aEi (by omega) hd hc (by rw [h, h0]; rfl)
   cases this
  rw [ah3 hB hn]
  simp only [V] at h
  obtain ⟨v, hv⟩ := Int.eq_ofNat_of_zero_le h1
  obtain ⟨e, he⟩ := Int.eq_ofNat_of_zero_le h2.1
  rw [hv, he] at h
  have h3 : e + B * v = n := by
   have : ((e + B * v : Nat) : Int) = (n : Int) := by simpa using h
   exact Int.ofNat.inj this
  have h4 : e < B := by omega
  have h5 : n % B = e := by rw [← h3, Nat.add_mul_mod_self_left, Nat.mod_eq_of_lt h4]
  have h6 : n / B = v := by rw [← h3, Nat.add_mul_div_left _ _ (by omega), Nat.div_eq_of_lt h4, Nat.zero_add]
  rw [h5, h6, he]
  congr 1
  refine awG hB (aoJ hd) ?_ hv
  rw [aGz] at hc
  split at hc
  ·rename_i hl; rw [hl]; exact atN
  ·exact hc
theorem af7 {B : Nat} (hB : 2 ≤ B) : ∀ {k n : Nat}, n < B ^ k → (atV B n).length ≤ k
 | 0, n, h => by
  have : n = 0 := by simpa using h
  subst this; rw [ac2]; simp
 | k + 1, n, h => by
  by_cases hn : n = 0
  ·subst hn; rw [ac2]; simp
  ·rw [ah3 hB hn, List.length_cons]
   have := af7 (k := k) hB (n := n / B) (by rw [Nat.div_lt_iff_lt_mul (by omega)]; rw [Nat.pow_succ] at h; exact h)
   omega
theorem avR {B : Nat} (hB : 2 ≤ B) (n : Nat) : n < B ^ (atV B n).length := by
 have h := aJK (B := B) (by omega) (aF3 hB n)
 rw [aEj hB] at h
 have : ((B : Int) ^ (atV B n).length) = ((B ^ (atV B n).length : Nat) : Int) := by simp
 rw [this] at h
 omega
theorem avC {B : Nat} (hB : 2 ≤ B) {n : Nat} (hn : n ≠ 0) : B ^ ((atV B n).length - 1) ≤ n := by
 rcases Nat.lt_or_ge n (B ^ ((atV B n).length - 1)) with h | h
 ·have := af7 hB h
  have h2 : (atV B n).length ≠ 0 := by
   intro h3; exact an6 hB hn (List.length_eq_zero_iff.1 h3)
  omega
 ·exact h
theorem aHl {B : Nat} (hB : 2 ≤ B) {m n : Nat} (h : atV B m = atV B n) : m = n := by
 have h1 := aEj hB m
 have h2 := aEj hB n
 rw [h] at h1
 omega
theorem aAc {B : Nat} (hB : 2 ≤ B) {d : Nat} (h0 : d ≠ 0) (h1 : d < B) : atV B d = [(d : Int)] := by
 rw [ah3 hB h0, Nat.mod_eq_of_lt h1, Nat.div_eq_of_lt h1, ac2]
noncomputable def acZ {α A R : Type} (enc : α → A) (pre : α → Prop) (f : α → R) (x : A) : Option R :=
 open Classical in if h : ∃ a, pre a ∧ enc a = x then some (f h.choose) else none
theorem aaI {α A R : Type} {enc : α → A} {pre : α → Prop} {f : α → R} (a : α) (h : pre a) (hinj : ∀ b, enc b = enc a → b = a) : acZ enc pre f (enc a) = some (f a) := by
 have hex : ∃ b, pre b ∧ enc b = enc a := ⟨a, h, rfl⟩
 unfold acZ
 rw [dif_pos hex, hinj _ hex.choose_spec.2]
theorem aaD {α A R : Type} {enc : α → A} {pre : α → Prop} {f : α → R} {x : A} {y : R} (h : acZ enc pre f x = some y) : ∃ a, pre a ∧ x = enc a ∧ y = f a := by
 unfold acZ at h
 split at h
 ·rename_i hex
  injection h with h
  exact ⟨_, hex.choose_spec.1, hex.choose_spec.2.symm, h.symm⟩
 ·cases h
theorem aaC {α : Type} (l : List α) : len l = (l.length : Int) := rfl
theorem aRH {α : Type} {l : List α} {i : Int} {d : α} {k : Nat} (h : i = k) (hk : k < l.length) : gi l i d = l[k] := by
 subst h; unfold gi; simp [hk]
theorem uT {α : Type} {b : Bool} {x y : TT α} {r : Option α} (h : b = true) (hx : x.toO = r) : (TT.ite b x y).toO = r := by subst h; exact hx
theorem uF {α : Type} {b : Bool} {x y : TT α} {r : Option α} (h : b = false) (hy : y.toO = r) : (TT.ite b x y).toO = r := by subst h; exact hy
theorem uN {α : Type} {p : Prop} {x : TT α} {r : Option α} (h : p) (hx : x.toO = r) : (TT.need p x).toO = r := by rw [aNC _ _ h]; exact hx
theorem uV {α : Type} {p : Prop} {h : p} {x : TT α} {r : Option α} (hx : x.toO = r) : (TT.triv p h x).toO = r := hx
theorem uB {α β : Type} {b : β} {x : β → TT α} {r : Option α} (hx : (x b).toO = r) : (TT.lt b x).toO = r := hx
theorem uC {α β : Type} {o : Option β} {d : β} {x : β → TT α} {r : Option α} (y : β) (h : o = some y) (hx : (x y).toO = r) : (TT.call o d x).toO = r := by subst h; exact hx
theorem uO {α ι : Type} {t : Nat} {H : TT ι} {R : ι → TT (ι ⊕ α)} {r : Option α} (i : ι) (h : H.toO = some i) (hx : ac1 (fun i => (R i).toO) i = r) : (TT.loop t H R).toO = r := by rw [aNE h]; exact hx
theorem uL {α ι : Type} {t : Nat} {H : TT (ι ⊕ α)} {R : ι → TT α} {r : Option α} (i : ι) (h : H.toO = some (.inl i)) (hx : (R i).toO = r) : (TT.join t H R).toO = r := by rw [aKe h]; exact hx
theorem uR {α ι : Type} {t : Nat} {H : TT (ι ⊕ α)} {R : ι → TT α} (a : α) (h : H.toO = some (.inr a)) : (TT.join t H R).toO = some a := by rw [aKd h]
def aa2 (n : Nat) : List UInt8 := Lib.decDigits n
def dec (z : Int) : List UInt8 := if z < 0 then 45 :: aa2 z.natAbs else aa2 z.natAbs
def isD (s : List UInt8) : Prop := ∀ c ∈ s, 48 ≤ c.toNat ∧ c.toNat ≤ 57
def dv (c : UInt8) : Nat := c.toNat - 48
def ax5 (a : Nat) (s : List UInt8) : Nat := s.foldl (fun a c => a * 10 + dv c) a
def num (s : List UInt8) : Nat := ax5 0 s
def mag (n : Nat) : List Int := atV 1000000000 n
def atF (a b : Int) : Int := if a < b then -1 else if a = b then 0 else 1
theorem agO (n : Nat) : Dg 1000000000 (mag n) := aF3 (B := 1000000000) (by omega) n
theorem aQ1 (n : Nat) : Cn (mag n) := aMr (B := 1000000000) (by omega) n
theorem alT (n : Nat) : V 1000000000 (mag n) = n := aEj (B := 1000000000) (by omega) n
theorem adI {m n : Nat} (h : mag m = mag n) : m = n := aHl (B := 1000000000) (by omega) h
theorem ao7 {l : List Int} {n : Nat} (h1 : Dg 1000000000 l) (h2 : Cn l) (h3 : V 1000000000 l = n) : l = mag n := awG (B := 1000000000) (by omega) h1 h2 h3
noncomputable def aAq (x : Int × Unit) : Option (List UInt8 × Unit) := if -9223372036854775808 ≤ x.1 ∧ x.1 ≤ 9223372036854775807 then some (dec x.1, ()) else none
noncomputable def aHv (x : List UInt8 × Int × Unit) : Option (List UInt8 × Unit) := if 0 ≤ x.2.1 ∧ x.2.1 ≤ 100000 ∧ x.1.length ≤ 1000 then some ((List.replicate x.2.1.toNat x.1).flatten, ()) else none
noncomputable def ac4 (x : List Int × Unit) : Option (Bool × Unit) := some (len x.1 == 0, ())
open Classical in
noncomputable def acF (x : List Int × Unit) : Option (List Int × Unit) := if Dg 1000000000 x.1 ∧ x.1.length ≤ 2000000000000 then some (mag (V 1000000000 x.1).toNat, ()) else none
noncomputable def amZ : List Int × Unit → Option (Int × Unit) := acZ (fun n : Nat => (mag n, ())) (fun n => n < 1000000000000000000) (fun n => ((n : Int), ()))
noncomputable def adM : List Int × List Int × Unit → Option (Int × Unit) := acZ (fun p : Nat × Nat => (mag p.1, mag p.2, ())) (fun p => (mag p.1).length ≤ 1000000000000 ∧ (mag p.2).length ≤ 1000000000000) (fun p => (atF p.1 p.2, ()))
noncomputable def alX : List Int × List Int × Unit → Option (List Int × Unit) := acZ (fun p : Nat × Nat => (mag p.1, mag p.2, ())) (fun p => (mag p.1).length ≤ 1000000000000 ∧ (mag p.2).length ≤ 1000000000000) (fun p => (mag (p.1 + p.2), ()))
noncomputable def ajH : List Int × List Int × Unit → Option (List Int × Unit) := acZ (fun p : Nat × Nat => (mag p.1, mag p.2, ())) (fun p => (mag p.1).length ≤ 1000000000000 ∧ p.2 ≤ p.1) (fun p => (mag (p.1 - p.2), ()))
noncomputable def acC : List Int × List Int × Unit → Option (List Int × Unit) := acZ (fun p : Nat × Nat => (mag p.1, mag p.2, ())) (fun p => (mag p.1).length ≤ 1000000000000 ∧ (mag p.2).length ≤ 1000000000000) (fun p => (mag (p.1 * p.2), ()))
noncomputable def ajG : List Int × Int × Unit → Option (List Int × Int × Unit) := acZ (fun p : Nat × Nat => (mag p.1, (p.2 : Int), ())) (fun p => (mag p.1).length ≤ 1000000000000 ∧ 0 < p.2 ∧ p.2 < 4294967296) (fun p => (mag (p.1 / p.2), ((p.1 % p.2 : Nat) : Int), ()))
noncomputable def abM (x : Int × Unit) : Option (List Int × Unit) := if 0 ≤ x.1 ∧ x.1 < 18446744073709551616 then some (mag x.1.toNat, ()) else none
open Classical in
noncomputable def agZ (x : List UInt8 × Unit) : Option (List Int × Unit) := if isD x.1 ∧ x.1 ≠ [] ∧ x.1.length ≤ 1000000000000 then some (mag (num x.1), ()) else none
noncomputable def ahP : List Int × Unit → Option (Int × Unit) := acZ (fun n : Nat => (mag n, ())) (fun n => (mag n).length ≤ 1000000000000) (fun n => (((aa2 n).length : Int), ()))
noncomputable def ahQ : List Int × Unit → Option (List UInt8 × Unit) := acZ (fun n : Nat => (mag n, ())) (fun n => (mag n).length ≤ 1000000) (fun n => (aa2 n, ()))
noncomputable def abC : List Int × List Int × Unit → Option (List Int × List Int × Unit) := acZ (fun p : Nat × Nat => (mag p.1, mag p.2, ())) (fun p => (mag p.1).length ≤ 100000000000 ∧ (mag p.2).length ≤ 100000000000 ∧ p.2 ≠ 0) (fun p => (mag (p.1 / p.2), mag (p.1 % p.2), ()))
noncomputable def agV : List Int × List Int × Unit → Option (List Int × Unit) := acZ (fun p : Nat × Nat => (mag p.1, mag p.2, ())) (fun p => (mag p.1).length ≤ 100000000000 ∧ (mag p.2).length ≤ 100000000000) (fun p => (mag (Nat.gcd p.1 p.2), ()))
noncomputable def ahL (x : List Int × Unit) : Option (Bool × Unit) := some (len x.1 == 0, ())
open Classical in
noncomputable def aNa (x : List Int × Unit) : Option (List Int × Unit) := if Dg 1000000000 x.1 ∧ x.1.length ≤ 2000000000000 then some (mag (V 1000000000 x.1).toNat, ()) else none
noncomputable def alU : List Int × List Int × Unit → Option (Int × Unit) := acZ (fun p : Nat × Nat => (mag p.1, mag p.2, ())) (fun p => (mag p.1).length ≤ 1000000000000 ∧ (mag p.2).length ≤ 1000000000000) (fun p => (atF p.1 p.2, ()))
noncomputable def ap2 : List Int × List Int × Unit → Option (List Int × Unit) := acZ (fun p : Nat × Nat => (mag p.1, mag p.2, ())) (fun p => (mag p.1).length ≤ 1000000000000 ∧ (mag p.2).length ≤ 1000000000000) (fun p => (mag (p.1 + p.2), ()))
noncomputable def ar9 : List Int × List Int × Unit → Option (List Int × Unit) := acZ (fun p : Nat × Nat => (mag p.1, mag p.2, ())) (fun p => (mag p.1).length ≤ 1000000000000 ∧ p.2 ≤ p.1) (fun p => (mag (p.1 - p.2), ()))
noncomputable def ai8 : List Int × List Int × Unit → Option (List Int × Unit) := acZ (fun p : Nat × Nat => (mag p.1, mag p.2, ())) (fun p => (mag p.1).length ≤ 1000000000000 ∧ (mag p.2).length ≤ 1000000000000) (fun p => (mag (p.1 * p.2), ()))
noncomputable def ar8 : List Int × Int × Unit → Option (List Int × Int × Unit) := acZ (fun p : Nat × Nat => (mag p.1, (p.2 : Int), ())) (fun p => (mag p.1).length ≤ 1000000000000 ∧ 0 < p.2 ∧ p.2 < 4294967296) (fun p => (mag (p.1 / p.2), ((p.1 % p.2 : Nat) : Int), ()))
noncomputable def agU (x : Int × Unit) : Option (List Int × Unit) := if 0 ≤ x.1 ∧ x.1 < 18446744073709551616 then some (mag x.1.toNat, ()) else none
open Classical in
noncomputable def ajA (x : List UInt8 × Unit) : Option (List Int × Unit) := if isD x.1 ∧ x.1 ≠ [] ∧ x.1.length ≤ 1000000000000 then some (mag (num x.1), ()) else none
noncomputable def akH : List Int × Unit → Option (Int × Unit) := acZ (fun n : Nat => (mag n, ())) (fun n => (mag n).length ≤ 1000000000000) (fun n => (((aa2 n).length : Int), ()))
noncomputable def akJ : List Int × Unit → Option (List UInt8 × Unit) := acZ (fun n : Nat => (mag n, ())) (fun n => (mag n).length ≤ 1000000) (fun n => (aa2 n, ()))
noncomputable def akI : List Int × List Int × Unit → Option (List Int × List Int × Unit) := acZ (fun p : Nat × Nat => (mag p.1, mag p.2, ())) (fun p => (mag p.1).length ≤ 100000000000 ∧ (mag p.2).length ≤ 100000000000 ∧ p.2 ≠ 0) (fun p => (mag (p.1 / p.2), mag (p.1 % p.2), ()))
theorem aE9 {B : Int} (hB : 0 < B) {i j : Nat} (h : i ≤ j) : B ^ i ≤ B ^ j := by
 obtain ⟨k, rfl⟩ := Nat.exists_eq_add_of_le h
 rw [Int.pow_add]
 have h1 : 1 ≤ B ^ k := Int.pow_pos hB
 have h2 : 0 < B ^ i := Int.pow_pos hB
 have := Int.mul_le_mul_of_nonneg_left h1 (Int.le_of_lt h2)
 omega
theorem aaM {α : Type} (l : List α) (k : Nat) (d : α) : gi l (k : Int) d = l.getD k d := by unfold gi; rw [Int.toNat_natCast]
theorem aiK {l : List Int} {k : Nat} (h : k < l.length) (d : Int) : l.getD k d = l[k] := by simp [h]
theorem ahD {l : List Int} {k : Nat} (h : l.length ≤ k) (d : Int) : l.getD k d = d := by simp [h]
theorem aa3 {B : Int} (hB : 0 < B) {l : List Int} (h : Dg B l) (k : Nat) : 0 ≤ l.getD k 0 ∧ l.getD k 0 < B := by
 rcases Nat.lt_or_ge k l.length with hk | hk
 ·rw [aiK hk]; exact aEu h hk
 ·rw [ahD hk]; omega
theorem aa5 (B : Int) (l : List Int) (k : Nat) : V B (l.take (k + 1)) = V B (l.take k) + B ^ k * l.getD k 0 := by
 rcases Nat.lt_or_ge k l.length with hk | hk
 ·rw [aiK hk]; exact akG B hk
 ·rw [ahD hk, List.take_of_length_le (by omega), List.take_of_length_le hk]; omega
theorem aaU (B : Int) (l : List Int) (k : Nat) : V B (l.drop k) = l.getD k 0 + B * V B (l.drop (k + 1)) := by
 rcases Nat.lt_or_ge k l.length with hk | hk
 ·rw [aiK hk]; exact aM9 B hk
 ·rw [ahD hk, List.drop_of_length_le hk, List.drop_of_length_le (by omega)]; simp [V]
theorem acT (B : Int) {l : List Int} {k : Nat} (h : l.length ≤ k) : V B (l.drop k) = 0 := by rw [List.drop_of_length_le h]; rfl
theorem abE (B : Int) {l : List Int} {k : Nat} (h : l.length ≤ k) : V B (l.take k) = V B l := by rw [List.take_of_length_le h]
theorem ab6 (B : Int) (l : List Int) (k : Nat) : V B l = V B (l.take k) + B ^ k * V B (l.drop k) := by
 rcases Nat.lt_or_ge k l.length with hk | hk
 ·exact aQA B l k (by omega)
 ·rw [acT B hk, abE B hk]; omega
theorem ac3 {B : Int} (hB : 0 < B) {l : List Int} (h : Dg B l) (k : Nat) : V B (l.take k) < B ^ k := by
 rcases Nat.lt_or_ge k l.length with hk | hk
 ·have := aJK hB (ab5 h k)
  rwa [List.length_take, Nat.min_eq_left (by omega)] at this
 ·rw [abE B hk]
  have h1 := aJK hB h
  have h2 : B ^ l.length ≤ B ^ k := aE9 hB hk
  omega
theorem aM8 {B : Int} (hB : 1 ≤ B) {l : List Int} (h : Dg B l) (k : Nat) : V B (l.drop k) ≤ V B l := by
 have h1 := ab6 B l k
 have h2 := aaT (by omega) (ab5 h k)
 have h3 := aaT (by omega) (acK h k)
 have h4 : 1 * V B (l.drop k) ≤ B ^ k * V B (l.drop k) := Int.mul_le_mul_of_nonneg_right (Int.pow_pos (by omega)) h3
 omega
theorem aA4 {B : Int} (hB : 1 ≤ B) (k : Nat) : 1 ≤ B ^ k := Int.pow_pos (by omega)
theorem aAJ (l : List Int) (k : Nat) (x : Int) : (l.set k x).take k = l.take k := by
 rw [List.take_set_of_le (Nat.le_refl k)]
theorem aJJ (B : Int) {l : List Int} {k : Nat} (hk : k < l.length) (x : Int) : V B ((l.set k x).take (k + 1)) = V B (l.take k) + B ^ k * x := by
 rw [aa5, aAJ, aiK (by simpa using hk)]
 simp
theorem ahG (l : List Int) {k j : Nat} (h : k < j) (x : Int) : (l.set k x).drop j = l.drop j := by
 rw [List.drop_set_of_lt h]
theorem axF (B : Int) : ∀ {l : List Int} {k : Nat}, k < l.length → ∀ x, V B (l.set k x) = V B l + B ^ k * (x - l.getD k 0)
 | [], k, h, _ => by simp at h
 | d :: l, 0, _, x => by simp [V]; omega
 | d :: l, k + 1, h, x => by
  simp only [List.set_cons_succ, V, List.getD_cons_succ]
  rw [axF B (by simpa using h) x, Int.pow_succ]
  grind
theorem anW (l : List Int) {k j : Nat} (h : k ≠ j) (x : Int) : (l.set k x).getD j 0 = l.getD j 0 := by
 simp [List.getD_eq_getElem?_getD, List.getElem?_set_ne h]
theorem anX {l : List Int} {k : Nat} (h : k < l.length) (x : Int) : (l.set k x).getD k 0 = x := by
 simp [List.getD_eq_getElem?_getD, h]
theorem alH {B : Int} (hB : 1 < B) {l : List Int} (h : Dg B l) {k : Nat} (hv : V B l < B ^ k) : ∀ j, k ≤ j → l.getD j 0 = 0 := by
 intro j hj
 have h1 := ab6 B l j
 have h2 := aaT (by omega) (ab5 h j)
 have h3 := aaT (by omega) (acK h j)
 have h4 := aaU B l j
 have h5 := aaT (by omega) (acK h (j + 1))
 have h6 := aa3 (by omega) h j
 have h7 : B ^ k ≤ B ^ j := aE9 (by omega) hj
 have h8 := Int.mul_nonneg (show 0 ≤ B by omega) h5
 rcases Int.lt_or_le 0 (V B (l.drop j)) with h9 | h9
 ·have : B ^ j * 1 ≤ B ^ j * V B (l.drop j) := Int.mul_le_mul_of_nonneg_left (by omega) (by have := aA4 (show 1 ≤ B by omega) j; omega)
  omega
 ·omega
theorem aHH {B : Int} (hB : 0 < B) {l : List Int} (h : Dg B l) (hv : l = [] ∨ B ^ (l.length - 1) ≤ V B l) : Cn l := by
 rcases hv with rfl | hv
 ·exact atN
 ·rcases Nat.eq_zero_or_pos l.length with hl | hl
  ·rw [List.length_eq_zero_iff.1 hl]; exact atN
  ·unfold Cn
   rw [List.getLast?_eq_getElem?, List.getElem?_eq_getElem (by omega)]
   intro h0
   injection h0 with h0
   have h1 := akG B (l := l) (i := l.length - 1) (by omega)
   rw [h0, show l.length - 1 + 1 = l.length by omega, List.take_length] at h1
   have h2 := ac3 hB h (l.length - 1)
   omega
theorem mag_length_le_iff {n k : Nat} : (mag n).length ≤ k ↔ n < 1000000000 ^ k := by
 constructor
 ·intro h
  have h1 := avR (B := 1000000000) (by omega) n
  exact Nat.lt_of_lt_of_le h1 (Nat.pow_le_pow_right (by omega) h)
 ·intro h
  exact af7 (by omega) h
theorem abQ {m n : Nat} (h : m ≤ n) : (mag m).length ≤ (mag n).length := by
 rw [mag_length_le_iff]
 exact Nat.lt_of_le_of_lt h (mag_length_le_iff.1 (Nat.le_refl _))
theorem aiI (m n : Nat) : (mag (m + n)).length ≤ max (mag m).length (mag n).length + 1 := by
 rw [mag_length_le_iff]
 have h1 := mag_length_le_iff.1 (Nat.le_max_left (mag m).length (mag n).length)
 have h2 := mag_length_le_iff.1 (Nat.le_max_right (mag m).length (mag n).length)
 rw [Nat.pow_succ]
 have := Nat.mul_le_mul_left (1000000000 ^ max (mag m).length (mag n).length) (show 2 ≤ 1000000000 by omega)
 omega
theorem af5 (m n : Nat) : (mag (m * n)).length ≤ (mag m).length + (mag n).length := by
 rw [mag_length_le_iff, Nat.pow_add]
 have h1 := mag_length_le_iff.1 (Nat.le_refl (mag m).length)
 have h2 := mag_length_le_iff.1 (Nat.le_refl (mag n).length)
 exact Nat.mul_lt_mul'' h1 h2
theorem mag_zero : mag 0 = [] := ac2 _
theorem mag_nil_iff {n : Nat} : mag n = [] ↔ n = 0 := by
 constructor
 ·intro h
  exact adI (h.trans mag_zero.symm)
 ·rintro rfl; exact mag_zero
theorem ao8 {d : Nat} (h0 : d ≠ 0) (h1 : d < 1000000000) : mag d = [(d : Int)] := aAc (by omega) h0 h1
theorem anG {m n : Nat} (h : (mag m).length < (mag n).length) : m < n := by
 have h1 := mag_length_le_iff.1 (Nat.le_refl (mag m).length)
 rcases Nat.lt_or_ge m n with h2 | h2
 ·exact h2
 ·have := abQ h2; omega
theorem ac9 {p q : Nat × Nat} (h : (mag p.1, mag p.2, ()) = (mag q.1, mag q.2, ())) : p = q := by
 injection h with h1 h2
 injection h2 with h2 _
 exact Prod.ext (adI h1) (adI h2)
theorem abG {n : Nat} (h : n < 10) : aa2 n = [UInt8.ofNat (48 + n)] := by unfold aa2; rw [Lib.decDigits, dif_pos h]
theorem ae5 {n : Nat} (h : 10 ≤ n) : aa2 n = aa2 (n / 10) ++ [UInt8.ofNat (48 + n % 10)] := by
 unfold aa2; conv => lhs; rw [Lib.decDigits, dif_neg (by omega)]
theorem aeO (n : Nat) : aa2 n ≠ [] := by
 rcases Nat.lt_or_ge n 10 with h | h
 ·rw [abG h]; simp
 ·rw [ae5 h]; simp
theorem aEN {α : Type} {P : List α → Prop} (nil : P []) (snoc : ∀ l a, P l → P (l ++ [a])) (l : List α) : P l := by
 have H : ∀ m : List α, P m.reverse := by
  intro m
  induction m with
  | nil => exact nil
  | cons a m ih => rw [List.reverse_cons]; exact snoc _ _ ih
 have := H l.reverse
 rwa [List.reverse_reverse] at this
theorem auD {d : Nat} (h : d < 10) : (UInt8.ofNat (48 + d)).toNat = 48 + d := by simp [UInt8.toNat_ofNat]; omega
theorem isD_append {s t : List UInt8} : isD (s ++ t) ↔ isD s ∧ isD t := by
 constructor
 ·intro h
  exact ⟨fun c hc => h c (List.mem_append_left _ hc), fun c hc => h c (List.mem_append_right _ hc)⟩
 ·rintro ⟨h1, h2⟩ c hc
  rcases List.mem_append.1 hc with h | h
  ·exact h1 c h
  ·exact h2 c h
theorem aLP {d : Nat} (h : d < 10) : isD [UInt8.ofNat (48 + d)] := by
 intro c hc
 have := List.mem_singleton.1 hc
 subst this
 rw [auD h]; omega
theorem agE (a : Nat) (c : UInt8) (s : List UInt8) : ax5 a (c :: s) = ax5 (a * 10 + dv c) s := List.foldl_cons ..
theorem aFt (s t : List UInt8) (a : Nat) : ax5 a (s ++ t) = ax5 (ax5 a s) t := List.foldl_append ..
theorem aOo (s : List UInt8) : ∀ a : Nat, ax5 a s = a * 10 ^ s.length + ax5 0 s := by
 induction s with
 | nil => intro a; simp [ax5]
 | cons c s ih =>
  intro a
  rw [agE, agE, Nat.zero_mul, Nat.zero_add]
  generalize dv c = x
  rw [ih (a * 10 + x), ih x, List.length_cons, Nat.pow_succ]
  generalize 10 ^ s.length = y
  rw [Nat.add_mul, Nat.mul_comm y 10, Nat.mul_assoc, Nat.add_assoc]
theorem aAb {d : Nat} (h : d < 10) : dv (UInt8.ofNat (48 + d)) = d := by unfold dv; rw [auD h]; omega
theorem aLr (s : List UInt8) (a : Nat) : ax5 a s = a * 10 ^ s.length + num s := aOo s a
theorem amF (s t : List UInt8) : num (s ++ t) = num s * 10 ^ t.length + num t := by
 show ax5 0 (s ++ t) = _
 rw [aFt, aLr]
 rfl
theorem aP2 {d : Nat} (h : d < 10) : num [UInt8.ofNat (48 + d)] = d := by
 show ax5 0 [_] = d
 rw [agE, aAb h]; simp [ax5]
theorem amD (s : List UInt8) (c : UInt8) : num (s ++ [c]) = num s * 10 + dv c := by
 rw [amF]; simp [num, ax5]
theorem aDh {s : List UInt8} : isD s → num s < 10 ^ s.length := by
 induction s using aEN with
 | nil => intro _; simp [num, ax5]
 | snoc s c ih =>
  intro h
  rw [isD_append] at h
  have h1 := ih h.1
  have h2 := h.2 c (by simp)
  have h3 : dv c = c.toNat - 48 := rfl
  rw [amD, List.length_append, List.length_singleton, Nat.pow_succ]
  omega
theorem aj8 (n : Nat) : isD (aa2 n) := by
 induction n using Nat.strongRecOn with
 | _ n ih =>
  rcases Nat.lt_or_ge n 10 with h | h
  ·rw [abG h]; exact aLP h
  ·rw [ae5 h, isD_append]
   exact ⟨ih (n / 10) (by omega), aLP (by omega)⟩
theorem amE (n : Nat) : num (aa2 n) = n := by
 induction n using Nat.strongRecOn with
 | _ n ih =>
  rcases Nat.lt_or_ge n 10 with h | h
  ·rw [abG h, aP2 h]
  ·rw [ae5 h, amD, ih (n / 10) (by omega), aAb (by omega)]
   omega
theorem ah4 {m n : Nat} (h : aa2 m = aa2 n) : m = n := by rw [← amE m, ← amE n, h]
theorem afM (n : Nat) : n < 10 ^ (aa2 n).length := by
 have := aDh (aj8 n)
 rwa [amE] at this
theorem acI : ∀ {k n : Nat}, n < 10 ^ (k + 1) → (aa2 n).length ≤ k + 1
 | 0, n, h => by rw [abG (by simpa using h)]; simp
 | k + 1, n, h => by
  rcases Nat.lt_or_ge n 10 with h9 | h9
  ·rw [abG h9]; simp
  ·have := acI (k := k) (n := n / 10) (by rw [Nat.div_lt_iff_lt_mul (by omega)]; rw [Nat.pow_succ] at h; exact h)
   rw [ae5 h9]; simp; omega
theorem ahI (n : Nat) : 1 ≤ (aa2 n).length := List.length_pos_iff.2 (aeO n)
theorem abD {k n : Nat} (hk : 1 ≤ k) : (aa2 n).length ≤ k ↔ n < 10 ^ k := by
 constructor
 ·intro h
  exact Nat.lt_of_lt_of_le (afM n) (Nat.pow_le_pow_right (by omega) h)
 ·intro h
  obtain ⟨j, rfl⟩ : ∃ j, k = j + 1 := ⟨k - 1, by omega⟩
  exact acI h
theorem anE {k n : Nat} (h1 : 10 ^ k ≤ n) (h2 : n < 10 ^ (k + 1)) : (aa2 n).length = k + 1 := by
 have h3 := acI h2
 rcases Nat.lt_or_ge k (aa2 n).length with h | h
 ·omega
 ·have := afM n
  have h4 := Nat.pow_le_pow_right (n := 10) (by omega) h
  omega
theorem aE8 {n : Nat} (hn : n ≠ 0) : 10 ^ ((aa2 n).length - 1) ≤ n := by
 rcases Nat.lt_or_ge n (10 ^ ((aa2 n).length - 1)) with h | h
 ·have h1 := ahI n
  rcases Nat.lt_or_ge 1 (aa2 n).length with h2 | h2
  ·have := (abD (k := (aa2 n).length - 1) (by omega)).2 h
   omega
  ·have : (aa2 n).length - 1 = 0 := by omega
   rw [this] at h; simp at h; omega
 ·exact h
theorem aDW {s : List UInt8} : isD s → s ≠ [] → (s.head? ≠ some 48 ∨ s.length = 1) → s = aa2 (num s) := by
 induction s using aEN with
 | nil => intro _ h; exact absurd rfl h
 | snoc s c ih =>
  intro h _ hz
  rw [isD_append] at h
  have h2 := h.2 c (by simp)
  have hdv : dv c = c.toNat - 48 := rfl
  have hc : c = UInt8.ofNat (48 + (c.toNat - 48)) := by
   rw [show 48 + (c.toNat - 48) = c.toNat by omega]; simp
  rw [amD]
  by_cases hs : s = []
  ·subst hs
   simp only [List.nil_append]
   rw [show num [] * 10 + dv c = c.toNat - 48 by simp [num, ax5, hdv], abG (by omega), ← hc]
  ·have hz' : s.head? ≠ some 48 := by
    rcases hz with h0 | h0
    ·cases s with
     | nil => exact absurd rfl hs
     | cons a s => simpa using h0
    ·have := List.length_pos_iff.2 hs
     rw [List.length_append, List.length_singleton] at h0; omega
   have h3 := ih h.1 hs (Or.inl hz')
   have h4 : 1 ≤ num s := by
    rcases Nat.eq_zero_or_pos (num s) with h0 | h0
    ·rw [h0, abG (by omega)] at h3
     rw [h3] at hz'
     simp at hz'
    ·exact h0
   rw [ae5 (n := num s * 10 + dv c) (by omega)]
   rw [show (num s * 10 + dv c) / 10 = num s by omega, show (num s * 10 + dv c) % 10 = c.toNat - 48 by omega, ← h3, ← hc]
theorem aMv {n : Nat} (h : n ≠ 0) : (aa2 n).head? ≠ some 48 := by
 induction n using Nat.strongRecOn with
 | _ n ih =>
  rcases Nat.lt_or_ge n 10 with h9 | h9
  ·rw [abG h9]
   simp only [List.head?_cons]
   intro h0
   injection h0 with h0
   have := auD h9
   rw [h0] at this
   simp at this; omega
  ·rw [ae5 h9]
   have := ih (n / 10) (by omega) (by omega)
   cases hd : aa2 (n / 10) with
   | nil => exact absurd hd (aeO _)
   | cons a l => rw [hd] at this; simpa using this
theorem ad5 (n : Nat) : dec (n : Int) = aa2 n := by unfold dec; rw [if_neg (by omega)]; simp
theorem ahH {z : Int} (h : z < 0) : dec z = 45 :: aa2 z.natAbs := by unfold dec; rw [if_pos h]
theorem acB {z : Int} (h : 0 ≤ z) : dec z = aa2 z.natAbs := by unfold dec; rw [if_neg (by omega)]
theorem adB (n : Nat) : (aa2 n).head? ≠ some 45 := by
 cases hd : aa2 n with
 | nil => simp
 | cons a l =>
  have := aj8 n a (by rw [hd]; simp)
  simp only [List.head?_cons]
  intro h
  injection h with h
  rw [h] at this
  simp at this
theorem aj7 {a b : Int} (h : dec a = dec b) : a = b := by
 rcases Int.lt_or_le a 0 with ha | ha <;> rcases Int.lt_or_le b 0 with hb | hb
 ·rw [ahH ha, ahH hb] at h
  injection h with _ h
  have := ah4 h
  omega
 ·rw [ahH ha, acB hb] at h
  have := adB b.natAbs
  rw [← h] at this
  simp at this
 ·rw [ahH hb, acB ha] at h
  have := adB a.natAbs
  rw [h] at this
  simp at this
 ·rw [acB ha, acB hb] at h
  have := ah4 h
  omega
theorem apO (z : Int) : (dec z).length ≤ (aa2 z.natAbs).length + 1 := by unfold dec; split <;> simp
theorem sd {p : Prop} (h : p := by first | omega | ((try simp only [decide_eq_true_eq, decide_eq_false_iff_not, beq_iff_eq, bne_iff_ne, beq_eq_false_iff_ne, bne_eq_false_iff_eq, Bool.not_eq_true', Bool.not_eq_false']) <;> (try simp only [aaC, inb, inc, ge_iff_le, gt_iff_lt, Int.toNat_natCast, asT, ne_eq]) <;> omega) | ((try simp only [decide_eq_true_eq, decide_eq_false_iff_not, beq_iff_eq, bne_iff_ne, beq_eq_false_iff_ne, bne_eq_false_iff_eq, Bool.not_eq_true', Bool.not_eq_false']) <;> (try simp only [aaC, inb, inc, ge_iff_le, gt_iff_lt, Int.toNat_natCast, asT, ne_eq]) <;> (simp (disch := omega) only [aaA, aaO, aa0, abN, aaM, Nat.zero_add, Int.toNat_natCast, aaC]; omega)) | fail) : p := h
theorem sn {p : Prop} (h : p := by (try simp only [aaC, inb, inc, ge_iff_le, gt_iff_lt, Int.toNat_natCast, asT, ne_eq]); omega) : p := h
def aA6 (k n : Nat) : List UInt8 := List.replicate (k - (aa2 n).length) 48 ++ aa2 n
theorem aN5 {r : Nat} (h : r < 10) : aA6 1 r = [UInt8.ofNat (48 + r)] := by
 unfold aA6; rw [abG h]; rfl
theorem aKW {k r : Nat} (hk : 1 ≤ k) : aA6 (k + 1) r = aA6 k (r / 10) ++ [UInt8.ofNat (48 + r % 10)] := by
 unfold aA6
 rcases Nat.lt_or_ge r 10 with h | h
 ·rw [abG h, Nat.div_eq_of_lt h, Nat.mod_eq_of_lt h, abG (by omega : 0 < 10)]
  obtain ⟨j, rfl⟩ : ∃ j, k = j + 1 := ⟨k - 1, by omega⟩
  have e1 : j + 1 + 1 - [UInt8.ofNat (48 + r)].length = j + 1 := by simp
  have e2 : j + 1 - [UInt8.ofNat (48 + 0)].length = j := by simp
  rw [e1, e2, List.replicate_succ']
  rfl
 ·rw [ae5 h, List.length_append, List.length_singleton, Nat.add_sub_add_right, List.append_assoc]
theorem aJi {q : Nat} (hq : q ≠ 0) : ∀ {k r : Nat}, 1 ≤ k → r < 10 ^ k → aa2 (q * 10 ^ k + r) = aa2 q ++ aA6 k r := by
 intro k
 induction k with
 | zero => intro r h; omega
 | succ k ih =>
  intro r _ hr
  have h10 : 10 ≤ q * 10 ^ (k + 1) + r := by
   have h1 : 10 ^ (k + 1) ≤ q * 10 ^ (k + 1) := Nat.le_mul_of_pos_left _ (by omega)
   have h2 : 10 ≤ 10 ^ (k + 1) := by
    have := Nat.pow_le_pow_right (show 1 ≤ 10 by omega) (show 1 ≤ k + 1 by omega)
    simpa using this
   omega
  rw [ae5 h10]
  have e1 : q * 10 ^ (k + 1) + r = 10 * (q * 10 ^ k) + r := by rw [Nat.pow_succ]; congr 1; rw [← Nat.mul_assoc, Nat.mul_comm]
  have ed : (q * 10 ^ (k + 1) + r) / 10 = q * 10 ^ k + r / 10 := by rw [e1]; omega
  have em : (q * 10 ^ (k + 1) + r) % 10 = r % 10 := by rw [e1]; omega
  rw [ed, em]
  rcases Nat.eq_zero_or_pos k with h | h
  ·subst h
   have hr' : r < 10 := by simpa using hr
   rw [Nat.div_eq_of_lt hr', Nat.mod_eq_of_lt hr', aN5 hr']
   simp
  ·have hr2 : r / 10 < 10 ^ k := by rw [Nat.div_lt_iff_lt_mul (by omega)]; rw [Nat.pow_succ] at hr; exact hr
   rw [ih h hr2, aKW h, List.append_assoc]
def aCk : List Int → List UInt8
 | [] => []
 | d :: r => match r with
  | [] => aa2 d.toNat
  | _ :: _ => aCk r ++ aA6 9 d.toNat
theorem aB0 (n : Nat) (hn : n ≠ 0) : aCk (mag n) = aa2 n := by
 induction n using Nat.strongRecOn with
 | _ n ih =>
  unfold mag
  rw [ah3 (by omega) hn]
  by_cases hq : n / 1000000000 = 0
  ·rw [hq, ac2]
   have : n < 1000000000 := by
    rcases Nat.lt_or_ge n 1000000000 with h | h
    ·exact h
    ·have := Nat.div_pos h (by omega); omega
   simp only [aCk, Int.toNat_natCast]
   rw [Nat.mod_eq_of_lt this]
  ·have h1 := ih (n / 1000000000) (Nat.div_lt_self (by omega) (by omega)) hq
   unfold mag at h1
   cases hd : atV 1000000000 (n / 1000000000) with
   | nil => exact absurd hd (an6 (by omega) hq)
   | cons e r =>
    rw [hd] at h1
    simp only [aCk, Int.toNat_natCast]
    have h2 := aJi hq (k := 9) (r := n % 1000000000) (by omega) (Nat.mod_lt _ (by omega))
    have e : n / 1000000000 * 10 ^ 9 + n % 1000000000 = n := by
     have := Nat.div_add_mod n 1000000000
     omega
    rw [e] at h2
    rw [h2, ← h1]
    rfl
theorem aEc {l : List Int} {k : Nat} (hk : k + 1 = l.length) : aCk (l.drop k) = aa2 (l[k]'(by omega)).toNat := by
 rw [List.drop_eq_getElem_cons (by omega), List.drop_eq_nil_of_le (by omega)]
 rfl
theorem aAn {l : List Int} {k : Nat} (hk : k + 1 < l.length) : aCk (l.drop k) = aCk (l.drop (k + 1)) ++ aA6 9 (l[k]'(by omega)).toNat := by
 rw [List.drop_eq_getElem_cons (by omega), List.drop_eq_getElem_cons (i := k + 1) hk]
 rfl
theorem aOV {d : Nat} (h : d < 1000000000) : (aa2 d).length ≤ 9 := acI (k := 8) h
theorem aN6 {d : Nat} (h : d < 1000000000) : (aA6 9 d).length = 9 := by
 have := aOV h
 unfold aA6; simp; omega
theorem auE : ∀ {l : List Int}, Dg 1000000000 l → (aCk l).length ≤ 9 * l.length
 | [], _ => by simp [aCk]
 | [d], h => by
  have := (asG h).2
  have := aOV (d := d.toNat) (by omega)
  simp only [aCk, List.length_singleton]; omega
 | d :: e :: r, h => by
  have h1 := auE (aoJ h)
  have := (asG h).2
  have h2 := aN6 (d := d.toNat) (by omega)
  rw [show aCk (d :: e :: r) = aCk (e :: r) ++ aA6 9 d.toNat from rfl, List.length_append]
  simp only [List.length_cons] at h1 ⊢
  omega
def Bd (k n : Nat) : Prop := (mag n).length ≤ 1000000 * 4 ^ k
theorem aaH {k j n : Nat} (h : Bd k n) (hk : k ≤ j) : Bd j n := Nat.le_trans h (Nat.mul_le_mul_left _ (Nat.pow_le_pow_right (by omega) hk))
theorem amS {k m n : Nat} (h : Bd k n) (hm : m ≤ n) : Bd k m := Nat.le_trans (abQ hm) h
theorem aaW {k m n : Nat} (h1 : Bd k m) (h2 : Bd k n) : Bd (k + 1) (m * n) := by
 have := af5 m n
 unfold Bd at *
 rw [Nat.pow_succ]
 omega
theorem aaZ {k m n : Nat} (h1 : Bd k m) (h2 : Bd k n) : Bd (k + 1) (m + n) := by
 have := aiI m n
 have h3 : 1 ≤ 4 ^ k := Nat.pow_pos (by omega)
 unfold Bd at *
 rw [Nat.pow_succ]
 omega
theorem aaS {k m : Nat} (n : Nat) (h1 : Bd k m) : Bd k (m / n) := amS h1 (Nat.div_le_self _ _)
theorem aa1 {k m : Nat} (n : Nat) (h1 : Bd k m) : Bd k (m % n) := amS h1 (Nat.mod_le _ _)
theorem aaY {k m n : Nat} (h1 : Bd k m) (h2 : Bd k n) : Bd k (Nat.gcd m n) := by
 rcases Nat.eq_zero_or_pos m with h | h
 ·subst h; rw [Nat.gcd_zero_left]; exact h2
 ·exact amS h1 (Nat.gcd_le_left _ h)
theorem aaE {k : Nat} {a b : Int} (h1 : Bd k a.natAbs) (h2 : Bd k b.natAbs) : Bd (k + 1) (a + b).natAbs := amS (aaZ h1 h2) (Int.natAbs_add_le a b)
theorem aaB {k : Nat} {a b : Int} (h1 : Bd k a.natAbs) (h2 : Bd k b.natAbs) : Bd (k + 1) (a * b).natAbs := by rw [Int.natAbs_mul]; exact aaW h1 h2
theorem aaV {k : Nat} {a : Int} (h1 : Bd k a.natAbs) : Bd k (-a).natAbs := by rw [Int.natAbs_neg]; exact h1
theorem aaP {k n : Nat} (h : Bd k n) : Bd k (n : Int).natAbs := h
theorem aaG {n : Nat} (h : n < 1000000000000000000000000000) : Bd 0 n := by
 unfold Bd
 have : (mag n).length ≤ 3 := mag_length_le_iff.2 (by omega)
 omega
theorem aiJ {n k : Nat} (h : (aa2 n).length ≤ k) : (mag n).length ≤ k := by
 rw [mag_length_le_iff]
 have h1 := afM n
 have h2 : (10 : Nat) ^ (aa2 n).length ≤ 10 ^ (9 * k) := Nat.pow_le_pow_right (by omega) (by omega)
 have h3 : (10 : Nat) ^ (9 * k) = 1000000000 ^ k := by rw [Nat.pow_mul]
 omega
theorem aiM {n k : Nat} (h : (mag n).length ≤ k) : (aa2 n).length ≤ 9 * k + 1 := by
 rw [mag_length_le_iff] at h
 have h3 : (10 : Nat) ^ (9 * k) = 1000000000 ^ k := by rw [Nat.pow_mul]
 have h4 : (10 : Nat) ^ (9 * k) ≤ 10 ^ (9 * k + 1) := Nat.pow_le_pow_right (by omega) (by omega)
 exact acI (by omega)
theorem aRh {n : Nat} (h : (aa2 n).length ≤ 1000000) : Bd 0 n := aiJ h
@[reducible] def sg (z : Int) : List Int × Bool × Unit := (mag z.natAbs, decide (z < 0), ())
theorem aoQ {a b : Int} (h : sg a = sg b) : a = b := by
 obtain ⟨h1, h2⟩ := Prod.mk.inj h
 obtain ⟨h2, -⟩ := Prod.mk.inj h2
 have := adI h1
 simp only [decide_eq_decide] at h2
 omega
@[reducible] def rt (q : Rat) : (List Int × Bool × Unit) × List Int × Unit := (sg q.num, mag q.den, ())
theorem ay5 {a b : Rat} (h : rt a = rt b) : a = b := by
 obtain ⟨h1, h2⟩ := Prod.mk.inj h
 obtain ⟨h2, -⟩ := Prod.mk.inj h2
 exact Rat.ext (aoQ h1) (adI h2)
@[reducible] def fx (q : Rat) : List UInt8 × List UInt8 × Unit := (dec q.num, aa2 q.den, ())
theorem ai1 {a b : Rat} (h : fx a = fx b) : a = b := by
 obtain ⟨h1, h2⟩ := Prod.mk.inj h
 obtain ⟨h2, -⟩ := Prod.mk.inj h2
 exact Rat.ext (aj7 h1) (ah4 h2)
def Fit (z : Int) : Prop := (aa2 z.natAbs).length ≤ 600
instance (z : Int) : Decidable (Fit z) := inferInstanceAs (Decidable (_ ≤ _))
def adE (q : Rat) : Prop := Fit q.num ∧ Fit q.den
instance (q : Rat) : Decidable (adE q) := inferInstanceAs (Decidable (_ ∧ _))
theorem apW {z : Int} (h : Fit z) : Bd 0 z.natAbs := aRh (Nat.le_trans h (by omega))
noncomputable def rdW (s : List UInt8) : Option Int := open Classical in if h : ∃ z : Int, Fit z ∧ dec z = s then some h.choose else none
theorem ak5 {z : Int} (h : Fit z) : rdW (dec z) = some z := by
 have hex : ∃ w : Int, Fit w ∧ dec w = dec z := ⟨z, h, rfl⟩
 unfold rdW
 rw [dif_pos hex, aj7 hex.choose_spec.2]
theorem aeH {s : List UInt8} {z : Int} (h : rdW s = some z) : Fit z ∧ s = dec z := by
 unfold rdW at h
 split at h
 ·rename_i hex
  injection h with h
  subst h
  exact ⟨hex.choose_spec.1, hex.choose_spec.2.symm⟩
 ·cases h
theorem aGL {s : List UInt8} (h : ∀ z : Int, Fit z → dec z ≠ s) : rdW s = none := by
 unfold rdW
 rw [dif_neg (fun ⟨z, h1, h2⟩ => h z h1 h2)]
noncomputable def rdF (s : List UInt8 × List UInt8 × Unit) : Option Rat := open Classical in if h : ∃ q : Rat, adE q ∧ fx q = s then some h.choose else none
theorem afJ {q : Rat} (h : adE q) : rdF (fx q) = some q := by
 have hex : ∃ w : Rat, adE w ∧ fx w = fx q := ⟨q, h, rfl⟩
 unfold rdF
 rw [dif_pos hex, ai1 hex.choose_spec.2]
theorem agP {s : List UInt8 × List UInt8 × Unit} {q : Rat} (h : rdF s = some q) : adE q ∧ s = fx q := by
 unfold rdF at h
 split at h
 ·rename_i hex
  injection h with h
  subst h
  exact ⟨hex.choose_spec.1, hex.choose_spec.2.symm⟩
 ·cases h
theorem aAV {s : List UInt8 × List UInt8 × Unit} (h : ∀ q : Rat, adE q → fx q ≠ s) : rdF s = none := by
 unfold rdF
 rw [dif_neg (fun ⟨z, h1, h2⟩ => h z h1 h2)]
def wrW (z : Int) : List UInt8 × Int × Unit := if Fit z then (dec z, 0, ()) else ([], 6, ())
def wrF (q : Rat) : (List UInt8 × List UInt8 × Unit) × Int × Unit := if adE q then (fx q, 0, ()) else (([], [], ()), 6, ())
def abW (x : List UInt8 × List UInt8 × Unit) : Option (List UInt8 × Bool × Unit) := some (if x.2.1.isPrefixOf x.1 then (x.1.drop x.2.1.length, true, ()) else (x.1, false, ()))
theorem aqL (n : Nat) : ac4 (mag n, ()) = some (decide (n = 0), ()) := by
 unfold ac4
 rcases Nat.eq_zero_or_pos n with h | h
 ·subst h; simp [mag_zero, len]
 ·have : (mag n) ≠ [] := fun h2 => by have := mag_nil_iff.1 h2; omega
  have h3 : (mag n).length ≠ 0 := fun h2 => this (List.length_eq_zero_iff.1 h2)
  have : (len (mag n) == 0) = false := by rw [aaC, beq_eq_false_iff_ne]; omega
  rw [this, decide_eq_false (by omega)]
theorem atL {a b : Nat} (h1 : Bd 8 a) (h2 : Bd 8 b) : adM (mag a, mag b, ()) = some (atF a b, ()) := aaI (enc := fun p : Nat × Nat => (mag p.1, mag p.2, ())) (a, b) ⟨Nat.le_trans h1 (by decide), Nat.le_trans h2 (by decide)⟩ (fun b hb => ac9 hb)
theorem aEq {a b : Nat} (h1 : Bd 8 a) (h2 : Bd 8 b) : alX (mag a, mag b, ()) = some (mag (a + b), ()) := aaI (enc := fun p : Nat × Nat => (mag p.1, mag p.2, ())) (a, b) ⟨Nat.le_trans h1 (by decide), Nat.le_trans h2 (by decide)⟩ (fun b hb => ac9 hb)
theorem aAx {a b : Nat} (h1 : Bd 8 a) (h2 : b ≤ a) : ajH (mag a, mag b, ()) = some (mag (a - b), ()) := aaI (enc := fun p : Nat × Nat => (mag p.1, mag p.2, ())) (a, b) ⟨Nat.le_trans h1 (by decide), h2⟩ (fun b hb => ac9 hb)
theorem ag0 {a b : Nat} (h1 : Bd 8 a) (h2 : Bd 8 b) : acC (mag a, mag b, ()) = some (mag (a * b), ()) := aaI (enc := fun p : Nat × Nat => (mag p.1, mag p.2, ())) (a, b) ⟨Nat.le_trans h1 (by decide), Nat.le_trans h2 (by decide)⟩ (fun b hb => ac9 hb)
theorem aCb {n : Nat} (h : n < 18446744073709551616) : abM ((n : Int), ()) = some (mag n, ()) := by
 unfold abM
 rw [if_pos (by simp only; omega)]
 simp
theorem aJS {n : Nat} (h : Bd 8 n) : agZ (aa2 n, ()) = some (mag n, ()) := by
 unfold agZ
 have hl : (aa2 n).length ≤ 1000000000000 :=  Nat.le_trans (aiM h) (by decide)
 rw [if_pos ⟨aj8 n, aeO n, hl⟩]
 simp only [amE]
theorem axW {n : Nat} (h : Bd 8 n) : ahP (mag n, ()) = some (((aa2 n).length : Int), ()) := aaI (enc := fun n : Nat => (mag n, ())) n (Nat.le_trans h (by decide)) (fun b hb => adI (Prod.mk.inj hb).1)
theorem aoH {n : Nat} (h : Bd 0 n) : ahQ (mag n, ()) = some (aa2 n, ()) := aaI (enc := fun n : Nat => (mag n, ())) n (Nat.le_trans h (by decide)) (fun b hb => adI (Prod.mk.inj hb).1)
theorem ab3 {a b : Nat} (h1 : Bd 8 a) (h2 : Bd 8 b) (h3 : b ≠ 0) : abC (mag a, mag b, ()) = some (mag (a / b), mag (a % b), ()) := aaI (enc := fun p : Nat × Nat => (mag p.1, mag p.2, ())) (a, b) ⟨Nat.le_trans h1 (by decide), Nat.le_trans h2 (by decide), h3⟩ (fun b hb => ac9 hb)
theorem am3 {a b : Nat} (h1 : Bd 8 a) (h2 : Bd 8 b) : agV (mag a, mag b, ()) = some (mag (Nat.gcd a b), ()) := aaI (enc := fun p : Nat × Nat => (mag p.1, mag p.2, ())) (a, b) ⟨Nat.le_trans h1 (by decide), Nat.le_trans h2 (by decide)⟩ (fun b hb => ac9 hb)
theorem axN (n : Nat) : ahL (mag n, ()) = some (decide (n = 0), ()) := by
 unfold ahL
 rcases Nat.eq_zero_or_pos n with h | h
 ·subst h; simp [mag_zero, len]
 ·have : (mag n) ≠ [] := fun h2 => by have := mag_nil_iff.1 h2; omega
  have h3 : (mag n).length ≠ 0 := fun h2 => this (List.length_eq_zero_iff.1 h2)
  have : (len (mag n) == 0) = false := by rw [aaC, beq_eq_false_iff_ne]; omega
  rw [this, decide_eq_false (by omega)]
theorem aEm {a b : Nat} (h1 : Bd 8 a) (h2 : Bd 8 b) : alU (mag a, mag b, ()) = some (atF a b, ()) := aaI (enc := fun p : Nat × Nat => (mag p.1, mag p.2, ())) (a, b) ⟨Nat.le_trans h1 (by decide), Nat.le_trans h2 (by decide)⟩ (fun b hb => ac9 hb)
theorem aEl {a b : Nat} (h1 : Bd 8 a) (h2 : Bd 8 b) : ap2 (mag a, mag b, ()) = some (mag (a + b), ()) := aaI (enc := fun p : Nat × Nat => (mag p.1, mag p.2, ())) (a, b) ⟨Nat.le_trans h1 (by decide), Nat.le_trans h2 (by decide)⟩ (fun b hb => ac9 hb)
theorem aJM {a b : Nat} (h1 : Bd 8 a) (h2 : b ≤ a) : ar9 (mag a, mag b, ()) = some (mag (a - b), ()) := aaI (enc := fun p : Nat × Nat => (mag p.1, mag p.2, ())) (a, b) ⟨Nat.le_trans h1 (by decide), h2⟩ (fun b hb => ac9 hb)
theorem asE {a b : Nat} (h1 : Bd 8 a) (h2 : Bd 8 b) : ai8 (mag a, mag b, ()) = some (mag (a * b), ()) := aaI (enc := fun p : Nat × Nat => (mag p.1, mag p.2, ())) (a, b) ⟨Nat.le_trans h1 (by decide), Nat.le_trans h2 (by decide)⟩ (fun b hb => ac9 hb)
theorem aJL {a d : Nat} (h1 : Bd 8 a) (h2 : 0 < d) (h3 : d < 4294967296) : ar8 (mag a, (d : Int), ()) = some (mag (a / d), ((a % d : Nat) : Int), ()) := by
 refine aaI (enc := fun p : Nat × Nat => (mag p.1, (p.2 : Int), ())) (a, d) ⟨Nat.le_trans h1 (by decide), h2, h3⟩ (fun b hb => ?_)
 obtain ⟨e1, e2⟩ := Prod.mk.inj hb
 obtain ⟨e2, -⟩ := Prod.mk.inj e2
 exact Prod.ext (adI e1) (Int.ofNat.inj e2)
theorem aB7 {n : Nat} (h : n < 18446744073709551616) : agU ((n : Int), ()) = some (mag n, ()) := by
 unfold agU
 rw [if_pos (by simp only; omega)]
 simp
theorem axO {n : Nat} (h : Bd 8 n) : akH (mag n, ()) = some (((aa2 n).length : Int), ()) := aaI (enc := fun n : Nat => (mag n, ())) n (Nat.le_trans h (by decide)) (fun b hb => adI (Prod.mk.inj hb).1)
theorem axQ {n : Nat} (h : Bd 0 n) : akJ (mag n, ()) = some (aa2 n, ()) := aaI (enc := fun n : Nat => (mag n, ())) n (Nat.le_trans h (by decide)) (fun b hb => adI (Prod.mk.inj hb).1)
theorem axP {a b : Nat} (h1 : Bd 8 a) (h2 : Bd 8 b) (h3 : b ≠ 0) : akI (mag a, mag b, ()) = some (mag (a / b), mag (a % b), ()) := aaI (enc := fun p : Nat × Nat => (mag p.1, mag p.2, ())) (a, b) ⟨Nat.le_trans h1 (by decide), Nat.le_trans h2 (by decide), h3⟩ (fun b hb => ac9 hb)
abbrev SgT := List Int × Bool × Unit
abbrev RtT := (List Int × Bool × Unit) × List Int × Unit
abbrev FxT := List UInt8 × List UInt8 × Unit
def BdQ (k : Nat) (q : Rat) : Prop := Bd k q.num.natAbs ∧ Bd k q.den
def aoK (p q : Rat) : Int := if p < q then -1 else if p = q then 0 else 1
def fl (q : Rat) : Int := q.num / q.den
def ao4 (q : Rat) (s : Nat) : Int := fl (q * (s : Rat) + mkRat 1 2)
def ofQ (n d : Int) : FxT × Int × Unit := if d = 0 then (([], [], ()), 7, ()) else wrF (Rat.divInt n d)
def aa9 (z : Int) : Prop := -9223372036854775808 ≤ z ∧ z ≤ 9223372036854775807
instance (z : Int) : Decidable (aa9 z) := inferInstanceAs (Decidable (_ ∧ _))
def aa8 (x : List Int × Bool × Unit) : Option (SgT × Unit) := some ((x.1, x.2.1 && !(len x.1 == 0), ()), ())
def ah7 (x : List Int × Bool × Unit) : Option (SgT × Unit) := some ((x.1, x.2.1 && !(len x.1 == 0), ()), ())
noncomputable def afE : SgT × Unit → Option (SgT × Unit) := acZ (fun x : Int => (sg x, ())) (fun x => Bd 8 x.natAbs) (fun x => (sg (-x), ()))
noncomputable def ajJ : SgT × Unit → Option (Int × Unit) := acZ (fun x : Int => (sg x, ())) (fun x => Bd 8 x.natAbs) (fun x => (x.sign, ()))
noncomputable def am0 : SgT × SgT × Unit → Option (SgT × Unit) := acZ (fun x : Int × Int => (sg x.1, sg x.2, ())) (fun x => Bd 7 x.1.natAbs ∧ Bd 7 x.2.natAbs) (fun x => (sg (x.1 + x.2), ()))
noncomputable def ap0 : SgT × Unit → Option (SgT × Unit) := acZ (fun x : Int => (sg x, ())) (fun x => Bd 8 x.natAbs) (fun x => (sg (-x), ()))
noncomputable def aHu : SgT × SgT × Unit → Option (SgT × Unit) := acZ (fun x : Int × Int => (sg x.1, sg x.2, ())) (fun x => Bd 7 x.1.natAbs ∧ Bd 7 x.2.natAbs) (fun x => (sg (x.1 + x.2), ()))
noncomputable def axG : SgT × SgT × Unit → Option (SgT × Unit) := acZ (fun x : Int × Int => (sg x.1, sg x.2, ())) (fun x => Bd 7 x.1.natAbs ∧ Bd 7 x.2.natAbs) (fun x => (sg (x.1 - x.2), ()))
noncomputable def ah6 : SgT × SgT × Unit → Option (SgT × Unit) := acZ (fun x : Int × Int => (sg x.1, sg x.2, ())) (fun x => Bd 7 x.1.natAbs ∧ Bd 7 x.2.natAbs) (fun x => (sg (x.1 * x.2), ()))
noncomputable def ajI : SgT × Unit → Option (List UInt8 × Unit) := acZ (fun x : Int => (sg x, ())) (fun x => Bd 0 x.natAbs) (fun x => (dec x, ()))
noncomputable def adN : SgT × List Int × Unit → Option (SgT × Unit) := acZ (fun x : Int × Nat => (sg x.1, mag x.2, ())) (fun x => Bd 7 x.1.natAbs ∧ Bd 7 x.2) (fun x => (sg (x.1 * x.2), ()))
noncomputable def ajK : SgT × List Int × Unit → Option (SgT × Unit) := acZ (fun x : Int × Nat => (sg x.1, mag x.2, ())) (fun x => Bd 7 x.1.natAbs ∧ Bd 7 x.2 ∧ x.2 ≠ 0) (fun x => (sg (x.1 / x.2), ()))
noncomputable def afV : List UInt8 × Unit → Option (SgT × Unit) := acZ (fun x : Int => (dec x, ())) (fun x => Bd 7 x.natAbs) (fun x => (sg x, ()))
noncomputable def afA (x : List UInt8 × Unit) : Option (SgT × Bool × Unit) := some (match rdW x.1 with | some z => (sg z, true, ()) | none => (([], false, ()), false, ()))
noncomputable def afC (x : List UInt8 × Unit) : Option (Int × Unit) := some (if (rdW x.1).isSome then 0 else 10, ())
noncomputable def afB (x : List UInt8 × List UInt8 × Unit) : Option (SgT × SgT × Int × Unit) := some (match rdW x.1, rdW x.2.1 with | some z, some w => (sg z, sg w, 0, ()) | _, _ => (([], false, ()), ([], false, ()), 10, ()))
noncomputable def acU : SgT × Unit → Option (List UInt8 × Int × Unit) := acZ (fun x : Int => (sg x, ())) (fun x => Bd 8 x.natAbs) (fun x => wrW x)
noncomputable def aeU : RtT × Unit → Option (FxT × Int × Unit) := acZ (fun x : Rat => (rt x, ())) (fun x => BdQ 8 x) (fun x => wrF x)
noncomputable def akM : SgT × List Int × Unit → Option (RtT × Unit) := acZ (fun x : Int × Nat => (sg x.1, mag x.2, ())) (fun x => Bd 7 x.1.natAbs ∧ Bd 7 x.2 ∧ x.2 ≠ 0) (fun x => (rt (mkRat x.1 x.2), ()))
noncomputable def ah8 : RtT × Unit → Option (RtT × Unit) := acZ (fun x : Rat => (rt x, ())) (fun x => BdQ 7 x) (fun x => (rt (-x), ()))
noncomputable def ah9 : RtT × Unit → Option (RtT × Unit) := acZ (fun x : Rat => (rt x, ())) (fun x => BdQ 7 x ∧ x ≠ 0) (fun x => (rt x⁻¹, ()))
noncomputable def aqD : RtT × RtT × Unit → Option (RtT × Unit) := acZ (fun x : Rat × Rat => (rt x.1, rt x.2, ())) (fun x => BdQ 3 x.1 ∧ BdQ 3 x.2) (fun x => (rt (x.1 + x.2), ()))
noncomputable def auH : RtT × RtT × Unit → Option (RtT × Unit) := acZ (fun x : Rat × Rat => (rt x.1, rt x.2, ())) (fun x => BdQ 3 x.1 ∧ BdQ 3 x.2) (fun x => (rt (x.1 - x.2), ()))
noncomputable def aqC : RtT × RtT × Unit → Option (RtT × Unit) := acZ (fun x : Rat × Rat => (rt x.1, rt x.2, ())) (fun x => BdQ 3 x.1 ∧ BdQ 3 x.2) (fun x => (rt (x.1 * x.2), ()))
noncomputable def amY : RtT × RtT × Unit → Option (Int × Unit) := acZ (fun x : Rat × Rat => (rt x.1, rt x.2, ())) (fun x => BdQ 3 x.1 ∧ BdQ 3 x.2) (fun x => (aoK x.1 x.2, ()))
noncomputable def aqB : RtT × List Int × Unit → Option (SgT × Unit) := acZ (fun x : Rat × Nat => (rt x.1, mag x.2, ())) (fun x => BdQ 1 x.1 ∧ Bd 1 x.2) (fun x => (sg (ao4 x.1 x.2), ()))
noncomputable def abL (x : FxT × Unit) : Option (RtT × Bool × Unit) := some (match rdF x.1 with | some q => (rt q, true, ()) | none => ((([], false, ()), [], ()), false, ()))
noncomputable def aqG (x : FxT × Unit) : Option (Int × Unit) := some (if (rdF x.1).isSome then 0 else 20, ())
noncomputable def aqF (x : List UInt8 × List UInt8 × Unit) : Option (FxT × Int × Unit) := some (match rdW x.1, rdW x.2.1 with | some n, some d => ofQ n d | _, _ => (([], [], ()), 10, ()))
noncomputable def alY (x : Int × Int × Unit) : Option (FxT × Int × Unit) := if aa9 x.1 ∧ aa9 x.2.1 then some (ofQ x.1 x.2.1) else none
noncomputable def aqE (x : FxT × Unit) : Option (Int × Int × Unit) := some (match rdF x.1 with | some q => (q.num.sign, 0, ()) | none => (0, 20, ()))
noncomputable def afX (x : FxT × FxT × Unit) : Option (Int × Int × Unit) := some (match rdF x.1, rdF x.2.1 with | some p, some q => (aoK p q, 0, ()) | _, _ => (0, 20, ()))
noncomputable def aNo (f : Rat → Rat → Rat) (x : FxT × FxT × Unit) : FxT × Int × Unit := match rdF x.1, rdF x.2.1 with | some p, some q => wrF (f p q) | _, _ => (([], [], ()), 20, ())
noncomputable def adO (x : FxT × FxT × Unit) : Option (FxT × Int × Unit) := some (aNo (· + ·) x)
noncomputable def afW (x : FxT × FxT × Unit) : Option (FxT × Int × Unit) := some (aNo (· - ·) x)
noncomputable def ad8 (x : FxT × FxT × Unit) : Option (FxT × Int × Unit) := some (aNo (· * ·) x)
noncomputable def afF (x : FxT × FxT × Unit) : Option (FxT × Int × Unit) := some (match rdF x.1, rdF x.2.1 with | some p, some q => if q = 0 then (([], [], ()), 7, ()) else wrF (p / q) | _, _ => (([], [], ()), 20, ()))
noncomputable def ajL (x : FxT × Unit) : Option (List UInt8 × Int × Unit) := some (match rdF x.1 with | some q => (dec (fl q), 0, ()) | none => ([], 20, ()))
noncomputable def akN (x : FxT × Int × Unit) : Option (Int × Int × Unit) := some (match rdF x.1 with | some q => if x.2.1 < 1 ∨ x.2.1 > 1000000000000 then (0, 2, ()) else if aa9 (ao4 q x.2.1.toNat) then (ao4 q x.2.1.toNat, 0, ()) else (0, 6, ()) | none => (0, 20, ()))
noncomputable def atK (x : Int × Unit) : Option (List UInt8 × Unit) := if aa9 x.1 then some (dec x.1, ()) else none
noncomputable def akL (x : List UInt8 × Unit) : Option (Int × Int × Unit) := some (match rdW x.1 with | some z => if aa9 z then (z, 0, ()) else (0, 6, ()) | none => (0, 10, ()))
noncomputable def asA (x : List UInt8 × List UInt8 × Unit) : Option (List UInt8 × Int × Unit) := some (match rdW x.1, rdW x.2.1 with | some z, some w => wrW (z * w) | _, _ => ([], 10, ()))
noncomputable def asB (x : List UInt8 × List UInt8 × Unit) : Option (List UInt8 × List UInt8 × Int × Unit) := some (match rdW x.1, rdW x.2.1 with | some z, some w => if w = 0 then ([], [], 7, ()) else (dec (z / w), dec (z % w), 0, ()) | _, _ => ([], [], 10, ()))
noncomputable def alV (x : List UInt8 × Int × Unit) : Option (List UInt8 × Int × Unit) := some (match rdW x.1 with | some z => if x.2.1 < 0 ∨ x.2.1 > 40 then ([], 2, ()) else wrW (z ^ x.2.1.toNat) | none => ([], 10, ()))
noncomputable def adL (k n : Nat) : Nat := open Classical in if h : ∃ r, r ^ k ≤ n ∧ n < (r + 1) ^ k then h.choose else 0
noncomputable def ap3 (x : List UInt8 × Int × Unit) : Option (List UInt8 × Int × Unit) := some (match rdW x.1 with | some z => if x.2.1 < 1 ∨ x.2.1 > 12 ∨ z < 0 then ([], 2, ()) else wrW (adL x.2.1.toNat z.natAbs) | none => ([], 10, ()))
noncomputable def akK : Int × Unit → Option (List Int × Unit) := acZ (fun x : Nat => ((x : Int), ())) (fun x => x ≤ 100000000) (fun x => (mag (10 ^ x), ()))
noncomputable def ai9 : List Int × Int × Unit → Option (List Int × Unit) := acZ (fun x : Nat × Nat => (mag x.1, (x.2 : Int), ())) (fun x => Bd 2 x.1 ∧ x.2 ≤ 40) (fun x => (mag (x.1 ^ x.2), ()))
noncomputable def ap1 : List Int × Int × Unit → Option (List Int × Unit) := acZ (fun x : Nat × Nat => (mag x.1, (x.2 : Int), ())) (fun x => Bd 0 x.1 ∧ 1 ≤ x.2 ∧ x.2 ≤ 12) (fun x => (mag (adL x.2 x.1), ()))
noncomputable def aNc : List UInt8 × Unit → Option (Int × Bool × Unit) := acZ (fun z : Int => (dec z, ())) aa9 (fun z => (z, false, ()))
theorem aRo {z : Int} (h : aa9 z) : aNc (dec z, ()) = some (z, false, ()) := aaI (enc := fun z : Int => (dec z, ())) z h (fun b hb => aj7 (Prod.mk.inj hb).1)
open Classical in
noncomputable def aNb : List UInt8 × Int × Int × Unit → Option (Int × Bool × Unit) := acZ (fun z : Int => (dec z, 10, 64, ())) (fun z => (dec z).length ≤ 1000000000) (fun z => if aa9 z then (z, false, ()) else (if z < 0 then -9223372036854775808 else 9223372036854775807, true, ()))
open Classical in
theorem aRm {z : Int} (h : (dec z).length ≤ 1000000000) : aNb (dec z, 10, 64, ()) = some (if aa9 z then (z, false, ()) else (if z < 0 then -9223372036854775808 else 9223372036854775807, true, ())) :=
 aaI (enc := fun z : Int => (dec z, (10 : Int), (64 : Int), ())) z h (fun b hb => aj7 (Prod.mk.inj hb).1)
theorem aP3 (s : List UInt8) (a : Nat) : a ≤ ax5 a s := by
 rw [aLr]
 have := Nat.le_mul_of_pos_right a (show 0 < 10 ^ s.length from Nat.pow_pos (by omega))
 omega
theorem ay0 : ∀ {s : List UInt8} {a : Nat}, isD s → a < 18446744073709551616 → Lib.parseUint10 a s = if ax5 a s < 18446744073709551616 then .ok (ax5 a s) else .range
 | [], a, _, ha => by
  rw [show ax5 a [] = a from rfl, if_pos ha]
  rfl
 | c :: s, a, h, ha => by
  have hc := h c (by simp)
  have hs : isD s := fun d hd => h d (by simp [hd])
  have hge := aP3 s (a * 10 + dv c)
  rw [agE]
  simp only [Lib.parseUint10]
  rw [if_pos hc]
  have hdv : dv c = c.toNat - 48 := rfl
  by_cases h1 : 1844674407370955162 ≤ a
  ·rw [if_pos h1, if_neg (by omega)]
  ·rw [if_neg h1]
   by_cases h2 : 18446744073709551616 ≤ a * 10 + (c.toNat - 48)
   ·rw [if_pos h2, if_neg (by omega)]
   ·rw [if_neg h2]
    exact ay0 hs (by omega)
theorem aoT (n : Nat) : Lib.parseMag (aa2 n) = if n < 18446744073709551616 then .ok n else .range := by
 unfold Lib.parseMag
 rw [if_neg (aeO n), ay0 (aj8 n) (by omega)]
 have : ax5 0 (aa2 n) = n := amE n
 rw [this]
theorem aMw (n : Nat) : ∃ c r, aa2 n = c :: r ∧ 48 ≤ c.toNat ∧ c.toNat ≤ 57 := by
 cases h : aa2 n with
 | nil => exact absurd h (aeO n)
 | cons c r => exact ⟨c, r, rfl, aj8 n c (by rw [h]; simp)⟩
open Classical in
theorem aB3 (z : Int) : Lib.atoiAll (dec z) = if aa9 z then .ok z else .range := by
 unfold dec
 by_cases hz : z < 0
 ·rw [if_pos hz]
  rw [Lib.atoiAll_minus, aoT]
  by_cases h1 : z.natAbs < 18446744073709551616
  ·rw [if_pos h1]
   simp only [Lib.signed]
   by_cases h2 : 9223372036854775808 < z.natAbs
   ·rw [if_pos h2, if_neg (fun h => by have := h.1; omega)]
   ·rw [if_neg h2, if_pos ⟨by omega, by omega⟩]
    congr 1
    omega
  ·rw [if_neg h1, if_neg (fun h => by have := h.1; omega)]
   rfl
 ·rw [if_neg hz]
  obtain ⟨c, r, e, c1, c2⟩ := aMw z.natAbs
  have hp := aoT z.natAbs
  rw [e] at hp ⊢
  rw [Lib.atoiAll_plain _ _ (by omega) (by omega), hp]
  by_cases h1 : z.natAbs < 18446744073709551616
  ·rw [if_pos h1]
   simp only [Lib.signless]
   by_cases h2 : 9223372036854775808 ≤ z.natAbs
   ·rw [if_pos h2, if_neg (fun h => by have := h.2; omega)]
   ·rw [if_neg h2, if_pos ⟨by omega, by omega⟩]
    congr 1
    omega
  ·rw [if_neg h1, if_neg (fun h => by have := h.2; omega)]
   rfl
theorem aGr (z : Int) : Lib.atoiSat (dec z) = if z < 0 then -9223372036854775808 else 9223372036854775807 := by
 unfold dec Lib.atoiSat
 by_cases hz : z < 0
 ·rw [if_pos hz, if_pos hz]
  exact if_pos rfl
 ·rw [if_neg hz, if_neg hz]
  obtain ⟨c, r, e, c1, c2⟩ := aMw z.natAbs
  rw [e, if_neg]
  simp only [List.head?_cons, Option.map_some, Option.some.injEq]
  omega
theorem aOz (z : Int) : Lib.itoa z = dec z := by
 unfold Lib.itoa dec aa2
 by_cases hz : z < 0
 ·rw [if_pos hz, if_pos hz]
 ·rw [if_neg hz, if_neg hz]
  congr 1
  omega
theorem auZ (s : List UInt8) : ∀ n, Lib.repeatL s n = (List.replicate n s).flatten
 | 0 => rfl
 | n + 1 => by rw [Lib.repeatL, auZ s n, List.replicate_succ, List.flatten_cons]
end Go.Vs
namespace Go.Vg
abbrev TT.tt {α : Type} (x : TT α) : TT α := .triv (true = true) rfl x
abbrev TT.tr {α : Type} (x : TT α) : TT α := .triv True trivial x
end Go.Vg
namespace Go.Vs
open Go Go.Vg
abbrev Qq {α : Sort _} (x : α) : Prop := x = x
theorem tv {p : Prop} (h : p := by repeat' constructor) : p := h
abbrev Dd0 := Ty.dflt (Ty.pair (Ty.sl (Ty.int IntKind.u32)) Ty.unit)
abbrev Dd1 := Ty.dflt (Ty.pair Ty.bool Ty.unit)
abbrev Dd2 := Ty.dflt (Ty.pair Ty.str Ty.unit)
abbrev Dd3 := Ty.dflt (Ty.pair (Ty.int IntKind.u64) Ty.unit)
abbrev Dd4 := Ty.dflt (Ty.pair (Ty.sl (Ty.int IntKind.u32)) (Ty.pair (Ty.sl (Ty.int IntKind.u32)) Ty.unit))
abbrev Dd5 := Ty.dflt (Ty.pair (Ty.pair (Ty.sl (Ty.int IntKind.u32)) (Ty.pair Ty.bool Ty.unit)) Ty.unit)
abbrev Dd6 := Ty.dflt (Ty.pair (Ty.int IntKind.i64) Ty.unit)
abbrev Dd7 := Ty.dflt (Ty.pair Ty.str (Ty.pair Ty.bool Ty.unit))
abbrev Dd8 := Ty.dflt (Ty.pair (Ty.pair (Ty.pair (Ty.sl (Ty.int IntKind.u32)) (Ty.pair Ty.bool Ty.unit)) (Ty.pair (Ty.sl (Ty.int IntKind.u32)) Ty.unit)) Ty.unit)
abbrev Dd9 := Ty.dflt (Ty.pair (Ty.pair (Ty.sl (Ty.int IntKind.u32)) (Ty.pair Ty.bool Ty.unit)) (Ty.pair Ty.bool Ty.unit))
abbrev aRT := Ty.dflt (Ty.pair (Ty.pair (Ty.sl (Ty.int IntKind.u32)) (Ty.pair Ty.bool Ty.unit)) (Ty.pair (Ty.pair (Ty.sl (Ty.int IntKind.u32)) (Ty.pair Ty.bool Ty.unit)) (Ty.pair (Ty.int IntKind.i64) Ty.unit)))
abbrev aGy := Ty.dflt (Ty.pair Ty.str (Ty.pair (Ty.int IntKind.i64) Ty.unit))
abbrev aRK := Ty.dflt (Ty.pair (Ty.sl (Ty.int IntKind.u32)) (Ty.pair (Ty.int IntKind.u32) Ty.unit))
abbrev aHG := Ty.dflt (Ty.pair (Ty.pair (Ty.pair (Ty.sl (Ty.int IntKind.u32)) (Ty.pair Ty.bool Ty.unit)) (Ty.pair (Ty.sl (Ty.int IntKind.u32)) Ty.unit)) (Ty.pair Ty.bool Ty.unit))
abbrev afI := Ty.dflt (Ty.pair (Ty.pair Ty.str (Ty.pair Ty.str Ty.unit)) (Ty.pair (Ty.int IntKind.i64) Ty.unit))
abbrev aCf := Ty.dflt (Ty.pair (Ty.int IntKind.i64) (Ty.pair (Ty.int IntKind.i64) Ty.unit))
abbrev atZ := Ty.dflt (Ty.pair (Ty.pair (Ty.int IntKind.i64) (Ty.pair (Ty.int IntKind.i64) Ty.unit)) (Ty.pair (Ty.int IntKind.i64) Ty.unit))
abbrev aRS := Ty.dflt (Ty.pair Ty.str (Ty.pair Ty.bool (Ty.pair (Ty.int IntKind.i64) Ty.unit)))
abbrev aRZ := Ty.dflt (Ty.pair Ty.str (Ty.pair Ty.str (Ty.pair (Ty.int IntKind.i64) Ty.unit)))
abbrev aeY := Ty.dflt (Ty.pair (Ty.pair Ty.str (Ty.pair Ty.str Ty.unit)) Ty.unit)
abbrev aEw := Ty.dflt (Ty.pair (Ty.sl (Ty.int IntKind.i64)) Ty.unit)
abbrev akX := Ty.dflt (Ty.pair (Ty.pair Ty.bool (Ty.pair (Ty.sl (Ty.int IntKind.i64)) Ty.unit)) Ty.unit)
abbrev aRY := Ty.dflt (Ty.pair (Ty.sl (Ty.int IntKind.i64)) (Ty.pair (Ty.int IntKind.i64) Ty.unit))
abbrev aRR := Ty.dflt (Ty.pair (Ty.sl (Ty.int IntKind.i64)) (Ty.pair (Ty.sl (Ty.int IntKind.i64)) Ty.unit))
abbrev aRt := Ty.dflt (Ty.pair (Ty.pair Ty.bool (Ty.pair (Ty.sl (Ty.int IntKind.i64)) Ty.unit)) (Ty.pair (Ty.pair Ty.bool (Ty.pair (Ty.sl (Ty.int IntKind.i64)) Ty.unit)) Ty.unit))
abbrev aPw := Ty.dflt (Ty.pair (Ty.pair (Ty.pair Ty.bool (Ty.pair (Ty.sl (Ty.int IntKind.i64)) Ty.unit)) (Ty.pair (Ty.pair Ty.bool (Ty.pair (Ty.sl (Ty.int IntKind.i64)) Ty.unit)) Ty.unit)) Ty.unit)
abbrev aNl := Ty.dflt (Ty.pair (Ty.pair (Ty.int IntKind.i64) (Ty.pair (Ty.sl (Ty.int IntKind.i64)) (Ty.pair (Ty.sl (Ty.pair (Ty.int IntKind.i64) (Ty.pair (Ty.int IntKind.i64) (Ty.pair (Ty.int IntKind.i64) (Ty.pair (Ty.int IntKind.i64) (Ty.pair (Ty.int IntKind.i64) (Ty.pair (Ty.int IntKind.i64) Ty.unit))))))) Ty.unit))) Ty.unit)
abbrev aRQ := Ty.dflt (Ty.pair (Ty.int IntKind.i64) (Ty.pair Ty.bool Ty.unit))
theorem aPl {q : Rat} {n : Int} {D : Nat} (nz : D ≠ 0) (c : n.natAbs.Coprime D) (h : q = mkRat n D) : q.num = n ∧ q.den = D := by
 rw [h, ← Rat.mk_eq_mkRat n D nz c]; exact ⟨rfl, rfl⟩
theorem aJk {a b : Nat} (h : ∀ k, k ∣ a → k ∣ b → k = 1) : a.Coprime b := h _ (Nat.gcd_dvd_left a b) (Nat.gcd_dvd_right a b)
theorem aMz {n1 n2 : Int} {b' d' b : Nat} (h1 : n1.natAbs.Coprime b) (hb : b' ∣ b) (h3 : b'.Coprime d') : (n1 * d' + n2 * b').natAbs.Coprime b' := by
 refine aJk fun k hk hkb => ?_
 have e1 : (k : Int) ∣ n1 * d' + n2 * b' := Int.ofNat_dvd_left.2 hk
 have e2 : (k : Int) ∣ n2 * b' := Int.dvd_trans (Int.natCast_dvd_natCast.2 hkb) (Int.dvd_mul_left _ _)
 have e3 : (k : Int) ∣ n1 * d' := by
  have := Int.dvd_sub e1 e2
  rwa [Int.add_sub_cancel] at this
 have e4 : k ∣ n1.natAbs * d' := by
  have := Int.ofNat_dvd_left.1 e3
  rwa [Int.natAbs_mul] at this
 have e5 : k.Coprime d' := Nat.Coprime.coprime_dvd_left hkb h3
 have e6 := Nat.Coprime.dvd_of_dvd_mul_right e5 e4
 exact Nat.Coprime.eq_one_of_dvd (Nat.Coprime.coprime_dvd_left e6 h1) (Nat.dvd_trans hkb hb)
theorem aEh (p q : Rat) : ∃ g h : Nat, ∃ top t : Int, g = Nat.gcd p.den q.den ∧ top = p.num * (q.den / g : Nat) + q.num * (p.den / g : Nat) ∧ h = Nat.gcd top.natAbs g ∧ g ≠ 0 ∧ h ≠ 0 ∧ top = h * t ∧ (p + q).num = t ∧ (p + q).den = (p.den / g) * (q.den / h) := by
 obtain ⟨g, hg⟩ : ∃ g, g = Nat.gcd p.den q.den := ⟨_, rfl⟩
 have g0 : 0 < g := by rw [hg]; exact Nat.gcd_pos_of_pos_left _ p.den_pos
 obtain ⟨b', hb⟩ : g ∣ p.den := hg ▸ Nat.gcd_dvd_left _ _
 obtain ⟨d', hd⟩ : g ∣ q.den := hg ▸ Nat.gcd_dvd_right _ _
 have hb' : p.den / g = b' := by rw [hb, Nat.mul_div_cancel_left _ g0]
 have hd' : q.den / g = d' := by rw [hd, Nat.mul_div_cancel_left _ g0]
 have hbd : b'.Coprime d' := by
  have := Nat.coprime_div_gcd_div_gcd (m := p.den) (n := q.den) (by rw [← hg]; exact g0)
  rwa [← hg, hb', hd'] at this
 obtain ⟨top, ht⟩ : ∃ top : Int, top = p.num * (q.den / g : Nat) + q.num * (p.den / g : Nat) := ⟨_, rfl⟩
 obtain ⟨h, hh⟩ : ∃ h, h = Nat.gcd top.natAbs g := ⟨_, rfl⟩
 have h0 : 0 < h := by rw [hh]; exact Nat.gcd_pos_of_pos_right _ g0
 obtain ⟨t, htt⟩ : (h : Int) ∣ top := Int.ofNat_dvd_left.2 (hh ▸ Nat.gcd_dvd_left _ _)
 obtain ⟨g', hg'⟩ : h ∣ g := hh ▸ Nat.gcd_dvd_right _ _
 have c1 : top.natAbs.Coprime b' := by rw [ht, hb', hd']; exact aMz p.reduced ⟨g, by rw [hb, Nat.mul_comm]⟩ hbd
 have c2 : top.natAbs.Coprime d' := by rw [ht, hb', hd', Int.add_comm]; exact aMz q.reduced ⟨g, by rw [hd, Nat.mul_comm]⟩ hbd.symm
 have c3 : t.natAbs.Coprime g' := by
  have := Nat.coprime_div_gcd_div_gcd (m := top.natAbs) (n := g) (by rw [← hh]; exact h0)
  rw [← hh, htt, Int.natAbs_mul, Int.natAbs_natCast, Nat.mul_div_cancel_left _ h0] at this
  conv at this => rhs; rw [hg']
  rwa [Nat.mul_div_cancel_left _ h0] at this
 have ct : t.natAbs ∣ top.natAbs := by rw [htt, Int.natAbs_mul]; exact Nat.dvd_mul_left _ _
 have e : q.den / h = g' * d' := by rw [hd, hg', Nat.mul_assoc, Nat.mul_div_cancel_left _ h0]
 have hc : t.natAbs.Coprime (b' * (g' * d')) := Nat.Coprime.mul_right (Nat.Coprime.coprime_dvd_left ct c1) (Nat.Coprime.mul_right c3 (Nat.Coprime.coprime_dvd_left ct c2))
 have nb : b' ≠ 0 := by rintro rfl; exact p.den_nz (by rw [hb]; simp)
 have nd : d' ≠ 0 := by rintro rfl; exact q.den_nz (by rw [hd]; simp)
 have ng : g' ≠ 0 := by rintro rfl; simp at hg'; omega
 have nz : b' * (g' * d') ≠ 0 := Nat.mul_ne_zero nb (Nat.mul_ne_zero ng nd)
 have hv : p + q = mkRat t (b' * (g' * d')) := by
  rw [Rat.add_def', Rat.mkRat_eq_iff (Nat.mul_ne_zero p.den_nz q.den_nz) nz, hb, hd]
  rw [hb', hd', htt] at ht
  simp only [Int.natCast_mul]
  have hgz : (g : Int) = h * g' := by rw [hg']; simp
  have e1 : (p.num * ((g : Int) * d') + q.num * ((g : Int) * b')) = (g : Int) * (h * t) := by rw [ht]; grind
  rw [e1, hgz]
  grind
 obtain ⟨r1, r2⟩ := aPl nz hc hv
 exact ⟨g, h, top, t, hg, ht, hh, by omega, by omega, htt, r1, by rw [r2, hb', e]⟩
theorem aDk (p q : Rat) : ∃ g h : Nat, ∃ s t : Int, g = Nat.gcd p.num.natAbs q.den ∧ h = Nat.gcd q.num.natAbs p.den ∧ g ≠ 0 ∧ h ≠ 0 ∧ p.num = g * s ∧ q.num = h * t ∧ (p * q).num = s * t ∧ (p * q).den = (p.den / h) * (q.den / g) := by
 obtain ⟨g, hg⟩ : ∃ g, g = Nat.gcd p.num.natAbs q.den := ⟨_, rfl⟩
 obtain ⟨h, hh⟩ : ∃ h, h = Nat.gcd q.num.natAbs p.den := ⟨_, rfl⟩
 have g0 : 0 < g := by rw [hg]; exact Nat.gcd_pos_of_pos_right _ q.den_pos
 have h0 : 0 < h := by rw [hh]; exact Nat.gcd_pos_of_pos_right _ p.den_pos
 obtain ⟨s, hs⟩ : (g : Int) ∣ p.num := Int.ofNat_dvd_left.2 (hg ▸ Nat.gcd_dvd_left _ _)
 obtain ⟨t, ht⟩ : (h : Int) ∣ q.num := Int.ofNat_dvd_left.2 (hh ▸ Nat.gcd_dvd_left _ _)
 obtain ⟨d', hd⟩ : g ∣ q.den := hg ▸ Nat.gcd_dvd_right _ _
 obtain ⟨b', hb⟩ : h ∣ p.den := hh ▸ Nat.gcd_dvd_right _ _
 have hb' : p.den / h = b' := by rw [hb, Nat.mul_div_cancel_left _ h0]
 have hd' : q.den / g = d' := by rw [hd, Nat.mul_div_cancel_left _ g0]
 have as1 : p.num.natAbs / g = s.natAbs := by rw [hs, Int.natAbs_mul, Int.natAbs_natCast, Nat.mul_div_cancel_left _ g0]
 have at' : q.num.natAbs / h = t.natAbs := by rw [ht, Int.natAbs_mul, Int.natAbs_natCast, Nat.mul_div_cancel_left _ h0]
 have ds : s.natAbs ∣ p.num.natAbs := by rw [hs, Int.natAbs_mul]; exact Nat.dvd_mul_left _ _
 have dt : t.natAbs ∣ q.num.natAbs := by rw [ht, Int.natAbs_mul]; exact Nat.dvd_mul_left _ _
 have db : b' ∣ p.den := ⟨h, by rw [hb, Nat.mul_comm]⟩
 have dd : d' ∣ q.den := ⟨g, by rw [hd, Nat.mul_comm]⟩
 have c1 : s.natAbs.Coprime b' := Nat.Coprime.coprime_dvd_left ds (Nat.Coprime.coprime_dvd_right db p.reduced)
 have c2 : s.natAbs.Coprime d' := by
  have := Nat.coprime_div_gcd_div_gcd (m := p.num.natAbs) (n := q.den) (by rw [← hg]; exact g0)
  rwa [← hg, as1, hd'] at this
 have c3 : t.natAbs.Coprime d' := Nat.Coprime.coprime_dvd_left dt (Nat.Coprime.coprime_dvd_right dd q.reduced)
 have c4 : t.natAbs.Coprime b' := by
  have := Nat.coprime_div_gcd_div_gcd (m := q.num.natAbs) (n := p.den) (by rw [← hh]; exact h0)
  rwa [← hh, at', hb'] at this
 have hc : (s * t).natAbs.Coprime (b' * d') := by
  rw [Int.natAbs_mul]
  exact Nat.Coprime.mul_left (Nat.Coprime.mul_right c1 c2) (Nat.Coprime.mul_right c4 c3)
 have nb : b' ≠ 0 := by rintro rfl; exact p.den_nz (by rw [hb]; simp)
 have nd : d' ≠ 0 := by rintro rfl; exact q.den_nz (by rw [hd]; simp)
 have nz : b' * d' ≠ 0 := Nat.mul_ne_zero nb nd
 have hv : p * q = mkRat (s * t) (b' * d') := by
  rw [Rat.mul_def', Rat.mkRat_eq_iff (Nat.mul_ne_zero p.den_nz q.den_nz) nz, hs, ht]
  conv => lhs; rw [Int.natCast_mul]
  rw [hb, hd]
  simp only [Int.natCast_mul]
  grind
 obtain ⟨r1, r2⟩ := aPl nz hc hv
 exact ⟨g, h, s, t, hg, hh, by omega, by omega, hs, ht, r1, by rw [r2, hb', hd']⟩
theorem aeK (n : Int) {d : Nat} (hd : d ≠ 0) : ∃ g : Nat, ∃ t : Int, g = Nat.gcd n.natAbs d ∧ g ≠ 0 ∧ n = g * t ∧ (mkRat n d).num = t ∧ (mkRat n d).den = d / g := by
 obtain ⟨g, hg⟩ : ∃ g, g = Nat.gcd n.natAbs d := ⟨_, rfl⟩
 have g0 : 0 < g := by rw [hg]; exact Nat.gcd_pos_of_pos_right _ (by omega)
 obtain ⟨t, ht⟩ : (g : Int) ∣ n := Int.ofNat_dvd_left.2 (hg ▸ Nat.gcd_dvd_left _ _)
 refine ⟨g, t, hg, by omega, ht, ?_, ?_⟩
 ·rw [Rat.num_mkRat, if_neg hd, Nat.gcd_comm, ← hg, ht, Int.mul_ediv_cancel_left _ (by omega)]
 ·rw [Rat.den_mkRat, if_neg hd, Nat.gcd_comm, ← hg]
theorem apG (n : Int) {d : Nat} (hd : d ≠ 0) : fl (mkRat n d) = n / d := by
 obtain ⟨g, t, hg, g0, hn, h1, h2⟩ := aeK n hd
 obtain ⟨d', hd'⟩ : g ∣ d := hg ▸ Nat.gcd_dvd_right _ _
 have : d / g = d' := by rw [hd', Nat.mul_div_cancel_left _ (by omega)]
 unfold fl
 rw [h1, h2, this, hn, hd', Int.natCast_mul, Int.mul_ediv_mul_of_pos _ _ (by omega)]
theorem aLz (q : Rat) (s : Nat) : ao4 q s = (q.num * (s * 2 : Nat) + q.den) / (q.den * 2 : Nat) := by
 unfold ao4
 have h1 : (s : Rat) = mkRat s 1 := by
  have := Rat.mkRat_self (s : Rat)
  rw [Rat.num_natCast, Rat.den_natCast] at this
  exact this.symm
 have h2 : q * (s : Rat) + mkRat 1 2 = mkRat (q.num * (s * 2 : Nat) + q.den) (q.den * 2) := by
  conv => lhs; rw [h1, ← Rat.mkRat_self q]
  rw [Rat.mkRat_mul_mkRat, Rat.mkRat_add_mkRat _ _ (by have := q.den_nz; omega) (by omega), Nat.mul_one, Int.one_mul]
  congr 1
  simp only [Int.natCast_mul]
  grind
 rw [h2, apG _ (Nat.mul_ne_zero q.den_nz (by omega))]
theorem aK1 (p q : Rat) : aoK p q = (p.num * q.den + -(q.num * p.den)).sign := by
 unfold aoK
 simp only [Rat.lt_iff, Rat.eq_iff_mul_eq_mul]
 split
 ·rename_i h; exact (Int.sign_eq_neg_one_of_neg (by omega)).symm
 ·split
  ·rename_i h; rw [h, Int.add_right_neg]; rfl
  ·exact (Int.sign_eq_one_of_pos (by omega)).symm
theorem aPk (a b : List UInt8) : rdF (a, b, ()) = match rdW a, rdW b with
  | some n, some d => if h : 0 < d ∧ n.natAbs.Coprime d.natAbs then some ⟨n, d.natAbs, by omega, h.2⟩ else none
  | _, _ => none := by
 cases ha : rdW a with
 | none =>
  refine aAV fun q hq he => ?_
  obtain ⟨h1, -⟩ := Prod.mk.inj he
  rw [← h1, ak5 hq.1] at ha
  cases ha
 | some n =>
  obtain ⟨fa, rfl⟩ := aeH ha
  cases hb : rdW b with
  | none =>
   refine aAV fun q hq he => ?_
   obtain ⟨-, h1⟩ := Prod.mk.inj he
   obtain ⟨h1, -⟩ := Prod.mk.inj h1
   rw [← h1, ← ad5, ak5 hq.2] at hb
   cases hb
  | some d =>
   obtain ⟨fb, rfl⟩ := aeH hb
   simp only
   split
   ·rename_i h
    have e : (dec n, dec d, ()) = fx ⟨n, d.natAbs, by omega, h.2⟩ := by
     unfold fx
     rw [acB (z := d) (by omega)]
    rw [e, afJ ⟨fa, ?_⟩]
    unfold Fit at *
    simpa using fb
   ·rename_i h
    refine aAV fun q hq he => h ?_
    obtain ⟨h1, h2⟩ := Prod.mk.inj he
    obtain ⟨h2, -⟩ := Prod.mk.inj h2
    have e1 := aj7 h1
    have e2 : (q.den : Int) = d := aj7 (by rw [ad5]; exact h2)
    rw [← e1, ← e2]
    exact ⟨by have := q.den_pos; omega, q.reduced⟩
abbrev BdT := Int × Int × Unit
def okB (lo hi : Int) : Prop := -1000000000000000000 ≤ lo ∧ lo ≤ hi ∧ hi ≤ 1000000000000000000
instance (lo hi : Int) : Decidable (okB lo hi) := inferInstanceAs (Decidable (_ ∧ _))
def mkB (e lo hi : Int) : BdT × Int × Unit := if okB lo hi then ((lo, hi, ()), 0, ()) else ((0, 0, ()), e, ())
def adQ (x : Int × Int × Unit) : Option (Bool × Unit) := some (decide (okB x.1 x.2.1), ())
def aiC (x : Int × Int × Unit) : Option (BdT × Int × Unit) := some (mkB 6 x.1 x.2.1)
def aqI (x : BdT × Unit) : Option (Int × Unit) := some (if okB x.1.1 x.1.2.1 then 0 else 30, ())
def aHx (x : Int × Int × Unit) : Option (BdT × Int × Unit) := some (mkB 30 x.1 x.2.1)
def axH (x : List Int × Unit) : Option (Int × Unit) := match x.1 with | [] => none | a :: l => if l.length ≤ 1000000000000 then some (l.foldl (fun m y => if y < m then y else m) a, ()) else none
def axI (x : List Int × Unit) : Option (Int × Unit) := match x.1 with | [] => none | a :: l => if l.length ≤ 1000000000000 then some (l.foldl (fun m y => if y > m then y else m) a, ()) else none
def axM (x : List Int × Unit) : Option (Int × Unit) := axH x
def al0 (x : List Int × Unit) : Option (Int × Unit) := axI x
def akU : Rat := (1000000000000 : Nat)
def agB (p q : Rat) : BdT × Int × Unit := mkB 6 (fl (p * akU)) (-fl (-(q * akU)))
noncomputable def af2 (x : FxT × Unit) : Option (BdT × Int × Unit) := some (match rdF x.1 with | some q => agB q q | none => ((0, 0, ()), 20, ()))
def aM6 (a b : BdT) : BdT × Int × Unit := if okB a.1 a.2.1 ∧ okB b.1 b.2.1 then mkB 6 (a.1 + b.1) (a.2.1 + b.2.1) else ((0, 0, ()), 30, ())
def aQd (a b : BdT) : BdT × Int × Unit := if okB a.1 a.2.1 ∧ okB b.1 b.2.1 then ((min a.1 b.1, max a.2.1 b.2.1, ()), 0, ()) else ((0, 0, ()), 30, ())
def aAh (b : BdT) (lo hi : Int) : BdT × Int × Unit := if okB b.1 b.2.1 then (if okB lo hi then ((min (max b.1 lo) hi, min (max b.2.1 lo) hi, ()), 0, ()) else ((0, 0, ()), 2, ())) else ((0, 0, ()), 30, ())
def aGu (x : BdT × BdT × Unit) : Option (BdT × Int × Unit) := some (aM6 x.1 x.2.1)
def aqH (x : BdT × BdT × Unit) : Option (BdT × Int × Unit) := some (aQd x.1 x.2.1)
def ajN (x : BdT × Int × Int × Unit) : Option (BdT × Int × Unit) := some (aAh x.1 x.2.1 x.2.2.1)
noncomputable def ahO : Int × Unit → Option (List UInt8 × Unit) := acZ (fun n : Nat => ((n : Int), ())) (fun n => n ≤ 1000) (fun n => (aa2 (10 ^ n), ()))
noncomputable def ap9 : List UInt8 × Int × Unit → Option (List UInt8 × Bool × Int × Unit) := acZ (fun x : Nat × Nat => (aa2 x.1, (x.2 : Int), ())) (fun x => Fit x.1 ∧ 1 ≤ x.2 ∧ x.2 ≤ 12) (fun x => (aa2 (adL x.2 x.1), decide (adL x.2 x.1 ^ x.2 = x.1), 0, ()))
noncomputable def acJ : List UInt8 × Bool × Unit → Option (Int × Int × Unit) := acZ (fun x : Nat × Bool => (aa2 x.1, x.2, ())) (fun x => Fit x.1) (fun x => if x.1 > 1000000000000000000 then (0, 6, ()) else ((x.1 : Int) + (if x.2 then 1 else 0), 0, ()))
def okE (p q : Int) : Prop := 1 ≤ p ∧ p ≤ 36 ∧ 1 ≤ q ∧ q ≤ 12
instance (p q : Int) : Decidable (okE p q) := inferInstanceAs (Decidable (_ ∧ _))
def asC (x : (Int × Int × Unit) × Unit) : Option (Bool × Unit) := some (decide (okE x.1.1 x.1.2.1), ())
noncomputable def aBH (p q n : Nat) : Nat := adL q (n ^ p * 10 ^ (12 * q) / 10 ^ (12 * p))
noncomputable def ax6 (p q n : Nat) (up : Bool) : Int × Int × Unit :=
 if aBH p q n > 1000000000000000000 then (0, 6, ()) else ((aBH p q n : Int) + (if up = true ∧ aBH p q n ^ q * 10 ^ (12 * p) ≠ n ^ p * 10 ^ (12 * q) then 1 else 0), 0, ())
noncomputable def ap8 : ((Int × Int × Unit) × Unit) × Int × Bool × Unit → Option (Int × Int × Unit) := acZ (fun x : (Nat × Nat) × Nat × Bool => ((((x.1.1 : Int), (x.1.2 : Int), ()), ()), (x.2.1 : Int), x.2.2, ())) (fun x => okE x.1.1 x.1.2 ∧ x.2.1 ≤ 1000000000000000000) (fun x => ax6 x.1.1 x.1.2 x.2.1 x.2.2)
noncomputable def aJW (b : BdT) (p q : Int) : BdT × Int × Unit :=
 if okB b.1 b.2.1 then
  if okE p q ∧ 0 ≤ b.1 then
   (if (ax6 p.toNat q.toNat b.1.toNat false).2.1 ≠ 0 then ((0, 0, ()), 6, ()) else if (ax6 p.toNat q.toNat b.2.1.toNat true).2.1 ≠ 0 then ((0, 0, ()), 6, ())
    else mkB 6 (ax6 p.toNat q.toNat b.1.toNat false).1 (ax6 p.toNat q.toNat b.2.1.toNat true).1)
  else ((0, 0, ()), 2, ())
 else ((0, 0, ()), 30, ())
noncomputable def axL (x : BdT × Int × Int × Unit) : Option (BdT × Int × Unit) := some (aJW x.1 x.2.1 x.2.2.1)
abbrev aeX := Int × Int × Int × Int × Int × Int × Unit
abbrev CvT := Int × List Int × List aeX × Unit
abbrev PcT := aeX × Int × Bool × Unit
def inR (n a b : Int) : Prop := a ≤ n ∧ n ≤ b
instance (n a b : Int) : Decidable (inR n a b) := inferInstanceAs (Decidable (_ ∧ _))
def ao2 (s : aeX) : Prop := inR s.2.1 (-100000000) 100000000 ∧ inR s.2.2.1 (-100000000) 100000000 ∧ inR s.2.2.2.2.2.1 (-100000000) 100000000 ∧ inR s.2.2.2.1 1 36 ∧ inR s.2.2.2.2.1 1 12 ∧ Nat.gcd s.2.2.2.1.natAbs s.2.2.2.2.1.natAbs = 1
instance (s : aeX) : Decidable (ao2 s) := inferInstanceAs (Decidable (_ ∧ _))
def aiU (last : Int) (s : aeX) : Prop := ao2 s ∧ inR s.1 (last + 1) 1000000
instance (last : Int) (s : aeX) : Decidable (aiU last s) := inferInstanceAs (Decidable (_ ∧ _))
def ag3 : Int → List aeX → Prop
 | last, [] => last = 1000000
 | last, s :: r => aiU last s ∧ ag3 s.1 r
def aKq : (last : Int) → (l : List aeX) → Decidable (ag3 last l)
 | last, [] => inferInstanceAs (Decidable (last = 1000000))
 | last, s :: r => @instDecidableAnd _ _ (inferInstanceAs (Decidable (aiU last s))) (aKq s.1 r)
instance (last : Int) (l : List aeX) : Decidable (ag3 last l) := aKq last l
def ad9 (l : List Int) : Prop := 2 ≤ l.length ∧ l.length ≤ 17 ∧ ∀ v ∈ l, inR v 0 65535
instance (l : List Int) : Decidable (ad9 l) := inferInstanceAs (Decidable (_ ∧ _ ∧ _))
def ad0 (l : List aeX) : Prop := 1 ≤ l.length ∧ l.length ≤ 4 ∧ ag3 0 l
instance (l : List aeX) : Decidable (ad0 l) := inferInstanceAs (Decidable (_ ∧ _ ∧ _))
def acD (c : CvT) : Prop := (c.1 = 1 ∧ c.2.1 = [] ∧ c.2.2.1 = []) ∨ (c.1 = 2 ∧ ad9 c.2.1 ∧ c.2.2.1 = []) ∨ (c.1 = 3 ∧ c.2.1 = [] ∧ ad0 c.2.2.1)
instance (c : CvT) : Decidable (acD c) := inferInstanceAs (Decidable (_ ∨ _ ∨ _))
noncomputable def eqb {α : Type} (a b : α) : Bool := open Classical in if a = b then true else false
theorem aHj {α : Type} {a b : α} (h : a = b) : eqb a b = true := if_pos h
theorem awD {α : Type} {a b : α} (h : ¬ a = b) : eqb a b = false := if_neg h
def acV (x : Int × Int × Int × Unit) : Option (Bool × Unit) := some (decide (inR x.1 x.2.1 x.2.2.1), ())
def abY (x : Int × Int × Unit) : Option (FxT × Unit) := if aa9 x.1 ∧ aa9 x.2.1 then some ((ofQ x.1 x.2.1).1, ()) else none
def aaF (x : Int × Unit) : Option (FxT × Unit) := if aa9 x.1 then some (fx (mkRat x.1 1), ()) else none
def ab7 (q : Rat) : Rat := if q < 0 then 0 else if q > 1 then 1 else q
noncomputable def acW : FxT × Unit → Option (FxT × Unit) := acZ (fun q : Rat => (fx q, ())) (fun q => adE q) (fun q => (fx (ab7 q), ()))
def aiP (x : List Int × Unit) : Option (Bool × Unit) := some (decide (ad9 x.1), ())
def afY (x : PcT × Unit) : Option (Bool × Unit) := if inR x.1.2.1 0 1000000 then some (decide (aiU x.1.2.1 x.1.1), ()) else none
def af1 (x : CvT × Unit) : Option (Bool × Unit) := some (decide (ad0 x.1.2.2.1), ())
def afG (x : CvT × Unit) : Option (Int × Unit) := some (if acD x.1 then 0 else 90, ())
def atC (c : CvT) : Prop := acD c ∧ ∀ s ∈ c.2.2.1, s.2.2.2.2.1 = 1
instance (c : CvT) : Decidable (atC c) := inferInstanceAs (Decidable (_ ∧ _))
def alZ (x : CvT × Unit) : Option (Bool × Unit) := some (decide (atC x.1), ())
def aH2 (l : List Int) : Bool := (List.range (l.length - 1)).any (fun i => decide (l.getD (i + 1) 0 > l.getD i 0))
def aI6 (l : List Int) : Bool := (List.range (l.length - 1)).any (fun i => decide (l.getD (i + 1) 0 < l.getD i 0))
def aiR (c : CvT) : Int :=
 if c.1 = 3 then (if c.2.2.1.length > 1 then 0 else if (c.2.2.1.getD 0 (0, 0, 0, 0, 0, 0, ())).2.1 < 0 then -1 else 1)
 else if !aI6 c.2.1 then 1 else if !aH2 c.2.1 then -1 else 0
def agL (x : CvT × Unit) : Option (Int × Int × Unit) := some (if acD x.1 then (aiR x.1, 0, ()) else (0, 90, ()))
def dig (n : Nat) : List Int := atV 10000 n
theorem adA (n : Nat) : Dg 10000 (dig n) := aF3 (B := 10000) (by omega) n
theorem aHm (n : Nat) : Cn (dig n) := aMr (B := 10000) (by omega) n
theorem ahK (n : Nat) : V 10000 (dig n) = n := aEj (B := 10000) (by omega) n
theorem awH {m n : Nat} (h : dig m = dig n) : m = n := aHl (B := 10000) (by omega) h
theorem aBJ {l : List Int} {n : Nat} (h1 : Dg 10000 l) (h2 : Cn l) (h3 : V 10000 l = n) : l = dig n := awG (B := 10000) (by omega) h1 h2 h3
theorem dig_length_le_iff {n k : Nat} : (dig n).length ≤ k ↔ n < 10000 ^ k := by
 constructor
 ·intro h
  have h1 := avR (B := 10000) (by omega) n
  exact Nat.lt_of_lt_of_le h1 (Nat.pow_le_pow_right (by omega) h)
 ·intro h
  exact af7 (by omega) h
theorem ab2 {m n : Nat} (h : m ≤ n) : (dig m).length ≤ (dig n).length := by
 rw [dig_length_le_iff]
 exact Nat.lt_of_le_of_lt h (dig_length_le_iff.1 (Nat.le_refl _))
theorem dig_zero : dig 0 = [] := ac2 _
theorem dig_nil_iff {n : Nat} : dig n = [] ↔ n = 0 := by
 constructor
 ·intro h
  exact awH (h.trans dig_zero.symm)
 ·rintro rfl; exact dig_zero
theorem aMs {d : Nat} (h0 : d ≠ 0) (h1 : d < 10000) : dig d = [(d : Int)] := aAc (by omega) h0 h1
theorem anC {m n : Nat} (h : (dig m).length < (dig n).length) : m < n := by
 rcases Nat.lt_or_ge m n with h2 | h2
 ·exact h2
 ·have := ab2 h2; omega
theorem aAe {n k : Nat} (h : (mag n).length ≤ k) : (dig n).length ≤ 3 * k := by
 rw [mag_length_le_iff] at h
 rw [dig_length_le_iff, Nat.pow_mul]
 exact Nat.lt_of_lt_of_le h (Nat.pow_le_pow_left (by omega) _)
theorem aw6 {k n : Nat} (h : Bd k n) (hk : k ≤ 8) : (dig n).length ≤ 200000000000 := by
 have h1 : Bd 8 n := aaH h hk
 have h2 := aAe (k := 1000000 * 4 ^ 8) h1
 omega
@[reducible] def pl (z : Int) : Bool × List Int × Unit := (decide (z < 0), dig z.natAbs, ())
theorem avD {a b : Int} (h : pl a = pl b) : a = b := by
 obtain ⟨h1, h2⟩ := Prod.mk.inj h
 obtain ⟨h2, -⟩ := Prod.mk.inj h2
 have := awH h2
 simp only [decide_eq_decide] at h1
 omega
abbrev PlT := Bool × List Int × Unit
abbrev RaT := PlT × PlT × Unit
@[reducible] def ra (q : Rat) : RaT := (pl q.num, pl q.den, ())
theorem aKG {a b : Rat} (h : ra a = ra b) : a = b := by
 obtain ⟨h1, h2⟩ := Prod.mk.inj h
 obtain ⟨h2, -⟩ := Prod.mk.inj h2
 have := avD h2
 exact Rat.ext (avD h1) (by omega)
def aNB (a b : List Int) : Nat → Int
 | 0 => 0
 | k + 1 => if a.getD k 0 ≠ b.getD k 0 then a.getD k 0 - b.getD k 0 else aNB a b k
def aPm (a b : List Int) : Int := if a.length ≠ b.length then (a.length : Int) - b.length else aNB a b a.length
open Classical in
noncomputable def acM (x : List Int × Unit) : Option (List Int × Unit) := if Dg 10000 x.1 ∧ x.1.length ≤ 1000000000000 then some (dig (V 10000 x.1).toNat, ()) else none
open Classical in
noncomputable def abF (x : Bool × List Int × Unit) : Option (PlT × Unit) := if Dg 10000 x.2.1 ∧ x.2.1.length ≤ 1000000000000 then some ((x.1 && decide (V 10000 x.2.1 ≠ 0), dig (V 10000 x.2.1).toNat, ()), ()) else none
noncomputable def afT (x : List UInt8 × Unit) : Option (Bool × Unit) := if x.1.length ≤ 1000000000000 then some ((rdW x.1).isSome, ()) else none
noncomputable def aoG : List UInt8 × Unit → Option (PlT × Unit) := acZ (fun z : Int => (dec z, ())) (fun z => Fit z) (fun z => (pl z, ()))
noncomputable def acE (x : Int × Unit) : Option (PlT × Unit) := if aa9 x.1 then some (pl x.1, ()) else none
def ayL (n : Nat) : List UInt8 := [UInt8.ofNat (48 + n / 1000), UInt8.ofNat (48 + n / 100 % 10), UInt8.ofNat (48 + n / 10 % 10), UInt8.ofNat (48 + n % 10)]
noncomputable def ap6 : Int × Unit → Option (List UInt8 × Unit) := acZ (fun n : Nat => ((n : Int), ())) (fun n => n < 10000) (fun n => (ayL n, ()))
noncomputable def alW : PlT × Unit → Option (List UInt8 × Unit) := acZ (fun z : Int => (pl z, ())) (fun z => Bd 6 z.natAbs) (fun z => (dec z, ()))
noncomputable def ap7 : PlT × Unit → Option (List UInt8 × Int × Unit) := acZ (fun z : Int => (pl z, ())) (fun z => Bd 6 z.natAbs) (fun z => wrW z)
noncomputable def afS (x : List Int × List Int × Unit) : Option (Int × Unit) := open Classical in if Dg 10000 x.1 ∧ Dg 10000 x.2.1 ∧ x.1.length ≤ 1000000000000 ∧ x.2.1.length ≤ 1000000000000 then some (aPm x.1 x.2.1, ()) else none
noncomputable def auG : List Int × List Int × Unit → Option (List Int × Unit) := acZ (fun p : Nat × Nat => (dig p.1, dig p.2, ())) (fun p => (dig p.1).length ≤ 1000000000000 ∧ (dig p.2).length ≤ 1000000000000) (fun p => (dig (p.1 + p.2), ()))
open Classical in
noncomputable def abA (x : List Int × List Int × Unit) : Option (List Int × Unit) := if Dg 10000 x.1 ∧ Dg 10000 x.2.1 ∧ x.1.length ≤ 1000000000000 ∧ x.2.1.length ≤ x.1.length ∧ V 10000 x.2.1 ≤ V 10000 x.1 then some (dig (V 10000 x.1 - V 10000 x.2.1).toNat, ()) else none
open Classical in
noncomputable def abR (x : List Int × List Int × Unit) : Option (List Int × Unit) := if Dg 10000 x.1 ∧ (Dg 10000 x.2.1 ∨ x.2.1 = [10000]) ∧ x.1.length ≤ 400000000000 ∧ x.2.1.length ≤ 400000000000 then some (dig (V 10000 x.1 * V 10000 x.2.1).toNat, ()) else none
noncomputable def ap5 : List Int × Int × Unit → Option (List Int × Int × Unit) := acZ (fun p : Nat × Nat => (dig p.1, (p.2 : Int), ())) (fun p => (dig p.1).length ≤ 1000000000000 ∧ 0 < p.2 ∧ p.2 < 10000) (fun p => (dig (p.1 / p.2), ((p.1 % p.2 : Nat) : Int), ()))
noncomputable def ajC : List Int × List Int × Unit → Option (List Int × List Int × Unit) := acZ (fun p : Nat × Nat => (dig p.1, dig p.2, ())) (fun p => (dig p.1).length ≤ 200000000000 ∧ (dig p.2).length ≤ 200000000000 ∧ p.2 ≠ 0) (fun p => (dig (p.1 / p.2), dig (p.1 % p.2), ()))
noncomputable def ajD : PlT × Unit → Option (PlT × Unit) := acZ (fun z : Int => (pl z, ())) (fun z => Bd 8 z.natAbs) (fun z => (pl (-z), ()))
noncomputable def agK : PlT × PlT × Unit → Option (PlT × Unit) := acZ (fun p : Int × Int => (pl p.1, pl p.2, ())) (fun p => Bd 7 p.1.natAbs ∧ Bd 7 p.2.natAbs) (fun p => (pl (p.1 + p.2), ()))
noncomputable def ajE : PlT × PlT × Unit → Option (PlT × Unit) := acZ (fun p : Int × Int => (pl p.1, pl p.2, ())) (fun p => Bd 7 p.1.natAbs ∧ Bd 7 p.2.natAbs) (fun p => (pl (p.1 - p.2), ()))
noncomputable def aeS : PlT × PlT × Unit → Option (PlT × Unit) := acZ (fun p : Int × Int => (pl p.1, pl p.2, ())) (fun p => Bd 7 p.1.natAbs ∧ Bd 7 p.2.natAbs) (fun p => (pl (p.1 * p.2), ()))
noncomputable def afU : PlT × PlT × Unit → Option (PlT × PlT × Unit) := acZ (fun p : Int × Int => (pl p.1, pl p.2, ())) (fun p => Bd 6 p.1.natAbs ∧ Bd 6 p.2.natAbs ∧ p.2 ≠ 0) (fun p => (pl (p.1 / p.2), pl (p.1 % p.2), ()))
noncomputable def amW : PlT × PlT × Unit → Option (Int × Unit) := acZ (fun p : Int × Int => (pl p.1, pl p.2, ())) (fun p => Bd 7 p.1.natAbs ∧ Bd 7 p.2.natAbs) (fun p => ((p.1 - p.2).sign, ()))
noncomputable def aeT : PlT × PlT × Unit → Option (PlT × Unit) := acZ (fun p : Int × Int => (pl p.1, pl p.2, ())) (fun p => Bd 8 p.1.natAbs ∧ Bd 8 p.2.natAbs) (fun p => (pl (Nat.gcd p.1.natAbs p.2.natAbs), ()))
def shF (x : FxT) : Prop := x.1.length ≤ 1000000000000 ∧ x.2.1.length ≤ 1000000000000
instance (x : FxT) : Decidable (shF x) := inferInstanceAs (Decidable (_ ∧ _))
noncomputable def ahN : PlT × PlT × Unit → Option (RaT × Unit) := acZ (fun x : Int × Int => (pl x.1, pl x.2, ())) (fun x => Bd 6 x.1.natAbs ∧ Bd 6 x.2.natAbs ∧ x.2 ≠ 0) (fun x => (ra (Rat.divInt x.1 x.2), ()))
noncomputable def amT : Int × Int × Unit → Option (RaT × Unit) := acZ (fun x : Int × Int => (x.1, x.2, ())) (fun x => aa9 x.1 ∧ aa9 x.2 ∧ x.2 ≠ 0) (fun x => (ra (Rat.divInt x.1 x.2), ()))
noncomputable def adY (x : FxT × Unit) : Option (Bool × Unit) := if shF x.1 then some ((rdF x.1).isSome, ()) else none
noncomputable def aoF : FxT × Unit → Option (RaT × Unit) := acZ (fun x : Rat => (fx x, ())) (fun x => adE x) (fun x => (ra x, ()))
noncomputable def ap4 : RaT × Unit → Option (FxT × Int × Unit) := acZ (fun x : Rat => (ra x, ())) (fun x => BdQ 6 x) (fun x => wrF x)
noncomputable def axJ : RaT × RaT × Unit → Option (RaT × Unit) := acZ (fun x : Rat × Rat => (ra x.1, ra x.2, ())) (fun x => BdQ 3 x.1 ∧ BdQ 3 x.2) (fun x => (ra (x.1 + x.2), ()))
noncomputable def amU : RaT × RaT × Unit → Option (Int × Unit) := acZ (fun x : Rat × Rat => (ra x.1, ra x.2, ())) (fun x => BdQ 3 x.1 ∧ BdQ 3 x.2) (fun x => (aoK x.1 x.2, ()))
noncomputable def axK (x : Int × Int × Unit) : Option (FxT × Int × Unit) := alY x
noncomputable def amV (x : FxT × FxT × Unit) : Option (Int × Int × Unit) := if shF x.1 ∧ shF x.2.1 then afX x else none
noncomputable def aHw (x : FxT × FxT × Unit) : Option (FxT × Int × Unit) := if shF x.1 ∧ shF x.2.1 then adO x else none
def shC (c : CvT) : Prop := c.2.1.length ≤ 1000000000000 ∧ c.2.2.1.length ≤ 1000000000000
instance (c : CvT) : Decidable (shC c) := inferInstanceAs (Decidable (_ ∧ _))
def abK (x : Int × Int × Unit) : Option (Bool × Unit) := if inR x.1 1 36 ∧ inR x.2.1 1 12 then some (!decide (Nat.gcd x.1.natAbs x.2.1.natAbs = 1), ()) else none
def aQB (x : Int × Int × Unit) : Option (FxT × Unit) := abY x
def aqS (b : BdT) : BdT := (min (max b.1 0) 1000000000000, min (max b.2.1 0) 1000000000000, ())
def arL (a b : BdT) : BdT := (min a.1 b.1, max a.2.1 b.2.1, ())
noncomputable def acG (q : Rat) : Option Rat := if adE q then some q else none
def ax4 : Option Rat → FxT × Int × Unit
 | some q => (fx q, 0, ())
 | none => (([], [], ()), 6, ())
noncomputable def aBh (m a : Int) (x : Rat) : Option Rat := (acG (mkRat m 1 * x)).bind fun u => (acG (u + mkRat a 1)).bind fun v => acG (v / mkRat 1000000 1)
noncomputable def ac7 (u : Rat) : Nat → Rat → Option Rat
 | 0, y => some y
 | n + 1, y => (acG (y * u)).bind (ac7 u n)
def azH (u : Rat) : Rat := if u < 0 then 0 else u
noncomputable def aDC (s : aeX) (x : Rat) : Option Rat := (aBh s.2.1 s.2.2.1 x).bind fun u => (ac7 (azH u) (s.2.2.2.1 - 1).toNat (azH u)).bind fun y => (acG (y + mkRat s.2.2.2.2.2.1 1000000)).map ab7
def ae2 (x : Rat) (l : List aeX) : Nat := l.findIdx (fun s => decide (x ≤ mkRat s.1 1000000))
noncomputable def atU (l : List aeX) (x : Rat) : FxT × Int × Unit := if (l.getD (ae2 x l) (0, 0, 0, 0, 0, 0, ())).2.2.2.2.1 = 1 then ax4 (aDC (l.getD (ae2 x l) (0, 0, 0, 0, 0, 0, ())) x) else (([], [], ()), 5, ())
noncomputable def aiW (l : List Int) (p : Rat) : Nat := min p.floor.toNat (l.length - 2)
noncomputable def aNm (l : List Int) (x : Rat) : Option Rat := (acG (x * mkRat ((l.length - 1 : Nat) : Int) 1)).bind fun p =>
 (acG (p - mkRat (aiW l p : Int) 1)).bind fun r => (acG (r * mkRat (l.getD (aiW l p + 1) 0 - l.getD (aiW l p) 0) 1)).bind fun t =>
 (acG (mkRat (l.getD (aiW l p) 0) 1 + t)).bind fun y => acG (y / mkRat 65535 1)
noncomputable def an5 (c : CvT) (x : Rat) : FxT × Int × Unit := if c.1 = 1 then (fx x, 0, ()) else if c.1 = 2 then ax4 (aNm c.2.1 x) else atU c.2.2.1 x
noncomputable def ajM : PcT × FxT × Unit → Option (FxT × Int × Unit) := acZ (fun p : PcT × Rat => (p.1, fx p.2, ())) (fun p => adE p.2 ∧ ao2 p.1.1) (fun p => ax4 (aBh p.1.1.2.1 p.1.1.2.2.1 p.2))
noncomputable def agW : (CvT × Unit) × FxT × Unit → Option (FxT × Int × Unit) := acZ (fun p : CvT × Rat => ((p.1, ()), fx p.2, ())) (fun p => adE p.2) (fun p => (fx p.2, 0, ()))
noncomputable def afZ : (CvT × Unit) × FxT × Unit → Option (FxT × Int × Unit) := acZ (fun p : CvT × Rat => ((p.1, ()), fx p.2, ())) (fun p => adE p.2 ∧ 0 ≤ p.2 ∧ p.2 ≤ 1 ∧ ad9 p.1.2.1) (fun p => ax4 (aNm p.1.2.1 p.2))
noncomputable def aiA : (CvT × Unit) × FxT × Unit → Option (FxT × Int × Unit) := acZ (fun p : CvT × Rat => ((p.1, ()), fx p.2, ())) (fun p => adE p.2 ∧ p.2 ≤ 1 ∧ ad0 p.1.2.2.1) (fun p => atU p.1.2.2.1 p.2)
noncomputable def abZ (x : CvT × FxT × Unit) : Option (FxT × Int × Unit) := some (if acD x.1 then (match rdF x.2.1 with | some q => an5 x.1 (ab7 q) | none => (([], [], ()), 20, ())) else (([], [], ()), 90, ()))
def ayI : List BdT → BdT
 | [] => (0, 0, ())
 | b :: l => l.foldl arL b
def okL (l : List BdT) : Prop := l ≠ [] ∧ l.length ≤ 1000000 ∧ ∀ b ∈ l, okB b.1 b.2.1
instance (l : List BdT) : Decidable (okL l) := inferInstanceAs (Decidable (_ ∧ _ ∧ _))
def aiB (x : List BdT × Unit) : Option (BdT × Int × Unit) := if okL x.1 then some (ayI x.1, 0, ()) else none
noncomputable def aeV : List FxT × Unit → Option (BdT × Int × Unit) := acZ (fun l : List Rat => (l.map (fun q => fx q), ())) (fun l => l ≠ [] ∧ l.length ≤ 1000000 ∧ ∀ q ∈ l, adE q ∧ (agB q q).2.1 = 0) (fun l => (ayI (l.map fun q => (agB q q).1), 0, ()))
def aeM (m a n : Int) : Int := m * n + a * 1000000000000
def ayB (s : aeX) (lo hi : Int) : BdT :=
 (max (min (aeM s.2.1 s.2.2.1 lo / 1000000) (aeM s.2.1 s.2.2.1 hi / 1000000)) 0, max (max (-(-aeM s.2.1 s.2.2.1 lo / 1000000)) (-(-aeM s.2.1 s.2.2.1 hi / 1000000))) 0, ())
noncomputable def ayC (s : aeX) (lo hi : Int) : BdT × Int × Unit :=
 if (aJW (ayB s lo hi) s.2.2.2.1 s.2.2.2.2.1).2.1 ≠ 0 then ((0, 0, ()), (aJW (ayB s lo hi) s.2.2.2.1 s.2.2.2.2.1).2.1, ())
 else if (aM6 (aJW (ayB s lo hi) s.2.2.2.1 s.2.2.2.2.1).1 (s.2.2.2.2.2.1 * 1000000, s.2.2.2.2.2.1 * 1000000, ())).2.1 ≠ 0 then ((0, 0, ()), (aM6 (aJW (ayB s lo hi) s.2.2.2.1 s.2.2.2.2.1).1 (s.2.2.2.2.2.1 * 1000000, s.2.2.2.2.2.1 * 1000000, ())).2.1, ())
 else (aqS (aM6 (aJW (ayB s lo hi) s.2.2.2.1 s.2.2.2.2.1).1 (s.2.2.2.2.2.1 * 1000000, s.2.2.2.2.2.1 * 1000000, ())).1, 0, ())
def inU (n : Int) : Prop := inR n 0 1000000000000
instance (n : Int) : Decidable (inU n) := inferInstanceAs (Decidable (_ ∧ _))
noncomputable def adP (x : PcT × Int × Int × Unit) : Option (BdT × Int × Unit) := if ao2 x.1.1 ∧ inU x.2.1 ∧ inU x.2.2.1 then some (ayC x.1.1 x.2.1 x.2.2.1) else none
def af0 (x : (CvT × Unit) × BdT × Unit) : Option (BdT × Int × Unit) := some (x.2.1, 0, ())
def ab8 (l : List aeX) (k : Nat) : Int := if k = 0 then 0 else (l.getD (k - 1) (0, 0, 0, 0, 0, 0, ())).1
def aa7 (n : Int) (l : List aeX) : Nat := l.findIdx (fun s => decide (n ≤ s.1 * 1000000))
noncomputable def aCi (l : List aeX) (lo hi : Int) (k : Nat) : BdT × Int × Unit := ayC (l.getD k (0, 0, 0, 0, 0, 0, ())) (max lo (ab8 l k * 1000000)) (min hi ((l.getD k (0, 0, 0, 0, 0, 0, ())).1 * 1000000))
noncomputable def ar5 (l : List aeX) (lo hi : Int) : Nat → Nat → List BdT → BdT × Int × Unit
 | 0, _, acc => (ayI acc, 0, ())
 | n + 1, k, acc => if (aCi l lo hi k).2.1 ≠ 0 then ((0, 0, ()), (aCi l lo hi k).2.1, ()) else ar5 l lo hi n (k + 1) (acc ++ [(aCi l lo hi k).1])
noncomputable def atH (l : List aeX) (lo hi : Int) : BdT × Int × Unit := ar5 l lo hi (aa7 hi l + 1 - aa7 lo l) (aa7 lo l) []
noncomputable def ac5 (x : (CvT × Unit) × BdT × Unit) : Option (BdT × Int × Unit) := if ad0 x.1.1.2.2.1 ∧ inU x.2.1.1 ∧ inU x.2.1.2.1 ∧ x.2.1.1 ≤ x.2.1.2.1 then some (atH x.1.1.2.2.1 x.2.1.1 x.2.1.2.1) else none
def aCW (l : List Int) (n : Int) : Nat := min (n * ((l.length - 1 : Nat) : Int) / 1000000000000).toNat (l.length - 2)
def akW (l : List Int) (n : Int) : Int := l.getD (aCW l n) 0 * 1000000000000 + (n * ((l.length - 1 : Nat) : Int) - (aCW l n : Int) * 1000000000000) * (l.getD (aCW l n + 1) 0 - l.getD (aCW l n) 0)
def aQK (m : Int) : BdT := (m / 65535, -(-m / 65535), ())
def aFE (l : List Int) (lo hi : Int) (k : Nat) : Bool := decide (inR ((k : Int) * 1000000000000) (lo * ((l.length - 1 : Nat) : Int)) (hi * ((l.length - 1 : Nat) : Int)))
def aPE (l : List Int) (lo hi : Int) (k : Nat) : List BdT := aQK (akW l lo) :: aQK (akW l hi) :: ((List.range k).filter (aFE l lo hi)).map (fun j => aQK (l.getD j 0 * 1000000000000))
def apX (l : List Int) (lo hi : Int) : BdT := ayI (aPE l lo hi l.length)
def aeF (x : (CvT × Unit) × BdT × Unit) : Option (BdT × Int × Unit) := if ad9 x.1.1.2.1 ∧ inU x.2.1.1 ∧ inU x.2.1.2.1 ∧ x.2.1.1 ≤ x.2.1.2.1 then some (apX x.1.1.2.1 x.2.1.1 x.2.1.2.1, 0, ()) else none
noncomputable def aHs (c : CvT) (b : BdT) : BdT × Int × Unit := if c.1 = 1 then (b, 0, ()) else if c.1 = 2 then (apX c.2.1 b.1 b.2.1, 0, ()) else atH c.2.2.1 b.1 b.2.1
noncomputable def agM (x : CvT × BdT × Unit) : Option (BdT × Int × Unit) := some (if acD x.1 then (if okB x.2.1.1 x.2.1.2.1 then aHs x.1 (aqS x.2.1) else ((0, 0, ()), 30, ())) else ((0, 0, ()), 90, ()))
def aqU : CvT := (2, [0, 65535, 0], [], ())
def stepsC : CvT := (3, [], [(500000, 1000000, 0, 1, 1, 0, ()), (1000000, 2000000, -1000000, 2, 1, 500000, ())], ())
def rootC : CvT := (3, [], [(1000000, 1000000, 0, 1, 2, 0, ())], ())
def ab9 (x : Int × Int × Unit) : Option (FxT × Unit) := abY x
def ajF (_ : Unit) : Option (CvT × Unit) := some (aqU, ())
def amX (_ : Unit) : Option (CvT × Unit) := some (stepsC, ())
def aqA (_ : Unit) : Option (CvT × Unit) := some (rootC, ())
noncomputable def adZ (x : CvT × FxT × FxT × Unit) : Option (Bool × Unit) := (abZ (x.1, x.2.1, ())).map (fun r => (eqb r (x.2.2.1, 0, ()), ()))
def asD (_ : Unit) : Option (Bool × Unit) := some (true, ())
end Go.Vs
namespace Go.Vg
open Go
def opn (P : Program) : Nat → TypeId → Ty → Bool
 | 0, _, _ => false
 | n + 1, t, u => Nat.beq (P.cellsOf t) u.size && (match P.underlying t, u with
  | some (.int k), .int k' => decide (k = k')
  | some .bool, .bool => true
  | some .string, .str => true
  | some (.slice e), .sl v => opn P n e v && Nat.ble 1 v.size && Nat.ble 1 (P.bytesOf e)
  | some (.array m e), .arr m' v => Nat.beq m m' && opn P n e v
  | some (.struct fs), u => opFs (opn P n) fs.toList 0 u
  | _, _ => false)
where opFs (f : TypeId → Ty → Bool) : List Field → Nat → Ty → Bool
 | [], _, u => match u with | .unit => true | _ => false
 | x :: r, off, u => match u with
  | .pair t v => Nat.beq x.offset off && f x.type t && opFs f r (off + t.size) v
  | _ => false
theorem aKF {α : Type} {R : α → List Value → Prop} {n : Nat} : ∀ (len : Nat) (cs : List Value), cs.length = len * n → (∀ i, i < len → ∃ x, R x ((cs.drop (i * n)).take n)) → ∃ xs, xs.length = len ∧ RdL R xs cs
 | 0, cs, hl, _ => ⟨[], rfl, by rw [Nat.zero_mul] at hl; exact List.eq_nil_of_length_eq_zero hl⟩
 | len + 1, cs, hl, h => by
  obtain ⟨x, hx⟩ := h 0 (Nat.succ_pos _)
  rw [Nat.zero_mul, List.drop_zero] at hx
  have hl' : (cs.drop n).length = len * n := by rw [List.length_drop, hl, Nat.succ_mul]; omega
  obtain ⟨xs, h1, h2⟩ := aKF len (cs.drop n) hl' (fun i hi => by
   have := h (i + 1) (Nat.succ_lt_succ hi)
   rw [List.drop_drop]
   rwa [Nat.succ_mul, Nat.add_comm] at this)
  exact ⟨x :: xs, by rw [List.length_cons, h1], cs.take n, cs.drop n, (List.take_append_drop n cs).symm, hx, h2⟩
section
variable {H : Type} {enc : TypeId × Value → H} {P : Program} {w : World} {spare : Nat → Bool} {held : Bool}
abbrev am6 (l : List Nat) : Prop := l.all (· ≤ reachBytes) = true
theorem alG {a b : List Nat} (h : am6 (a ++ b)) : am6 a ∧ am6 b := by
 simp only [am6, List.all_append, Bool.and_eq_true] at h
 exact h
theorem avS {e : TypeId} : ∀ {ds : List (DataW H)}, am6 (DataW.weightsAll P e ds) → ∀ d ∈ ds, am6 (d.weights P e)
 | [], _, _, h => by cases h
 | d :: r, h, x, hx => by
  rw [DataW.weightsAll] at h
  obtain ⟨h1, h2⟩ := alG h
  rcases List.mem_cons.1 hx with rfl | hx
  ·exact h1
  ·exact avS h2 x hx
theorem azX : ∀ {ts : List TypeId} {ds : List (DataW H)}, am6 (DataW.weightsEach P ts ds) → ∀ (i : Nat) t d, ts[i]? = some t → ds[i]? = some d → am6 (d.weights P t)
 | [], _, _, i, t, d, h, _ => by simp at h
 | _ :: _, [], _, i, t, d, _, h => by simp at h
 | t :: ts, d :: ds, h, i, t', d', h1, h2 => by
  rw [DataW.weightsEach] at h
  obtain ⟨h3, h4⟩ := alG h
  cases i with
  | zero => simp at h1 h2; subst h1; subst h2; exact h3
  | succ i => exact azX h4 i t' d' (by simpa using h1) (by simpa using h2)
theorem amQ {a : Addr} {n : Nat} {l : List Value} (h : w.cells? 0 a n = some l) : l.length = n ∧ ∀ i (hi : i < n), w.cell? (a.add i) = l[i]? := by
 unfold World.cells? at h
 rw [if_pos (Nat.zero_le _)] at h
 refine ⟨by simpa using mapM_some_length h, fun i hi => ?_⟩
 have := mapM_some_get h i i (by simp [hi])
 exact this
theorem aJl {a : Addr} {v : Value} (h : w.cell? a = some v) : ∃ c e fr, w.heap[a.block]? = some (.cells c e fr) ∧ a.spot = none ∧ c[a.off]? = some v := by
 unfold World.cell? at h
 split at h
 ·rename_i c e fr hc
  split at h
  ·cases h
  ·rename_i hs
   exact ⟨c, e, fr, hc, by simpa using hs, h⟩
 ·cases h
theorem aCB : reachBytes ≤ lim := by decide
theorem aK2 {n : Nat} {f : TypeId → Ty → Bool} {cs : List Value} (hf : ∀ t u cs d ps, f t u = true → DataW.trod enc P w 0 spare held n t cs = some (d, ps) → am6 (d.weights P t) → ∃ x, Rd (· < w.heap.size) w u x cs)
  (hsz : ∀ t u, f t u = true → P.cellsOf t = u.size) :
  ∀ (fs : List Field) (off : Nat) (u : Ty) (xs : List (DataW H × List MemPlace)), opn.opFs f fs off u = true → cs.length = off + u.size → xs.length = fs.length →
   (∀ (i : Nat) (g : Field), fs[i]? = some g → DataW.trod enc P w 0 spare held n g.type ((cs.drop g.offset).take (P.cellsOf g.type)) = xs[i]?) →
   (∀ (i : Nat) (g : Field) y, fs[i]? = some g → xs[i]? = some y → am6 (y.1.weights P g.type)) → ∃ x, Rd (· < w.heap.size) w u x (cs.drop off)
 | [], off, u, xs, h, hl, _, _, _ => by
  cases u <;> first | (cases h; done) | skip
  exact ⟨(), by
   have : cs.length = off := by simpa [Ty.size] using hl
   show cs.drop off = []
   exact List.drop_eq_nil_of_le (by omega)⟩
 | g :: r, off, u, xs, h, hl, hx, ht, hw => by
  cases u <;> first | (cases h; done) | skip
  rename_i t v
  simp only [opn.opFs, Bool.and_eq_true] at h
  obtain ⟨⟨h1, h2⟩, h3⟩ := h
  have h1 := Nat.eq_of_beq_eq_true h1
  subst h1
  have hs := hsz _ _ h2
  cases xs with
  | nil => simp at hx
  | cons y ys =>
   have h4 := ht 0 g rfl
   rw [hs] at h4
   obtain ⟨a, ha⟩ := hf _ _ _ y.1 y.2 h2 h4 (hw 0 g y rfl rfl)
   obtain ⟨b, hb⟩ := aK2 hf hsz r (g.offset + t.size) v ys h3 (by rw [hl]; simp only [Ty.size]; omega) (by simpa using hx) (fun i k hk => by have := ht (i + 1) k (by simpa using hk); simpa using this) (fun i k z hk hz => hw (i + 1) k z (by simpa using hk) (by simpa using hz))
   refine ⟨(a, b), _, _, (List.take_append_drop t.size (cs.drop g.offset)).symm, ha, ?_⟩
   rw [List.drop_drop]
   exact hb
theorem at5 {n : Nat} {t : TypeId} {u : Ty} (h : opn P n t u = true) : P.cellsOf t = u.size := by
 cases n with
 | zero => cases h
 | succ n =>
  simp only [opn, Bool.and_eq_true] at h
  exact Nat.eq_of_beq_eq_true h.1
theorem aoV : ∀ (n : Nat) (t : TypeId) (u : Ty) (fuel : Nat) (cs : List Value) (d : DataW H) (ps : List MemPlace), opn P n t u = true → DataW.trod enc P w 0 spare held fuel t cs = some (d, ps) → am6 (d.weights P t) →
  ∃ x, Rd (· < w.heap.size) w u x cs
 | 0, _, _, _, _, _, _, h, _, _ => by cases h
 | n + 1, t, u, fuel, cs, d, ps, h, hd, hw => by
  have hsz := at5 h
  simp only [opn, Bool.and_eq_true] at h
  obtain ⟨-, h⟩ := h
  split at h
  ·rename_i k k' hu
   have := of_decide_eq_true h
   subst this
   obtain ⟨m, rfl, _, hwf⟩ := DataW.trod_int hu hd
   refine ⟨m, rfl, ?_⟩
   simpa [Lit.wf] using hwf
  ·rename_i hu
   obtain ⟨b, rfl, _⟩ := DataW.trod_bool hu hd
   exact ⟨b, rfl⟩
  ·rename_i hu
   obtain ⟨s, rfl, hx, _⟩ := DataW.trod_string hu hd
   injection hx with hx _
   subst hx
   have : s.data.toList.length ≤ reachBytes := by simpa [am6, DataW.weights] using hw
   exact ⟨s.data.toList, rfl, Nat.le_trans this aCB⟩
  ·rename_i e v hu
   simp only [Bool.and_eq_true] at h
   obtain ⟨⟨h1, h2⟩, h3⟩ := h
   have h2 := Nat.le_of_ble_eq_true h2
   have h3 := Nat.le_of_ble_eq_true h3
   have hse := at5 h1
   rcases DataW.trod_slice hu hd with ⟨rfl, hx⟩ | ⟨a, len, cap, elems, rest, m, rfl, rfl, hx, _, hlc, _, hle, hel, _, _⟩
   ·exact ⟨[], none, 0, rfl, Nat.le_refl _, Nat.zero_le _, Or.inl rfl⟩
   ·injection hx with hx _
    subst hx
    simp only [DataW.weights, hu, am6, List.all_cons, Bool.and_eq_true, decide_eq_true_eq, List.all_append] at hw
    obtain ⟨hw1, hw2, _⟩ := hw
    have hlim : len ≤ lim := by
     have : len * 1 ≤ (List.map (·.1) elems).length * P.bytesOf e := Nat.mul_le_mul (by simp [hle]) h3
     have h4 : (List.map (·.1) elems).length * P.bytesOf e ≤ ((List.map (·.1) elems).length + (List.map (·.1) rest).length) * P.bytesOf e := Nat.mul_le_mul_right _ (Nat.le_add_right _ _)
     exact Nat.le_trans (by omega) (Nat.le_trans hw1 aCB)
    rcases Nat.eq_zero_or_pos len with h0 | h0
    ·subst h0
     exact ⟨[], some a, cap, rfl, hlc, Nat.zero_le _, Or.inl rfl⟩
    ·-- the cells of an element
     have key : ∀ i, i < len → ∃ l y, w.cells? 0 (a.add (i * v.size)) v.size = some l ∧ DataW.trod enc P w 0 spare held m e l = some y ∧ elems[i]? = some y := by
      intro i hi
      have := hel i hi
      rw [List.getElem?_eq_getElem (by omega), hse] at this
      obtain ⟨l, hl1, hl2⟩ := Option.bind_eq_some_iff.1 this
      exact ⟨l, _, hl1, hl2, by rw [List.getElem?_eq_getElem (by omega)]⟩
     obtain ⟨l0, y0, hl0, -, -⟩ := key 0 h0
     obtain ⟨hn0, hc0⟩ := amQ hl0
     have hc00 := hc0 0 h2
     rw [List.getElem?_eq_getElem (by omega)] at hc00
     obtain ⟨c, et, fr, hb, hsp, _⟩ := aJl hc00
     have e0 : a.add (0 * v.size) = a := by simp [Addr.add]
     rw [e0] at hb hsp
     have e00 : a.add 0 = a := by simp [Addr.add]
     rw [e00] at hb hsp
     obtain ⟨b, o, sp⟩ := a
     dsimp only at hb hsp
     subst hsp
     -- each cell
     have cell : ∀ i, i < len → ∀ j, j < v.size → ∀ l, w.cells? 0 (Addr.add ⟨b, o, none⟩ (i * v.size)) v.size = some l → c[o + i * v.size + j]? = l[j]? := by
      intro i hi j hj l hl
      obtain ⟨q1, q2⟩ := amQ hl
      have := q2 j hj
      rw [← this]
      have ea : ((Addr.add ⟨b, o, none⟩ (i * v.size)).add j) = ⟨b, o + i * v.size + j, none⟩ := by
       unfold Addr.add
       by_cases c1 : i * v.size = 0 <;> by_cases c2 : j = 0 <;> simp [c1, c2]
      rw [ea]
      unfold World.cell?
      dsimp only
      rw [hb]
      rfl
     have part : ∀ i, i < len → ∀ l, w.cells? 0 (Addr.add ⟨b, o, none⟩ (i * v.size)) v.size = some l → (c.toList.drop (o + i * v.size)).take v.size = l := by
      intro i hi l hl
      obtain ⟨q1, q2⟩ := amQ hl
      apply List.ext_getElem?
      intro j
      rcases Nat.lt_or_ge j v.size with hj | hj
      ·rw [List.getElem?_take_of_lt hj, List.getElem?_drop, ← cell i hi j hj l hl]
       simp
      ·rw [List.getElem?_eq_none (by rw [List.length_take]; omega), List.getElem?_eq_none (by omega)]
     have hlen : o + len * v.size ≤ c.size := by
      obtain ⟨l, y, hl, -, -⟩ := key (len - 1) (by omega)
      obtain ⟨q1, q2⟩ := amQ hl
      have := cell (len - 1) (by omega) (v.size - 1) (by omega) l hl
      rw [List.getElem?_eq_getElem (by omega)] at this
      have hlt := (Array.getElem?_eq_some_iff.1 this).1
      have e1 : len * v.size = (len - 1) * v.size + v.size := by
       conv => lhs; rw [show len = (len - 1) + 1 by omega]
       rw [Nat.succ_mul]
      omega
     obtain ⟨xs, hx1, hx2⟩ := aKF (R := Rd (· < w.heap.size) w v) (n := v.size) len ((c.toList.drop o).take (len * v.size)) (by rw [List.length_take, List.length_drop]; simp; omega) (fun i hi => by
      obtain ⟨l, y, hl, hl2, hy⟩ := key i hi
      have hm : y.1 ∈ elems.map (·.1) := List.mem_map.2 ⟨y, List.mem_of_getElem? hy, rfl⟩
      obtain ⟨x, hx⟩ := aoV n e v m l y.1 y.2 h1 hl2 (avS hw2 _ hm)
      refine ⟨x, ?_⟩
      have e2 : ((((c.toList.drop o).take (len * v.size)).drop (i * v.size)).take v.size) = l := by
       rw [← part i hi l hl, List.drop_take, List.take_take, List.drop_drop]
       congr 1
       have : i * v.size + v.size ≤ len * v.size := by rw [← Nat.succ_mul]; exact Nat.mul_le_mul_right _ hi
       omega
      rw [e2]
      exact hx)
     subst hx1
     exact ⟨xs, some ⟨b, o, none⟩, cap, rfl, hlc, hlim, Or.inr ⟨b, o, c, et, fr, rfl, (Array.getElem?_eq_some_iff.1 hb).1, hb, hlen, hx2⟩⟩
  ·rename_i m e m' v hu
   simp only [Bool.and_eq_true] at h
   obtain ⟨h1, h2⟩ := h
   have h1 := Nat.eq_of_beq_eq_true h1
   subst h1
   have hse := at5 h2
   obtain ⟨xs, k, rfl, hx, hlen, hxl, hel⟩ := DataW.trod_array hu hd
   injection hx with hx _
   subst hx
   rw [hsz] at hlen
   have hlen' : cs.length = m * v.size := hlen
   simp only [DataW.weights, hu] at hw
   obtain ⟨ys, hy1, hy2⟩ := aKF (R := Rd (· < w.heap.size) w v) (n := v.size) m cs hlen' (fun i hi => by
    have := hel i hi
    rw [List.getElem?_eq_getElem (by omega), hse] at this
    exact aoV n e v k _ _ _ h2 this (avS hw _ (List.mem_map.2 ⟨_, List.getElem_mem (by omega), rfl⟩)))
   exact ⟨ys, hy1, hy2⟩
  ·rename_i _ fs hu
   obtain ⟨xs, k, rfl, hx, hlen, hxl, hel⟩ := DataW.trod_struct hu hd
   injection hx with hx _
   subst hx
   simp only [DataW.weights, hu] at hw
   obtain ⟨x, hx⟩ := aK2 (n := k) (f := opn P n) (cs := cs) (fun t u cs d ps h1 h2 h3 => aoV n t u k cs d ps h1 h2 h3) (fun t u h => at5 h) fs.toList 0 _ xs h (by rw [hlen, hsz]; omega) (by simpa using hxl) (fun i g hg => hel i g (by simpa using hg))
    (fun i g y hg hy => azX hw i g.type y.1 (by simp [hg]) (by simp [hy]))
   exact ⟨x, by simpa using hx⟩
  ·cases h
theorem aN8 {f : TypeId → Ty → Bool} : ∀ {fs : List Field} {off : Nat} {u : Ty}, opn.opFs f fs off u = true → u.agg = true
 | [], _, u, h => by cases u <;> first | rfl | (cases h; done)
 | _ :: _, _, u, h => by cases u <;> first | rfl | (cases h; done)
theorem aIp {n : Nat} {t : TypeId} {u : Ty} {r : _root_.Go.Reach} {b0 : Nat} {v : Value} {d : DataW H} {ps : List MemPlace} (ho : opn P n t u = true) (hne : u ≠ .unit) (hval : Value.okWide P w r b0 t v) (hd : DataW.Trod enc P w 0 spare held t v d ps) (hw : am6 (d.weights P t)) :
  ∃ x, RdV (· < w.heap.size) w u x v := by
 obtain ⟨fuel, hf⟩ := hd
 obtain ⟨x, hx⟩ := aoV n t u fuel _ _ _ ho hf hw
 refine ⟨x, _, hx, ?_⟩
 cases n with
 | zero => cases ho
 | succ n =>
  simp only [opn, Bool.and_eq_true] at ho
  obtain ⟨-, h⟩ := ho
  split at h
  ·rename_i k k' hu
   obtain ⟨m, rfl⟩ := WideShapes.okWide_int hu hval
   rfl
  ·rename_i hu
   obtain ⟨m, rfl⟩ := WideShapes.okWide_bool hu hval
   rfl
  ·rename_i hu
   obtain ⟨m, rfl⟩ := WideShapes.okWide_string hu hval
   rfl
  ·rename_i e v' hu
   obtain ⟨a, len, cap, rfl⟩ := WideShapes.okWide_slice hu hval
   rfl
  ·rename_i ha
   unfold Value.okWide at hval
   rw [ha] at hval
   obtain ⟨cs, rfl, _⟩ := hval
   rfl
  ·rename_i fs hu'
   obtain ⟨cs, rfl, _⟩ := WideShapes.okWide_struct hu' hval
   unfold vOf
   rw [if_pos (aN8 h)]
   rfl
  ·cases h
def aGY (P : Program) : List TypeId → Ty → Bool
 | [], u => match u with | .unit => true | _ => false
 | t :: ts, u => match u with
  | .pair a b => opn P 8 t a && (match a with | .unit => false | _ => true) && aGY P ts b
  | _ => false
theorem aGZ : ∀ (ts : List TypeId) (u : Ty) (vs : List Value) (ds : List (DataW H)) (ps : List MemPlace) {r : _root_.Go.Reach} {b0 : Nat}, aGY P ts u = true → (∀ (j : Nat) t v, ts[j]? = some t → vs[j]? = some v → Value.okWide P w r b0 t v) →
  DataW.TrodAll enc P w 0 spare held ts vs ds ps → am6 (DataW.weightsEach P ts ds) → ∃ x, RdVs (· < w.heap.size) w u x vs
 | [], u, vs, ds, ps, _, _, ho, _, hd, _ => by
  cases u <;> first | (cases ho; done) | skip
  cases vs with
  | nil => exact ⟨(), rfl⟩
  | cons v vs => cases ds <;> exact hd.elim
 | t :: ts, u, vs, ds, ps, r, b0, ho, hv, hd, hw => by
  cases u <;> first | (cases ho; done) | skip
  rename_i a b
  simp only [aGY, Bool.and_eq_true] at ho
  obtain ⟨⟨h1, h2⟩, h3⟩ := ho
  cases vs with
  | nil => exact hd.elim
  | cons v vs =>
   cases ds with
   | nil => exact hd.elim
   | cons d ds =>
    obtain ⟨p, q, hd1, hd2, _⟩ := hd
    rw [DataW.weightsEach] at hw
    obtain ⟨hw1, hw2⟩ := alG hw
    obtain ⟨x, hx⟩ := aIp h1 (fun e => by subst e; cases h2) (hv 0 t v rfl rfl) hd1 hw1
    obtain ⟨y, hy⟩ := aGZ ts b vs ds q h3 (fun j t' v' e1 e2 => hv (j + 1) t' v' (by simpa using e1) (by simpa using e2)) hd2 hw2
    exact ⟨(x, y), v, vs, rfl, hx, hy⟩
theorem aGI (hl : laidOutB P = true) {W W' : World} (hb : RowKit.Below W.heap.size W W') : ∀ (ts : List TypeId) (vs : List Value) (ds : List (DataW H)) (ps : List MemPlace), (ts.all fun t => P.readableRec t && decide (t < P.types.size)) = true →
  DataW.TrodAll enc P W 0 (fun _ => true) true ts vs ds ps → (∀ x ∈ ps, x.block < W.heap.size) → DataW.TrodAll enc P W' 0 (fun b => decide (b < W.heap.size)) true ts vs ds ps
 | [], [], [], _, _, hd, _ => hd
 | [], _ :: _, [], _, _, hd, _ | [], _, _ :: _, _, _, hd, _ => by cases ‹List Value› <;> exact hd.elim
 | t :: ts, [], ds, _, _, hd, _ => by cases ds <;> exact hd.elim
 | t :: ts, v :: vs, [], _, _, hd, _ => hd.elim
 | t :: ts, v :: vs, d :: ds, ps, hr, ⟨p, q, h1, h2, e⟩, hlt => by
  simp only [List.all_cons, Bool.and_eq_true, decide_eq_true_eq] at hr
  obtain ⟨⟨r1, r2⟩, r3⟩ := hr
  subst e
  exact ⟨p, q, RowKit.Below.trod hl r1 r2 h1 hb (fun x hx => hlt x (List.mem_append_left _ hx)), aGI hl hb ts vs ds q r3 h2 (fun x hx => hlt x (List.mem_append_right _ hx)), rfl⟩
end
end Go.Vg
