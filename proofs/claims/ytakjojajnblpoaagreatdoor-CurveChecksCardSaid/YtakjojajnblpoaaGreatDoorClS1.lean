/-
  Functions of plain data that the Go functions compute, and their laws. Own work; no condition.
-/
import Derived.Test.YtakjojajnblpoaaGreatDoorClE4
import Derived.Lib.ItoaMem
import Derived.Lib.AtoiAllCases
import Derived.Lib.ParseIntBTie
import Derived.Lib.Repeat
import Derived.OpenShut
import Derived.Carry
set_option linter.unusedVariables false
set_option linter.unusedSimpArgs false
namespace Go.Vs
open Go Go.Vg
theorem aaA {x : Int} (h0 : -9223372036854775808 ≤ x ∧ x ≤ 9223372036854775807) : w64 x = x := by
 obtain ⟨h0, h1⟩ := h0
 unfold w64 IntKind.wrap
 simp only [IntKind.bits, IntKind.signed, Bool.true_and]
 have e1 : (2 : Int) ^ 64 = 18446744073709551616 := zf
 have e2 : (2 : Int) ^ (64 - 1) = 9223372036854775808 := zf
 simp only [e1, e2, ge_iff_le, yp]
 split <;> omega
theorem aaO {x : Int} (h0 : 0 ≤ x ∧ x ≤ 18446744073709551615) : abN x = x := by
 obtain ⟨h0, h1⟩ := h0
 unfold abN IntKind.wrap
 simp only [IntKind.bits, IntKind.signed, Bool.false_and]
 have e1 : (2 : Int) ^ 64 = 18446744073709551616 := zf
 simp only [e1]
 simp only [yl, if_false]
 omega
theorem aaZ {x : Int} (h0 : 0 ≤ x ∧ x ≤ 4294967295) : adT x = x := by
 obtain ⟨h0, h1⟩ := h0
 unfold adT IntKind.wrap
 simp only [IntKind.bits, IntKind.signed, Bool.false_and]
 have e1 : (2 : Int) ^ 32 = 4294967296 := zf
 simp only [e1]
 simp only [yl, if_false]
 omega
theorem abJ {x : Int} (h0 : 0 ≤ x ∧ x ≤ 255) : wu8 x = x := by
 obtain ⟨h0, h1⟩ := h0
 unfold wu8 IntKind.wrap
 simp only [IntKind.bits, IntKind.signed, Bool.false_and]
 have e1 : (2 : Int) ^ 8 = 256 := zf
 simp only [e1]
 simp only [yl, if_false]
 omega
def V (B : Int) : List Int → Int
 | [] => 0
 | d :: l => d + B * V B l
def Dg (B : Int) (l : List Int) : Prop := ∀ d ∈ l, 0 ≤ d ∧ d < B
def Cn (l : List Int) : Prop := l.getLast? ≠ some 0
theorem aeB (B : Int) : ∀ (l m : List Int), V B (l ++ m) = V B l + B ^ l.length * V B m
 | [], m => by simp [V]
 | d :: l, m => by
  simp only [vq, V, aeB B l m, zG, zZ]
  grind
theorem aCa (B d : Int) : V B [d] = d := by simp [V]
theorem akF (B : Int) {l : List Int} {i : Nat} (h : i < l.length) : V B (l.take (i + 1)) = V B (l.take i) + B ^ i * l[i] := by
 rw [zO h, aeB, aCa, zK, yH zc]
theorem aQw (B : Int) (l : List Int) (i : Nat) (h : i ≤ l.length) : V B l = V B (l.take i) + B ^ i * V B (l.drop i) := by
 conv => lhs; rw [← xq i l]
 rw [aeB, zK, yH h]
theorem aM1 (B : Int) {l : List Int} {i : Nat} (h : i < l.length) : V B (l.drop i) = l[i] + B * V B (l.drop (i + 1)) := by
 rw [yo h]; rfl
theorem ax2 (B : Int) : Dg B [] := fun _ h => by cases h
theorem afE {B : Int} {l m : List Int} (hl : Dg B l) (hm : Dg B m) : Dg B (l ++ m) := by
 intro d hd
 rcases zH.1 hd with h | h
 ·exact hl d h
 ·exact hm d h
theorem anK {B d : Int} (h0 : 0 ≤ d) (h1 : d < B) : Dg B [d] := by
 intro x hx
 have := zX.1 hx
 subst this
 exact ⟨h0, h1⟩
theorem aoN {B d : Int} {l : List Int} (h : Dg B (d :: l)) : Dg B l := fun x hx => h x (zN _ hx)
theorem asL {B d : Int} {l : List Int} (h : Dg B (d :: l)) : 0 ≤ d ∧ d < B := h d yc
theorem aCi {B d : Int} {l : List Int} (h0 : 0 ≤ d ∧ d < B) (h : Dg B l) : Dg B (d :: l) := by
 intro x hx
 rcases zy.1 hx with rfl | h1
 ·exact h0
 ·exact h x h1
theorem ab4 {B : Int} {l : List Int} (h : Dg B l) (i : Nat) : Dg B (l.take i) := fun x hx => h x (xa hx)
theorem acH {B : Int} {l : List Int} (h : Dg B l) (i : Nat) : Dg B (l.drop i) := fun x hx => h x (yZ hx)
theorem aEv {B : Int} {l : List Int} (h : Dg B l) {i : Nat} (hi : i < l.length) : 0 ≤ l[i] ∧ l[i] < B := h _ (ym hi)
theorem aiB {B d : Int} {l : List Int} (h : Dg B l) (h0 : 0 ≤ d ∧ d < B) (i : Nat) : Dg B (l.set i d) := by
 intro x hx
 rcases List.mem_or_eq_of_mem_set hx with h1 | h1
 ·exact h x h1
 ·rw [h1]; exact h0
theorem af5 {B : Int} (hB : 0 < B) (n : Nat) : Dg B (List.replicate n 0) := by
 intro x hx
 have := (List.mem_replicate.1 hx).2
 omega
theorem asB (B : Int) : ∀ n, V B (List.replicate n 0) = 0
 | 0 => rfl
 | n + 1 => by simp [xi, V, asB B n]
theorem aaS {B : Int} (hB : 0 ≤ B) : ∀ {l : List Int}, Dg B l → 0 ≤ V B l
 | [], _ => Int.le_refl 0
 | d :: l, h => by
  have h1 := aaS hB (aoN h)
  have h2 := asL h
  have := yg hB h1
  simp only [V]; omega
theorem aJF {B : Int} (hB : 0 < B) : ∀ {l : List Int}, Dg B l → V B l < B ^ l.length
 | [], _ => by simp [V]
 | d :: l, h => by
  have h1 := aJF hB (aoN h)
  have h2 := asL h
  simp only [V, zG, zZ]
  have h3 : B * (V B l + 1) ≤ B * B ^ l.length := zC zc zc
  rw [yI (B ^ l.length) B]
  rw [xZ] at h3
  omega
def atW (B n : Nat) : List Int := if _h : n = 0 ∨ B < 2 then [] else ((n % B : Nat) : Int) :: atW B (n / B)
termination_by n
decreasing_by exact wW zc zc
theorem ac4 (B : Nat) : atW B 0 = [] := by rw [atW]; simp
theorem ah0 {B n : Nat} (hB : 2 ≤ B) (hn : n ≠ 0) : atW B n = ((n % B : Nat) : Int) :: atW B (n / B) := by
 rw [atW, dif_neg zc]
theorem aEl {B : Nat} (hB : 2 ≤ B) (n : Nat) : V B (atW B n) = n := by
 induction n using Nat.strongRecOn with
 | _ n ih =>
  by_cases hn : n = 0
  ·subst hn; rw [ac4]; rfl
  ·rw [ah0 hB hn]
   simp only [V]
   rw [ih (n / B) (wW zc zc)]
   have := xS n B
   have h2 : ((n % B : Nat) : Int) + (B : Int) * ((n / B : Nat) : Int) = ((n % B + B * (n / B) : Nat) : Int) := zi
   rw [h2, this]
theorem aF5 {B : Nat} (hB : 2 ≤ B) (n : Nat) : Dg B (atW B n) := by
 induction n using Nat.strongRecOn with
 | _ n ih =>
  by_cases hn : n = 0
  ·subst hn; rw [ac4]; exact ax2 _
  ·rw [ah0 hB hn]
   refine aCi ⟨by omega, ?_⟩ (ih (n / B) (wW zc zc))
   have := yU n (show 0 < B by omega)
   omega
theorem aoD {B : Nat} (hB : 2 ≤ B) {n : Nat} (hn : n ≠ 0) : atW B n ≠ [] := by rw [ah0 hB hn]; simp
theorem atP : Cn [] := by simp [Cn]
theorem aGB {d : Int} {l : List Int} : Cn (d :: l) ↔ (if l = [] then d ≠ 0 else Cn l) := by
 cases l with
 | nil => simp [Cn]
 | cons e l => simp [Cn, List.getLast?_cons_cons]
theorem aMh {B : Nat} (hB : 2 ≤ B) (n : Nat) : Cn (atW B n) := by
 induction n using Nat.strongRecOn with
 | _ n ih =>
  by_cases hn : n = 0
  ·subst hn; rw [ac4]; exact atP
  ·rw [ah0 hB hn, aGB]
   split
   ·rename_i h
    by_cases h2 : n / B = 0
    ·have := xS n B
     rw [h2, Nat.mul_zero] at this
     omega
    ·exact absurd h (aoD hB h2)
   ·exact ih (n / B) (wW zc zc)
theorem aEk {B : Int} (hB : 0 < B) : ∀ {l : List Int}, Dg B l → Cn l → V B l = 0 → l = []
 | [], _, _, _ => rfl
 | d :: l, hd, hc, h => by
  have h1 := aaS zc (aoN hd)
  have h2 := asL hd
  simp only [V] at h
  have h3 := yg (show 0 ≤ B by omega) h1
  have h4 : B * V B l = 0 := zc
  have h5 : V B l = 0 := by
   rcases Int.mul_eq_zero.1 h4 with h | h
   ·omega
   ·exact h
  rw [aGB] at hc
  split at hc
  ·omega
  ·rename_i hl; exact absurd (aEk hB (aoN hd) hc h5) hl
theorem awH {B : Nat} (hB : 2 ≤ B) : ∀ {l : List Int} {n : Nat}, Dg B l → Cn l → V B l = n → l = atW B n
 | [], n, _, _, h => by
  have : n = 0 := by simp [V] at h; omega
  subst this; rw [ac4]
 | d :: l, n, hd, hc, h => by
  have h1 := aaS zc (aoN hd)
  have h2 := asL hd
  have hn : n ≠ 0 := by
   intro h0
   have := aEk zc hd hc (by rw [h, h0]; rfl)
   cases this
  rw [ah0 hB hn]
  simp only [V] at h
  obtain ⟨v, hv⟩ := zw h1
  obtain ⟨e, he⟩ := zw h2.1
  rw [hv, he] at h
  have h3 : e + B * v = n := by
   have : ((e + B * v : Nat) : Int) = (n : Int) := by simpa using h
   exact Int.ofNat.inj this
  have h4 : e < B := zc
  have h5 : n % B = e := by rw [← h3, Nat.add_mul_mod_self_left, yB h4]
  have h6 : n / B = v := by rw [← h3, Nat.add_mul_div_left _ _ zc, xb h4, zv]
  rw [h5, h6, he]
  congr 1
  refine awH hB (aoN hd) ?_ hv
  rw [aGB] at hc
  split at hc
  ·rename_i hl; rw [hl]; exact atP
  ·exact hc
theorem af3 {B : Nat} (hB : 2 ≤ B) : ∀ {k n : Nat}, n < B ^ k → (atW B n).length ≤ k
 | 0, n, h => by
  have : n = 0 := by simpa using h
  subst this; rw [ac4]; simp
 | k + 1, n, h => by
  by_cases hn : n = 0
  ·subst hn; rw [ac4]; simp
  ·rw [ah0 hB hn, zG]
   have := af3 (k := k) hB (n := n / B) (by rw [yK zc]; rw [yA] at h; exact h)
   omega
theorem avW {B : Nat} (hB : 2 ≤ B) (n : Nat) : n < B ^ (atW B n).length := by
 have h := aJF (B := B) zc (aF5 hB n)
 rw [aEl hB] at h
 have : ((B : Int) ^ (atW B n).length) = ((B ^ (atW B n).length : Nat) : Int) := zi
 rw [this] at h
 omega
theorem avE {B : Nat} (hB : 2 ≤ B) {n : Nat} (hn : n ≠ 0) : B ^ ((atW B n).length - 1) ≤ n := by
 rcases zr n (B ^ ((atW B n).length - 1)) with h | h
 ·have := af3 hB h
  have h2 : (atW B n).length ≠ 0 := by
   intro h3; exact aoD hB hn (zW.1 h3)
  omega
 ·exact h
theorem aHl {B : Nat} (hB : 2 ≤ B) {m n : Nat} (h : atW B m = atW B n) : m = n := by
 have h1 := aEl hB m
 have h2 := aEl hB n
 rw [h] at h1
 omega
theorem aAj {B : Nat} (hB : 2 ≤ B) {d : Nat} (h0 : d ≠ 0) (h1 : d < B) : atW B d = [(d : Int)] := by
 rw [ah0 hB h0, yB h1, xb h1, ac4]
noncomputable def adG {α A R : Type} (enc : α → A) (pre : α → Prop) (f : α → R) (x : A) : Option R :=
 open Classical in if h : ∃ a, pre a ∧ enc a = x then some (f h.choose) else none
theorem aaK {α A R : Type} {enc : α → A} {pre : α → Prop} {f : α → R} (a : α) (h : pre a) (hinj : ∀ b, enc b = enc a → b = a) : adG enc pre f (enc a) = some (f a) := by
 have hex : ∃ b, pre b ∧ enc b = enc a := ⟨a, h, rfl⟩
 unfold adG
 rw [dif_pos hex, hinj _ hex.choose_spec.2]
theorem aaE {α A R : Type} {enc : α → A} {pre : α → Prop} {f : α → R} {x : A} {y : R} (h : adG enc pre f x = some y) : ∃ a, pre a ∧ x = enc a ∧ y = f a := by
 unfold adG at h
 split at h
 ·rename_i hex
  injection h with h
  exact ⟨_, hex.choose_spec.1, hex.choose_spec.2.symm, h.symm⟩
 ·cases h
theorem aaB {α : Type} (l : List α) : len l = (l.length : Int) := rfl
theorem aRG {α : Type} {l : List α} {i : Int} {d : α} {k : Nat} (h : i = k) (hk : k < l.length) : gi l i d = l[k] := by
 subst h; unfold gi; simp [hk]
theorem uT {α : Type} {b : Bool} {x y : TT α} {r : Option α} (h : b = true) (hx : x.toO = r) : (TT.ite b x y).toO = r := by subst h; exact hx
theorem uF {α : Type} {b : Bool} {x y : TT α} {r : Option α} (h : b = false) (hy : y.toO = r) : (TT.ite b x y).toO = r := by subst h; exact hy
theorem uN {α : Type} {p : Prop} {x : TT α} {r : Option α} (h : p) (hx : x.toO = r) : (TT.need p x).toO = r := by rw [aNq _ _ h]; exact hx
theorem uV {α : Type} {p : Prop} {h : p} {x : TT α} {r : Option α} (hx : x.toO = r) : (TT.triv p h x).toO = r := hx
theorem uB {α β : Type} {b : β} {x : β → TT α} {r : Option α} (hx : (x b).toO = r) : (TT.lt b x).toO = r := hx
theorem uC {α β : Type} {o : Option β} {d : β} {x : β → TT α} {r : Option α} (y : β) (h : o = some y) (hx : (x y).toO = r) : (TT.call o d x).toO = r := by subst h; exact hx
theorem uO {α ι : Type} {t : Nat} {H : TT ι} {R : ι → TT (ι ⊕ α)} {r : Option α} (i : ι) (h : H.toO = some i) (hx : acW (fun i => (R i).toO) i = r) : (TT.loop t H R).toO = r := by rw [aNr h]; exact hx
theorem uL {α ι : Type} {t : Nat} {H : TT (ι ⊕ α)} {R : ι → TT α} {r : Option α} (i : ι) (h : H.toO = some (.inl i)) (hx : (R i).toO = r) : (TT.join t H R).toO = r := by rw [aJ8 h]; exact hx
theorem uR {α ι : Type} {t : Nat} {H : TT (ι ⊕ α)} {R : ι → TT α} (a : α) (h : H.toO = some (.inr a)) : (TT.join t H R).toO = some a := by rw [aJ7 h]
def aa3 (n : Nat) : List UInt8 := Lib.decDigits n
def dec (z : Int) : List UInt8 := if z < 0 then 45 :: aa3 z.natAbs else aa3 z.natAbs
def isD (s : List UInt8) : Prop := ∀ c ∈ s, 48 ≤ c.toNat ∧ c.toNat ≤ 57
def dv (c : UInt8) : Nat := c.toNat - 48
def ax7 (a : Nat) (s : List UInt8) : Nat := s.foldl (fun a c => a * 10 + dv c) a
def num (s : List UInt8) : Nat := ax7 0 s
def mag (n : Nat) : List Int := atW 1000000000 n
def atG (a b : Int) : Int := if a < b then -1 else if a = b then 0 else 1
theorem agM (n : Nat) : Dg 1000000000 (mag n) := aF5 (B := 1000000000) zc n
theorem aQY (n : Nat) : Cn (mag n) := aMh (B := 1000000000) zc n
theorem al0 (n : Nat) : V 1000000000 (mag n) = n := aEl (B := 1000000000) zc n
theorem adK {m n : Nat} (h : mag m = mag n) : m = n := aHl (B := 1000000000) zc h
theorem apC {l : List Int} {n : Nat} (h1 : Dg 1000000000 l) (h2 : Cn l) (h3 : V 1000000000 l = n) : l = mag n := awH (B := 1000000000) zc h1 h2 h3
noncomputable def aAw (x : Int × Unit) : Option (List UInt8 × Unit) := if -9223372036854775808 ≤ x.1 ∧ x.1 ≤ 9223372036854775807 then some (dec x.1, ()) else none
noncomputable def aHv (x : List UInt8 × Int × Unit) : Option (List UInt8 × Unit) := if 0 ≤ x.2.1 ∧ x.2.1 ≤ 100000 ∧ x.1.length ≤ 1000 then some ((List.replicate x.2.1.toNat x.1).flatten, ()) else none
noncomputable def ac6 (x : List Int × Unit) : Option (Bool × Unit) := some (len x.1 == 0, ())
open Classical in
noncomputable def acD (x : List Int × Unit) : Option (List Int × Unit) := if Dg 1000000000 x.1 ∧ x.1.length ≤ 2000000000000 then some (mag (V 1000000000 x.1).toNat, ()) else none
noncomputable def am1 : List Int × Unit → Option (Int × Unit) := adG (fun n : Nat => (mag n, ())) (fun n => n < 1000000000000000000) (fun n => ((n : Int), ()))
noncomputable def adN : List Int × List Int × Unit → Option (Int × Unit) := adG (fun p : Nat × Nat => (mag p.1, mag p.2, ())) (fun p => (mag p.1).length ≤ 1000000000000 ∧ (mag p.2).length ≤ 1000000000000) (fun p => (atG p.1 p.2, ()))
noncomputable def al5 : List Int × List Int × Unit → Option (List Int × Unit) := adG (fun p : Nat × Nat => (mag p.1, mag p.2, ())) (fun p => (mag p.1).length ≤ 1000000000000 ∧ (mag p.2).length ≤ 1000000000000) (fun p => (mag (p.1 + p.2), ()))
noncomputable def ajH : List Int × List Int × Unit → Option (List Int × Unit) := adG (fun p : Nat × Nat => (mag p.1, mag p.2, ())) (fun p => (mag p.1).length ≤ 1000000000000 ∧ p.2 ≤ p.1) (fun p => (mag (p.1 - p.2), ()))
noncomputable def ab9 : List Int × List Int × Unit → Option (List Int × Unit) := adG (fun p : Nat × Nat => (mag p.1, mag p.2, ())) (fun p => (mag p.1).length ≤ 1000000000000 ∧ (mag p.2).length ≤ 1000000000000) (fun p => (mag (p.1 * p.2), ()))
noncomputable def ajG : List Int × Int × Unit → Option (List Int × Int × Unit) := adG (fun p : Nat × Nat => (mag p.1, (p.2 : Int), ())) (fun p => (mag p.1).length ≤ 1000000000000 ∧ 0 < p.2 ∧ p.2 < 4294967296) (fun p => (mag (p.1 / p.2), ((p.1 % p.2 : Nat) : Int), ()))
noncomputable def abM (x : Int × Unit) : Option (List Int × Unit) := if 0 ≤ x.1 ∧ x.1 < 18446744073709551616 then some (mag x.1.toNat, ()) else none
open Classical in
noncomputable def agX (x : List UInt8 × Unit) : Option (List Int × Unit) := if isD x.1 ∧ x.1 ≠ [] ∧ x.1.length ≤ 1000000000000 then some (mag (num x.1), ()) else none
noncomputable def ahJ : List Int × Unit → Option (Int × Unit) := adG (fun n : Nat => (mag n, ())) (fun n => (mag n).length ≤ 1000000000000) (fun n => (((aa3 n).length : Int), ()))
noncomputable def ahK : List Int × Unit → Option (List UInt8 × Unit) := adG (fun n : Nat => (mag n, ())) (fun n => (mag n).length ≤ 1000000) (fun n => (aa3 n, ()))
noncomputable def abC : List Int × List Int × Unit → Option (List Int × List Int × Unit) := adG (fun p : Nat × Nat => (mag p.1, mag p.2, ())) (fun p => (mag p.1).length ≤ 100000000000 ∧ (mag p.2).length ≤ 100000000000 ∧ p.2 ≠ 0) (fun p => (mag (p.1 / p.2), mag (p.1 % p.2), ()))
noncomputable def agT : List Int × List Int × Unit → Option (List Int × Unit) := adG (fun p : Nat × Nat => (mag p.1, mag p.2, ())) (fun p => (mag p.1).length ≤ 100000000000 ∧ (mag p.2).length ≤ 100000000000) (fun p => (mag (Nat.gcd p.1 p.2), ()))
noncomputable def ahF (x : List Int × Unit) : Option (Bool × Unit) := some (len x.1 == 0, ())
open Classical in
noncomputable def aM2 (x : List Int × Unit) : Option (List Int × Unit) := if Dg 1000000000 x.1 ∧ x.1.length ≤ 2000000000000 then some (mag (V 1000000000 x.1).toNat, ()) else none
noncomputable def al1 : List Int × List Int × Unit → Option (Int × Unit) := adG (fun p : Nat × Nat => (mag p.1, mag p.2, ())) (fun p => (mag p.1).length ≤ 1000000000000 ∧ (mag p.2).length ≤ 1000000000000) (fun p => (atG p.1 p.2, ()))
noncomputable def ap2 : List Int × List Int × Unit → Option (List Int × Unit) := adG (fun p : Nat × Nat => (mag p.1, mag p.2, ())) (fun p => (mag p.1).length ≤ 1000000000000 ∧ (mag p.2).length ≤ 1000000000000) (fun p => (mag (p.1 + p.2), ()))
noncomputable def asD : List Int × List Int × Unit → Option (List Int × Unit) := adG (fun p : Nat × Nat => (mag p.1, mag p.2, ())) (fun p => (mag p.1).length ≤ 1000000000000 ∧ p.2 ≤ p.1) (fun p => (mag (p.1 - p.2), ()))
noncomputable def ai6 : List Int × List Int × Unit → Option (List Int × Unit) := adG (fun p : Nat × Nat => (mag p.1, mag p.2, ())) (fun p => (mag p.1).length ≤ 1000000000000 ∧ (mag p.2).length ≤ 1000000000000) (fun p => (mag (p.1 * p.2), ()))
noncomputable def asC : List Int × Int × Unit → Option (List Int × Int × Unit) := adG (fun p : Nat × Nat => (mag p.1, (p.2 : Int), ())) (fun p => (mag p.1).length ≤ 1000000000000 ∧ 0 < p.2 ∧ p.2 < 4294967296) (fun p => (mag (p.1 / p.2), ((p.1 % p.2 : Nat) : Int), ()))
noncomputable def agS (x : Int × Unit) : Option (List Int × Unit) := if 0 ≤ x.1 ∧ x.1 < 18446744073709551616 then some (mag x.1.toNat, ()) else none
open Classical in
noncomputable def ai8 (x : List UInt8 × Unit) : Option (List Int × Unit) := if isD x.1 ∧ x.1 ≠ [] ∧ x.1.length ≤ 1000000000000 then some (mag (num x.1), ()) else none
noncomputable def akG : List Int × Unit → Option (Int × Unit) := adG (fun n : Nat => (mag n, ())) (fun n => (mag n).length ≤ 1000000000000) (fun n => (((aa3 n).length : Int), ()))
noncomputable def akI : List Int × Unit → Option (List UInt8 × Unit) := adG (fun n : Nat => (mag n, ())) (fun n => (mag n).length ≤ 1000000) (fun n => (aa3 n, ()))
noncomputable def akH : List Int × List Int × Unit → Option (List Int × List Int × Unit) := adG (fun p : Nat × Nat => (mag p.1, mag p.2, ())) (fun p => (mag p.1).length ≤ 100000000000 ∧ (mag p.2).length ≤ 100000000000 ∧ p.2 ≠ 0) (fun p => (mag (p.1 / p.2), mag (p.1 % p.2), ()))
theorem aFd {B : Int} (hB : 0 < B) {i j : Nat} (h : i ≤ j) : B ^ i ≤ B ^ j := by
 obtain ⟨k, rfl⟩ := Nat.exists_eq_add_of_le h
 rw [we]
 have h1 : 1 ≤ B ^ k := yE hB
 have h2 : 0 < B ^ i := yE hB
 have := zC h1 (xk h2)
 omega
theorem aaM {α : Type} (l : List α) (k : Nat) (d : α) : gi l (k : Int) d = l.getD k d := by unfold gi; rw [zp]
theorem aiH {l : List Int} {k : Nat} (h : k < l.length) (d : Int) : l.getD k d = l[k] := by simp [h]
theorem ahA {l : List Int} {k : Nat} (h : l.length ≤ k) (d : Int) : l.getD k d = d := by simp [h]
theorem aa2 {B : Int} (hB : 0 < B) {l : List Int} (h : Dg B l) (k : Nat) : 0 ≤ l.getD k 0 ∧ l.getD k 0 < B := by
 rcases zr k l.length with hk | hk
 ·rw [aiH hk]; exact aEv h hk
 ·rw [ahA hk]; omega
theorem aa5 (B : Int) (l : List Int) (k : Nat) : V B (l.take (k + 1)) = V B (l.take k) + B ^ k * l.getD k 0 := by
 rcases zr k l.length with hk | hk
 ·rw [aiH hk]; exact akF B hk
 ·rw [ahA hk, zu zc, zu hk]; omega
theorem aaU (B : Int) (l : List Int) (k : Nat) : V B (l.drop k) = l.getD k 0 + B * V B (l.drop (k + 1)) := by
 rcases zr k l.length with hk | hk
 ·rw [aiH hk]; exact aM1 B hk
 ·rw [ahA hk, yD hk, yD zc]; simp [V]
theorem acT (B : Int) {l : List Int} {k : Nat} (h : l.length ≤ k) : V B (l.drop k) = 0 := by rw [yD h]; rfl
theorem abE (B : Int) {l : List Int} {k : Nat} (h : l.length ≤ k) : V B (l.take k) = V B l := by rw [zu h]
theorem ab5 (B : Int) (l : List Int) (k : Nat) : V B l = V B (l.take k) + B ^ k * V B (l.drop k) := by
 rcases zr k l.length with hk | hk
 ·exact aQw B l k zc
 ·rw [acT B hk, abE B hk]; omega
theorem ac5 {B : Int} (hB : 0 < B) {l : List Int} (h : Dg B l) (k : Nat) : V B (l.take k) < B ^ k := by
 rcases zr k l.length with hk | hk
 ·have := aJF hB (ab4 h k)
  rwa [zK, yH zc] at this
 ·rw [abE B hk]
  have h1 := aJF hB h
  have h2 : B ^ l.length ≤ B ^ k := aFd hB hk
  omega
theorem aM0 {B : Int} (hB : 1 ≤ B) {l : List Int} (h : Dg B l) (k : Nat) : V B (l.drop k) ≤ V B l := by
 have h1 := ab5 B l k
 have h2 := aaS zc (ab4 h k)
 have h3 := aaS zc (acH h k)
 have h4 : 1 * V B (l.drop k) ≤ B ^ k * V B (l.drop k) := zD (yE zc) h3
 omega
theorem aA7 {B : Int} (hB : 1 ≤ B) (k : Nat) : 1 ≤ B ^ k := yE zc
theorem aAN (l : List Int) (k : Nat) (x : Int) : (l.set k x).take k = l.take k := by
 rw [List.take_set_of_le (zq k)]
theorem aJE (B : Int) {l : List Int} {k : Nat} (hk : k < l.length) (x : Int) : V B ((l.set k x).take (k + 1)) = V B (l.take k) + B ^ k * x := by
 rw [aa5, aAN, aiH (by simpa using hk)]
 simp
theorem ahD (l : List Int) {k j : Nat} (h : k < j) (x : Int) : (l.set k x).drop j = l.drop j := by
 rw [List.drop_set_of_lt h]
theorem axG (B : Int) : ∀ {l : List Int} {k : Nat}, k < l.length → ∀ x, V B (l.set k x) = V B l + B ^ k * (x - l.getD k 0)
 | [], k, h, _ => by simp at h
 | d :: l, 0, _, x => by simp [V]; omega
 | d :: l, k + 1, h, x => by
  simp only [List.set_cons_succ, V, List.getD_cons_succ]
  rw [axG B (by simpa using h) x, zZ]
  grind
theorem an5 (l : List Int) {k j : Nat} (h : k ≠ j) (x : Int) : (l.set k x).getD j 0 = l.getD j 0 := by
 simp [yr, List.getElem?_set_ne h]
theorem an6 {l : List Int} {k : Nat} (h : k < l.length) (x : Int) : (l.set k x).getD k 0 = x := by
 simp [yr, h]
theorem alM {B : Int} (hB : 1 < B) {l : List Int} (h : Dg B l) {k : Nat} (hv : V B l < B ^ k) : ∀ j, k ≤ j → l.getD j 0 = 0 := by
 intro j hj
 have h1 := ab5 B l j
 have h2 := aaS zc (ab4 h j)
 have h3 := aaS zc (acH h j)
 have h4 := aaU B l j
 have h5 := aaS zc (acH h (j + 1))
 have h6 := aa2 zc h j
 have h7 : B ^ k ≤ B ^ j := aFd zc hj
 have h8 := yg (show 0 ≤ B by omega) h5
 rcases zS 0 (V B (l.drop j)) with h9 | h9
 ·have : B ^ j * 1 ≤ B ^ j * V B (l.drop j) := zC zc (by have := aA7 (show 1 ≤ B by omega) j; omega)
  omega
 ·omega
theorem aHG {B : Int} (hB : 0 < B) {l : List Int} (h : Dg B l) (hv : l = [] ∨ B ^ (l.length - 1) ≤ V B l) : Cn l := by
 rcases hv with rfl | hv
 ·exact atP
 ·rcases zF l.length with hl | hl
  ·rw [zW.1 hl]; exact atP
  ·unfold Cn
   rw [yQ, zR zc]
   intro h0
   injection h0 with h0
   have h1 := akF B (l := l) (i := l.length - 1) zc
   rw [h0, show l.length - 1 + 1 = l.length by omega, zt] at h1
   have h2 := ac5 hB h (l.length - 1)
   omega
theorem mag_length_le_iff {n k : Nat} : (mag n).length ≤ k ↔ n < 1000000000 ^ k := by
 constructor
 ·intro h
  have h1 := avW (B := 1000000000) zc n
  exact yk h1 (yb zc h)
 ·intro h
  exact af3 zc h
theorem abP {m n : Nat} (h : m ≤ n) : (mag m).length ≤ (mag n).length := by
 rw [mag_length_le_iff]
 exact Nat.lt_of_le_of_lt h (mag_length_le_iff.1 (zq _))
theorem aiF (m n : Nat) : (mag (m + n)).length ≤ max (mag m).length (mag n).length + 1 := by
 rw [mag_length_le_iff]
 have h1 := mag_length_le_iff.1 (Nat.le_max_left (mag m).length (mag n).length)
 have h2 := mag_length_le_iff.1 (Nat.le_max_right (mag m).length (mag n).length)
 rw [yA]
 have := yw (1000000000 ^ max (mag m).length (mag n).length) (show 2 ≤ 1000000000 by omega)
 omega
theorem af1 (m n : Nat) : (mag (m * n)).length ≤ (mag m).length + (mag n).length := by
 rw [mag_length_le_iff, xw]
 have h1 := mag_length_le_iff.1 (zq (mag m).length)
 have h2 := mag_length_le_iff.1 (zq (mag n).length)
 exact Nat.mul_lt_mul'' h1 h2
theorem mag_zero : mag 0 = [] := ac4 _
theorem mag_nil_iff {n : Nat} : mag n = [] ↔ n = 0 := by
 constructor
 ·intro h
  exact adK (h.trans mag_zero.symm)
 ·rintro rfl; exact mag_zero
theorem apD {d : Nat} (h0 : d ≠ 0) (h1 : d < 1000000000) : mag d = [(d : Int)] := aAj zc h0 h1
theorem anI {m n : Nat} (h : (mag m).length < (mag n).length) : m < n := by
 have h1 := mag_length_le_iff.1 (zq (mag m).length)
 rcases zr m n with h2 | h2
 ·exact h2
 ·have := abP h2; omega
theorem adC {p q : Nat × Nat} (h : (mag p.1, mag p.2, ()) = (mag q.1, mag q.2, ())) : p = q := by
 injection h with h1 h2
 injection h2 with h2 _
 exact Prod.ext (adK h1) (adK h2)
theorem abK {n : Nat} (h : n < 10) : aa3 n = [UInt8.ofNat (48 + n)] := by unfold aa3; rw [Lib.decDigits, dif_pos h]
theorem ae1 {n : Nat} (h : 10 ≤ n) : aa3 n = aa3 (n / 10) ++ [UInt8.ofNat (48 + n % 10)] := by
 unfold aa3; conv => lhs; rw [Lib.decDigits, dif_neg zc]
theorem afL (n : Nat) : aa3 n ≠ [] := by
 rcases zr n 10 with h | h
 ·rw [abK h]; simp
 ·rw [ae1 h]; simp
theorem aEN {α : Type} {P : List α → Prop} (nil : P []) (snoc : ∀ l a, P l → P (l ++ [a])) (l : List α) : P l := by
 have H : ∀ m : List α, P m.reverse := by
  intro m
  induction m with
  | nil => exact nil
  | cons a m ih => rw [List.reverse_cons]; exact snoc _ _ ih
 have := H l.reverse
 rwa [List.reverse_reverse] at this
theorem auD {d : Nat} (h : d < 10) : (UInt8.ofNat (48 + d)).toNat = 48 + d := by simp [UInt8.toNat_ofNat]; omega
theorem isD_append {s t : List UInt8} : isD (s ++ t) ↔ isD s ∧ isD t := by
 constructor
 ·intro h
  exact ⟨fun c hc => h c (vA _ hc), fun c hc => h c (List.mem_append_right _ hc)⟩
 ·rintro ⟨h1, h2⟩ c hc
  rcases zH.1 hc with h | h
  ·exact h1 c h
  ·exact h2 c h
theorem aLC {d : Nat} (h : d < 10) : isD [UInt8.ofNat (48 + d)] := by
 intro c hc
 have := zX.1 hc
 subst this
 rw [auD h]; omega
theorem agC (a : Nat) (c : UInt8) (s : List UInt8) : ax7 a (c :: s) = ax7 (a * 10 + dv c) s := List.foldl_cons ..
theorem aFv (s t : List UInt8) (a : Nat) : ax7 a (s ++ t) = ax7 (ax7 a s) t := List.foldl_append ..
theorem aOf (s : List UInt8) : ∀ a : Nat, ax7 a s = a * 10 ^ s.length + ax7 0 s := by
 induction s with
 | nil => intro a; simp [ax7]
 | cons c s ih =>
  intro a
  rw [agC, agC, vw, zv]
  generalize dv c = x
  rw [ih (a * 10 + x), ih x, zG, yA]
  generalize 10 ^ s.length = y
  rw [yL, yJ y 10, wj, Nat.add_assoc]
theorem aAi {d : Nat} (h : d < 10) : dv (UInt8.ofNat (48 + d)) = d := by unfold dv; rw [auD h]; omega
theorem aLf (s : List UInt8) (a : Nat) : ax7 a s = a * 10 ^ s.length + num s := aOf s a
theorem amH (s t : List UInt8) : num (s ++ t) = num s * 10 ^ t.length + num t := by
 show ax7 0 (s ++ t) = _
 rw [aFv, aLf]
 rfl
theorem aPW {d : Nat} (h : d < 10) : num [UInt8.ofNat (48 + d)] = d := by
 show ax7 0 [_] = d
 rw [agC, aAi h]; simp [ax7]
theorem ao8 (s : List UInt8) (c : UInt8) : num (s ++ [c]) = num s * 10 + dv c := by
 rw [amH]; simp [num, ax7]
theorem aLe {s : List UInt8} : isD s → num s < 10 ^ s.length := by
 induction s using aEN with
 | nil => intro _; simp [num, ax7]
 | snoc s c ih =>
  intro h
  rw [isD_append] at h
  have h1 := ih h.1
  have h2 := h.2 c zi
  have h3 : dv c = c.toNat - 48 := rfl
  rw [ao8, zJ, yu, yA]
  omega
theorem amR (n : Nat) : isD (aa3 n) := by
 induction n using Nat.strongRecOn with
 | _ n ih =>
  rcases zr n 10 with h | h
  ·rw [abK h]; exact aLC h
  ·rw [ae1 h, isD_append]
   exact ⟨ih (n / 10) zc, aLC zc⟩
theorem ao9 (n : Nat) : num (aa3 n) = n := by
 induction n using Nat.strongRecOn with
 | _ n ih =>
  rcases zr n 10 with h | h
  ·rw [abK h, aPW h]
  ·rw [ae1 h, ao8, ih (n / 10) zc, aAi zc]
   omega
theorem aj7 {m n : Nat} (h : aa3 m = aa3 n) : m = n := by rw [← ao9 m, ← ao9 n, h]
theorem afJ (n : Nat) : n < 10 ^ (aa3 n).length := by
 have := aLe (amR n)
 rwa [ao9] at this
theorem acF : ∀ {k n : Nat}, n < 10 ^ (k + 1) → (aa3 n).length ≤ k + 1
 | 0, n, h => by rw [abK (by simpa using h)]; simp
 | k + 1, n, h => by
  rcases zr n 10 with h9 | h9
  ·rw [abK h9]; simp
  ·have := acF (k := k) (n := n / 10) (by rw [yK zc]; rw [yA] at h; exact h)
   rw [ae1 h9]; simp; omega
theorem alR (n : Nat) : 1 ≤ (aa3 n).length := yd.2 (afL n)
theorem acQ {k n : Nat} (hk : 1 ≤ k) : (aa3 n).length ≤ k ↔ n < 10 ^ k := by
 constructor
 ·intro h
  exact yk (afJ n) (yb zc h)
 ·intro h
  obtain ⟨j, rfl⟩ : ∃ j, k = j + 1 := ⟨k - 1, by omega⟩
  exact acF h
theorem anG {k n : Nat} (h1 : 10 ^ k ≤ n) (h2 : n < 10 ^ (k + 1)) : (aa3 n).length = k + 1 := by
 have h3 := acF h2
 rcases zr k (aa3 n).length with h | h
 ·omega
 ·have := afJ n
  have h4 := yb (n := 10) zc h
  omega
theorem aFc {n : Nat} (hn : n ≠ 0) : 10 ^ ((aa3 n).length - 1) ≤ n := by
 rcases zr n (10 ^ ((aa3 n).length - 1)) with h | h
 ·have h1 := alR n
  rcases zr 1 (aa3 n).length with h2 | h2
  ·have := (acQ (k := (aa3 n).length - 1) zc).2 h
   omega
  ·have : (aa3 n).length - 1 = 0 := zc
   rw [this] at h; simp at h; omega
 ·exact h
theorem aDY {s : List UInt8} : isD s → s ≠ [] → (s.head? ≠ some 48 ∨ s.length = 1) → s = aa3 (num s) := by
 induction s using aEN with
 | nil => intro _ h; exact absurd rfl h
 | snoc s c ih =>
  intro h _ hz
  rw [isD_append] at h
  have h2 := h.2 c zi
  have hdv : dv c = c.toNat - 48 := rfl
  have hc : c = UInt8.ofNat (48 + (c.toNat - 48)) := by
   rw [show 48 + (c.toNat - 48) = c.toNat by omega]; simp
  rw [ao8]
  by_cases hs : s = []
  ·subst hs
   simp only [yW]
   rw [show num [] * 10 + dv c = c.toNat - 48 by simp [num, ax7, hdv], abK zc, ← hc]
  ·have hz' : s.head? ≠ some 48 := by
    rcases hz with h0 | h0
    ·cases s with
     | nil => exact absurd rfl hs
     | cons a s => simpa using h0
    ·have := yd.2 hs
     rw [zJ, yu] at h0; omega
   have h3 := ih h.1 hs (Or.inl hz')
   have h4 : 1 ≤ num s := by
    rcases zF (num s) with h0 | h0
    ·rw [h0, abK zc] at h3
     rw [h3] at hz'
     simp at hz'
    ·exact h0
   rw [ae1 (n := num s * 10 + dv c) zc]
   rw [show (num s * 10 + dv c) / 10 = num s by omega, show (num s * 10 + dv c) % 10 = c.toNat - 48 by omega, ← h3, ← hc]
theorem aMl {n : Nat} (h : n ≠ 0) : (aa3 n).head? ≠ some 48 := by
 induction n using Nat.strongRecOn with
 | _ n ih =>
  rcases zr n 10 with h9 | h9
  ·rw [abK h9]
   simp only [wX]
   intro h0
   injection h0 with h0
   have := auD h9
   rw [h0] at this
   simp at this; omega
  ·rw [ae1 h9]
   have := ih (n / 10) zc zc
   cases hd : aa3 (n / 10) with
   | nil => exact absurd hd (afL _)
   | cons a l => rw [hd] at this; simpa using this
theorem ae0 (n : Nat) : dec (n : Int) = aa3 n := by unfold dec; rw [if_neg zc]; simp
theorem aiJ {z : Int} (h : z < 0) : dec z = 45 :: aa3 z.natAbs := by unfold dec; rw [if_pos h]
theorem acP {z : Int} (h : 0 ≤ z) : dec z = aa3 z.natAbs := by unfold dec; rw [if_neg zc]
theorem ae2 (n : Nat) : (aa3 n).head? ≠ some 45 := by
 cases hd : aa3 n with
 | nil => simp
 | cons a l =>
  have := amR n a (by rw [hd]; simp)
  simp only [wX]
  intro h
  injection h with h
  rw [h] at this
  simp at this
theorem alQ {a b : Int} (h : dec a = dec b) : a = b := by
 rcases zS a 0 with ha | ha <;> rcases zS b 0 with hb | hb
 ·rw [aiJ ha, aiJ hb] at h
  injection h with _ h
  have := aj7 h
  omega
 ·rw [aiJ ha, acP hb] at h
  have := ae2 b.natAbs
  rw [← h] at this
  simp at this
 ·rw [aiJ hb, acP ha] at h
  have := ae2 a.natAbs
  rw [h] at this
  simp at this
 ·rw [acP ha, acP hb] at h
  have := aj7 h
  omega
theorem sd {p : Prop} (h : p := by first | omega | ((try simp only [yp, yv, zV, xh, beq_eq_false_iff_ne, bne_eq_false_iff_eq, zU, yP]) <;> (try simp only [aaB, inb, inc, ge_iff_le, gt_iff_lt, zp, asT, ne_eq]) <;> omega) | ((try simp only [yp, yv, zV, xh, beq_eq_false_iff_ne, bne_eq_false_iff_eq, zU, yP]) <;> (try simp only [aaB, inb, inc, ge_iff_le, gt_iff_lt, zp, asT, ne_eq]) <;> (simp (disch := omega) only [aaA, aaO, aaZ, abJ, aaM, zv, zp, aaB]; omega)) | fail) : p := h
theorem za {α : Type} {x y : TT α} {r : Option α} (k : y.toO = r) (h : x.toO = y.toO := by first | exact uV rfl | exact uB rfl | exact uN sd rfl | exact uT sd rfl | exact uF sd rfl | exact uN (by simp) rfl) : x.toO = r := h.trans k
theorem sn {p : Prop} (h : p := by (try simp only [aaB, inb, inc, ge_iff_le, gt_iff_lt, zp, asT, ne_eq]); omega) : p := h
def aA8 (k n : Nat) : List UInt8 := List.replicate (k - (aa3 n).length) 48 ++ aa3 n
theorem aNU {r : Nat} (h : r < 10) : aA8 1 r = [UInt8.ofNat (48 + r)] := by
 unfold aA8; rw [abK h]; rfl
theorem aKK {k r : Nat} (hk : 1 ≤ k) : aA8 (k + 1) r = aA8 k (r / 10) ++ [UInt8.ofNat (48 + r % 10)] := by
 unfold aA8
 rcases zr r 10 with h | h
 ·rw [abK h, xb h, yB h, abK (by omega : 0 < 10)]
  obtain ⟨j, rfl⟩ : ∃ j, k = j + 1 := ⟨k - 1, by omega⟩
  have e1 : j + 1 + 1 - [UInt8.ofNat (48 + r)].length = j + 1 := zi
  have e2 : j + 1 - [UInt8.ofNat (48 + 0)].length = j := zi
  rw [e1, e2, wK]
  rfl
 ·rw [ae1 h, zJ, yu, Nat.add_sub_add_right, yT]
theorem aJb {q : Nat} (hq : q ≠ 0) : ∀ {k r : Nat}, 1 ≤ k → r < 10 ^ k → aa3 (q * 10 ^ k + r) = aa3 q ++ aA8 k r := by
 intro k
 induction k with
 | zero => intro r h; omega
 | succ k ih =>
  intro r _ hr
  have h10 : 10 ≤ q * 10 ^ (k + 1) + r := by
   have h1 : 10 ^ (k + 1) ≤ q * 10 ^ (k + 1) := Nat.le_mul_of_pos_left _ zc
   have h2 : 10 ≤ 10 ^ (k + 1) := by
    have := yb (show 1 ≤ 10 by omega) (show 1 ≤ k + 1 by omega)
    simpa using this
   omega
  rw [ae1 h10]
  have e1 : q * 10 ^ (k + 1) + r = 10 * (q * 10 ^ k) + r := by rw [yA]; congr 1; rw [← wj, yJ]
  have ed : (q * 10 ^ (k + 1) + r) / 10 = q * 10 ^ k + r / 10 := by rw [e1]; omega
  have em : (q * 10 ^ (k + 1) + r) % 10 = r % 10 := by rw [e1]; omega
  rw [ed, em]
  rcases zF k with h | h
  ·subst h
   have hr' : r < 10 := by simpa using hr
   rw [xb hr', yB hr', aNU hr']
   simp
  ·have hr2 : r / 10 < 10 ^ k := by rw [yK zc]; rw [yA] at hr; exact hr
   rw [ih h hr2, aKK h, yT]
def aCo : List Int → List UInt8
 | [] => []
 | d :: r => match r with
  | [] => aa3 d.toNat
  | _ :: _ => aCo r ++ aA8 9 d.toNat
theorem aB4 (n : Nat) (hn : n ≠ 0) : aCo (mag n) = aa3 n := by
 induction n using Nat.strongRecOn with
 | _ n ih =>
  unfold mag
  rw [ah0 zc hn]
  by_cases hq : n / 1000000000 = 0
  ·rw [hq, ac4]
   have : n < 1000000000 := by
    rcases zr n 1000000000 with h | h
    ·exact h
    ·have := Nat.div_pos h zc; omega
   simp only [aCo, zp]
   rw [yB this]
  ·have h1 := ih (n / 1000000000) (wW zc zc) hq
   unfold mag at h1
   cases hd : atW 1000000000 (n / 1000000000) with
   | nil => exact absurd hd (aoD zc hq)
   | cons e r =>
    rw [hd] at h1
    simp only [aCo, zp]
    have h2 := aJb hq (k := 9) (r := n % 1000000000) zc (yU _ zc)
    have e : n / 1000000000 * 10 ^ 9 + n % 1000000000 = n := by
     have := Nat.div_add_mod n 1000000000
     omega
    rw [e] at h2
    rw [h2, ← h1]
    rfl
theorem aEd {l : List Int} {k : Nat} (hk : k + 1 = l.length) : aCo (l.drop k) = aa3 (l[k]'zc).toNat := by
 rw [yo zc, List.drop_eq_nil_of_le zc]
 rfl
theorem aAt {l : List Int} {k : Nat} (hk : k + 1 < l.length) : aCo (l.drop k) = aCo (l.drop (k + 1)) ++ aA8 9 (l[k]'zc).toNat := by
 rw [yo zc, yo (i := k + 1) hk]
 rfl
theorem aOL {d : Nat} (h : d < 1000000000) : (aa3 d).length ≤ 9 := acF (k := 8) h
theorem aNV {d : Nat} (h : d < 1000000000) : (aA8 9 d).length = 9 := by
 have := aOL h
 unfold aA8; simp; omega
theorem auE : ∀ {l : List Int}, Dg 1000000000 l → (aCo l).length ≤ 9 * l.length
 | [], _ => by simp [aCo]
 | [d], h => by
  have := (asL h).2
  have := aOL (d := d.toNat) zc
  simp only [aCo, yu]; omega
 | d :: e :: r, h => by
  have h1 := auE (aoN h)
  have := (asL h).2
  have h2 := aNV (d := d.toNat) zc
  rw [show aCo (d :: e :: r) = aCo (e :: r) ++ aA8 9 d.toNat from rfl, zJ]
  simp only [zG] at h1 ⊢
  omega
def Bd (k n : Nat) : Prop := (mag n).length ≤ 1000000 * 4 ^ k
theorem aaI {k j n : Nat} (h : Bd k n) (hk : k ≤ j) : Bd j n := zz h (yw _ (yb zc hk))
theorem amV {k m n : Nat} (h : Bd k n) (hm : m ≤ n) : Bd k m := zz (abP hm) h
theorem aaW {k m n : Nat} (h1 : Bd k m) (h2 : Bd k n) : Bd (k + 1) (m * n) := by
 have := af1 m n
 unfold Bd at *
 rw [yA]
 omega
theorem aaY {k m n : Nat} (h1 : Bd k m) (h2 : Bd k n) : Bd (k + 1) (m + n) := by
 have := aiF m n
 have h3 : 1 ≤ 4 ^ k := xl zc
 unfold Bd at *
 rw [yA]
 omega
theorem aaR {k m : Nat} (n : Nat) (h1 : Bd k m) : Bd k (m / n) := amV h1 (xx _ _)
theorem aa1 {k m : Nat} (n : Nat) (h1 : Bd k m) : Bd k (m % n) := amV h1 (Nat.mod_le _ _)
theorem aa0 {k m n : Nat} (h1 : Bd k m) (h2 : Bd k n) : Bd k (Nat.gcd m n) := by
 rcases zF m with h | h
 ·subst h; rw [Nat.gcd_zero_left]; exact h2
 ·exact amV h1 (Nat.gcd_le_left _ h)
theorem aaD {k : Nat} {a b : Int} (h1 : Bd k a.natAbs) (h2 : Bd k b.natAbs) : Bd (k + 1) (a + b).natAbs := amV (aaY h1 h2) (Int.natAbs_add_le a b)
theorem aaC {k : Nat} {a b : Int} (h1 : Bd k a.natAbs) (h2 : Bd k b.natAbs) : Bd (k + 1) (a * b).natAbs := by rw [yF]; exact aaW h1 h2
theorem aaV {k : Nat} {a : Int} (h1 : Bd k a.natAbs) : Bd k (-a).natAbs := by rw [xE]; exact h1
theorem aaT {k n : Nat} (h : Bd k n) : Bd k (n : Int).natAbs := h
theorem aaG {n : Nat} (h : n < 1000000000000000000000000000) : Bd 0 n := by
 unfold Bd
 have : (mag n).length ≤ 3 := mag_length_le_iff.2 zc
 omega
theorem zd {p : Prop} (h : p := by repeat (first | assumption | exact aaI (by assumption) (by omega) | exact aaG (by omega) | refine aa0 ?_ ?_ | refine aaR _ ?_ | refine aa1 _ ?_ | refine aaD ?_ ?_ | refine aaC ?_ ?_ | refine aaV ?_ | refine aaW ?_ ?_ | refine aaY ?_ ?_ | refine aaT ?_)) : p := h
theorem aiG {n k : Nat} (h : (aa3 n).length ≤ k) : (mag n).length ≤ k := by
 rw [mag_length_le_iff]
 have h1 := afJ n
 have h2 : (10 : Nat) ^ (aa3 n).length ≤ 10 ^ (9 * k) := yb zc zc
 have h3 : (10 : Nat) ^ (9 * k) = 1000000000 ^ k := by rw [xI]
 omega
theorem aiK {n k : Nat} (h : (mag n).length ≤ k) : (aa3 n).length ≤ 9 * k + 1 := by
 rw [mag_length_le_iff] at h
 have h3 : (10 : Nat) ^ (9 * k) = 1000000000 ^ k := by rw [xI]
 have h4 : (10 : Nat) ^ (9 * k) ≤ 10 ^ (9 * k + 1) := yb zc zc
 exact acF zc
theorem aRd {n : Nat} (h : (aa3 n).length ≤ 1000000) : Bd 0 n := aiG h
@[reducible] def sg (z : Int) : List Int × Bool × Unit := (mag z.natAbs, decide (z < 0), ())
theorem aoT {a b : Int} (h : sg a = sg b) : a = b := by
 obtain ⟨h1, h2⟩ := Prod.mk.inj h
 obtain ⟨h2, -⟩ := Prod.mk.inj h2
 have := adK h1
 simp only [decide_eq_decide] at h2
 omega
@[reducible] def rt (q : Rat) : (List Int × Bool × Unit) × List Int × Unit := (sg q.num, mag q.den, ())
theorem azB {a b : Rat} (h : rt a = rt b) : a = b := by
 obtain ⟨h1, h2⟩ := Prod.mk.inj h
 obtain ⟨h2, -⟩ := Prod.mk.inj h2
 exact Rat.ext (aoT h1) (adK h2)
@[reducible] def fx (q : Rat) : List UInt8 × List UInt8 × Unit := (dec q.num, aa3 q.den, ())
theorem az7 {a b : Rat} (h : fx a = fx b) : a = b := by
 obtain ⟨h1, h2⟩ := Prod.mk.inj h
 obtain ⟨h2, -⟩ := Prod.mk.inj h2
 exact Rat.ext (alQ h1) (aj7 h2)
def Fit (z : Int) : Prop := (aa3 z.natAbs).length ≤ 600
instance (z : Int) : Decidable (Fit z) := inferInstanceAs (Decidable (_ ≤ _))
def aeI (q : Rat) : Prop := Fit q.num ∧ Fit q.den
instance (q : Rat) : Decidable (aeI q) := inferInstanceAs (Decidable (_ ∧ _))
theorem aw7 {z : Int} (h : Fit z) : Bd 0 z.natAbs := aRd (zz h zc)
noncomputable def rdW (s : List UInt8) : Option Int := open Classical in if h : ∃ z : Int, Fit z ∧ dec z = s then some h.choose else none
theorem ak6 {z : Int} (h : Fit z) : rdW (dec z) = some z := by
 have hex : ∃ w : Int, Fit w ∧ dec w = dec z := ⟨z, h, rfl⟩
 unfold rdW
 rw [dif_pos hex, alQ hex.choose_spec.2]
theorem af0 {s : List UInt8} {z : Int} (h : rdW s = some z) : Fit z ∧ s = dec z := by
 unfold rdW at h
 split at h
 ·rename_i hex
  injection h with h
  subst h
  exact ⟨hex.choose_spec.1, hex.choose_spec.2.symm⟩
 ·cases h
theorem aGP {s : List UInt8} (h : ∀ z : Int, Fit z → dec z ≠ s) : rdW s = none := by
 unfold rdW
 rw [dif_neg (fun ⟨z, h1, h2⟩ => h z h1 h2)]
noncomputable def rdF (s : List UInt8 × List UInt8 × Unit) : Option Rat := open Classical in if h : ∃ q : Rat, aeI q ∧ fx q = s then some h.choose else none
theorem agB {q : Rat} (h : aeI q) : rdF (fx q) = some q := by
 have hex : ∃ w : Rat, aeI w ∧ fx w = fx q := ⟨q, h, rfl⟩
 unfold rdF
 rw [dif_pos hex, az7 hex.choose_spec.2]
theorem aoU {s : List UInt8 × List UInt8 × Unit} {q : Rat} (h : rdF s = some q) : aeI q ∧ s = fx q := by
 unfold rdF at h
 split at h
 ·rename_i hex
  injection h with h
  subst h
  exact ⟨hex.choose_spec.1, hex.choose_spec.2.symm⟩
 ·cases h
theorem aAZ {s : List UInt8 × List UInt8 × Unit} (h : ∀ q : Rat, aeI q → fx q ≠ s) : rdF s = none := by
 unfold rdF
 rw [dif_neg (fun ⟨z, h1, h2⟩ => h z h1 h2)]
def wrW (z : Int) : List UInt8 × Int × Unit := if Fit z then (dec z, 0, ()) else ([], 6, ())
def wrF (q : Rat) : (List UInt8 × List UInt8 × Unit) × Int × Unit := if aeI q then (fx q, 0, ()) else (([], [], ()), 6, ())
def acX (x : List UInt8 × List UInt8 × Unit) : Option (List UInt8 × Bool × Unit) := some (if x.2.1.isPrefixOf x.1 then (x.1.drop x.2.1.length, true, ()) else (x.1, false, ()))
theorem aqL (n : Nat) : ac6 (mag n, ()) = some (decide (n = 0), ()) := by
 unfold ac6
 rcases zF n with h | h
 ·subst h; simp [mag_zero, len]
 ·have : (mag n) ≠ [] := fun h2 => by have := mag_nil_iff.1 h2; omega
  have h3 : (mag n).length ≠ 0 := fun h2 => this (zW.1 h2)
  have : (len (mag n) == 0) = false := by rw [aaB, beq_eq_false_iff_ne]; omega
  rw [this, zn zc]
theorem atO {a b : Nat} (h1 : Bd 8 a) (h2 : Bd 8 b) : adN (mag a, mag b, ()) = some (atG a b, ()) := aaK (enc := fun p : Nat × Nat => (mag p.1, mag p.2, ())) (a, b) ⟨zz h1 zf, zz h2 zf⟩ (fun b hb => adC hb)
theorem aEs {a b : Nat} (h1 : Bd 8 a) (h2 : Bd 8 b) : al5 (mag a, mag b, ()) = some (mag (a + b), ()) := aaK (enc := fun p : Nat × Nat => (mag p.1, mag p.2, ())) (a, b) ⟨zz h1 zf, zz h2 zf⟩ (fun b hb => adC hb)
theorem aAB {a b : Nat} (h1 : Bd 8 a) (h2 : b ≤ a) : ajH (mag a, mag b, ()) = some (mag (a - b), ()) := aaK (enc := fun p : Nat × Nat => (mag p.1, mag p.2, ())) (a, b) ⟨zz h1 zf, h2⟩ (fun b hb => adC hb)
theorem agZ {a b : Nat} (h1 : Bd 8 a) (h2 : Bd 8 b) : ab9 (mag a, mag b, ()) = some (mag (a * b), ()) := aaK (enc := fun p : Nat × Nat => (mag p.1, mag p.2, ())) (a, b) ⟨zz h1 zf, zz h2 zf⟩ (fun b hb => adC hb)
theorem aCe {n : Nat} (h : n < 18446744073709551616) : abM ((n : Int), ()) = some (mag n, ()) := by
 unfold abM
 rw [if_pos zm]
 simp
theorem aJL {n : Nat} (h : Bd 8 n) : agX (aa3 n, ()) = some (mag n, ()) := by
 unfold agX
 have hl : (aa3 n).length ≤ 1000000000000 :=  zz (aiK h) zf
 rw [if_pos ⟨amR n, afL n, hl⟩]
 simp only [ao9]
theorem axX {n : Nat} (h : Bd 8 n) : ahJ (mag n, ()) = some (((aa3 n).length : Int), ()) := aaK (enc := fun n : Nat => (mag n, ())) n (zz h zf) (fun b hb => adK (Prod.mk.inj hb).1)
theorem aoL {n : Nat} (h : Bd 0 n) : ahK (mag n, ()) = some (aa3 n, ()) := aaK (enc := fun n : Nat => (mag n, ())) n (zz h zf) (fun b hb => adK (Prod.mk.inj hb).1)
theorem ab2 {a b : Nat} (h1 : Bd 8 a) (h2 : Bd 8 b) (h3 : b ≠ 0) : abC (mag a, mag b, ()) = some (mag (a / b), mag (a % b), ()) := aaK (enc := fun p : Nat × Nat => (mag p.1, mag p.2, ())) (a, b) ⟨zz h1 zf, zz h2 zf, h3⟩ (fun b hb => adC hb)
theorem am4 {a b : Nat} (h1 : Bd 8 a) (h2 : Bd 8 b) : agT (mag a, mag b, ()) = some (mag (Nat.gcd a b), ()) := aaK (enc := fun p : Nat × Nat => (mag p.1, mag p.2, ())) (a, b) ⟨zz h1 zf, zz h2 zf⟩ (fun b hb => adC hb)
theorem axP (n : Nat) : ahF (mag n, ()) = some (decide (n = 0), ()) := by
 unfold ahF
 rcases zF n with h | h
 ·subst h; simp [mag_zero, len]
 ·have : (mag n) ≠ [] := fun h2 => by have := mag_nil_iff.1 h2; omega
  have h3 : (mag n).length ≠ 0 := fun h2 => this (zW.1 h2)
  have : (len (mag n) == 0) = false := by rw [aaB, beq_eq_false_iff_ne]; omega
  rw [this, zn zc]
theorem aEo {a b : Nat} (h1 : Bd 8 a) (h2 : Bd 8 b) : al1 (mag a, mag b, ()) = some (atG a b, ()) := aaK (enc := fun p : Nat × Nat => (mag p.1, mag p.2, ())) (a, b) ⟨zz h1 zf, zz h2 zf⟩ (fun b hb => adC hb)
theorem aEn {a b : Nat} (h1 : Bd 8 a) (h2 : Bd 8 b) : ap2 (mag a, mag b, ()) = some (mag (a + b), ()) := aaK (enc := fun p : Nat × Nat => (mag p.1, mag p.2, ())) (a, b) ⟨zz h1 zf, zz h2 zf⟩ (fun b hb => adC hb)
theorem aJH {a b : Nat} (h1 : Bd 8 a) (h2 : b ≤ a) : asD (mag a, mag b, ()) = some (mag (a - b), ()) := aaK (enc := fun p : Nat × Nat => (mag p.1, mag p.2, ())) (a, b) ⟨zz h1 zf, h2⟩ (fun b hb => adC hb)
theorem asI {a b : Nat} (h1 : Bd 8 a) (h2 : Bd 8 b) : ai6 (mag a, mag b, ()) = some (mag (a * b), ()) := aaK (enc := fun p : Nat × Nat => (mag p.1, mag p.2, ())) (a, b) ⟨zz h1 zf, zz h2 zf⟩ (fun b hb => adC hb)
theorem aJG {a d : Nat} (h1 : Bd 8 a) (h2 : 0 < d) (h3 : d < 4294967296) : asC (mag a, (d : Int), ()) = some (mag (a / d), ((a % d : Nat) : Int), ()) := by
 refine aaK (enc := fun p : Nat × Nat => (mag p.1, (p.2 : Int), ())) (a, d) ⟨zz h1 zf, h2, h3⟩ (fun b hb => ?_)
 obtain ⟨e1, e2⟩ := Prod.mk.inj hb
 obtain ⟨e2, -⟩ := Prod.mk.inj e2
 exact Prod.ext (adK e1) (Int.ofNat.inj e2)
theorem aCc {n : Nat} (h : n < 18446744073709551616) : agS ((n : Int), ()) = some (mag n, ()) := by
 unfold agS
 rw [if_pos zm]
 simp
theorem axQ {n : Nat} (h : Bd 8 n) : akG (mag n, ()) = some (((aa3 n).length : Int), ()) := aaK (enc := fun n : Nat => (mag n, ())) n (zz h zf) (fun b hb => adK (Prod.mk.inj hb).1)
theorem axS {n : Nat} (h : Bd 0 n) : akI (mag n, ()) = some (aa3 n, ()) := aaK (enc := fun n : Nat => (mag n, ())) n (zz h zf) (fun b hb => adK (Prod.mk.inj hb).1)
theorem axR {a b : Nat} (h1 : Bd 8 a) (h2 : Bd 8 b) (h3 : b ≠ 0) : akH (mag a, mag b, ()) = some (mag (a / b), mag (a % b), ()) := aaK (enc := fun p : Nat × Nat => (mag p.1, mag p.2, ())) (a, b) ⟨zz h1 zf, zz h2 zf, h3⟩ (fun b hb => adC hb)
abbrev SgT := List Int × Bool × Unit
abbrev RtT := (List Int × Bool × Unit) × List Int × Unit
abbrev FxT := List UInt8 × List UInt8 × Unit
def BdQ (k : Nat) (q : Rat) : Prop := Bd k q.num.natAbs ∧ Bd k q.den
def ax6 (p q : Rat) : Int := if p < q then -1 else if p = q then 0 else 1
def fl (q : Rat) : Int := q.num / q.den
def apA (q : Rat) (s : Nat) : Int := fl (q * (s : Rat) + mkRat 1 2)
def ofQ (n d : Int) : FxT × Int × Unit := if d = 0 then (([], [], ()), 7, ()) else wrF (Rat.divInt n d)
def abD (z : Int) : Prop := -9223372036854775808 ≤ z ∧ z ≤ 9223372036854775807
instance (z : Int) : Decidable (abD z) := inferInstanceAs (Decidable (_ ∧ _))
def aa8 (x : List Int × Bool × Unit) : Option (SgT × Unit) := some ((x.1, x.2.1 && !(len x.1 == 0), ()), ())
def ah3 (x : List Int × Bool × Unit) : Option (SgT × Unit) := some ((x.1, x.2.1 && !(len x.1 == 0), ()), ())
noncomputable def afB : SgT × Unit → Option (SgT × Unit) := adG (fun x : Int => (sg x, ())) (fun x => Bd 8 x.natAbs) (fun x => (sg (-x), ()))
noncomputable def ajJ : SgT × Unit → Option (Int × Unit) := adG (fun x : Int => (sg x, ())) (fun x => Bd 8 x.natAbs) (fun x => (x.sign, ()))
noncomputable def am2 : SgT × SgT × Unit → Option (SgT × Unit) := adG (fun x : Int × Int => (sg x.1, sg x.2, ())) (fun x => Bd 7 x.1.natAbs ∧ Bd 7 x.2.natAbs) (fun x => (sg (x.1 + x.2), ()))
noncomputable def ap0 : SgT × Unit → Option (SgT × Unit) := adG (fun x : Int => (sg x, ())) (fun x => Bd 8 x.natAbs) (fun x => (sg (-x), ()))
noncomputable def aHu : SgT × SgT × Unit → Option (SgT × Unit) := adG (fun x : Int × Int => (sg x.1, sg x.2, ())) (fun x => Bd 7 x.1.natAbs ∧ Bd 7 x.2.natAbs) (fun x => (sg (x.1 + x.2), ()))
noncomputable def axH : SgT × SgT × Unit → Option (SgT × Unit) := adG (fun x : Int × Int => (sg x.1, sg x.2, ())) (fun x => Bd 7 x.1.natAbs ∧ Bd 7 x.2.natAbs) (fun x => (sg (x.1 - x.2), ()))
noncomputable def ah2 : SgT × SgT × Unit → Option (SgT × Unit) := adG (fun x : Int × Int => (sg x.1, sg x.2, ())) (fun x => Bd 7 x.1.natAbs ∧ Bd 7 x.2.natAbs) (fun x => (sg (x.1 * x.2), ()))
noncomputable def ajI : SgT × Unit → Option (List UInt8 × Unit) := adG (fun x : Int => (sg x, ())) (fun x => Bd 0 x.natAbs) (fun x => (dec x, ()))
noncomputable def adO : SgT × List Int × Unit → Option (SgT × Unit) := adG (fun x : Int × Nat => (sg x.1, mag x.2, ())) (fun x => Bd 7 x.1.natAbs ∧ Bd 7 x.2) (fun x => (sg (x.1 * x.2), ()))
noncomputable def ajK : SgT × List Int × Unit → Option (SgT × Unit) := adG (fun x : Int × Nat => (sg x.1, mag x.2, ())) (fun x => Bd 7 x.1.natAbs ∧ Bd 7 x.2 ∧ x.2 ≠ 0) (fun x => (sg (x.1 / x.2), ()))
noncomputable def afS : List UInt8 × Unit → Option (SgT × Unit) := adG (fun x : Int => (dec x, ())) (fun x => Bd 7 x.natAbs) (fun x => (sg x, ()))
noncomputable def ae7 (x : List UInt8 × Unit) : Option (SgT × Bool × Unit) := some (match rdW x.1 with | some z => (sg z, true, ()) | none => (([], false, ()), false, ()))
noncomputable def ae9 (x : List UInt8 × Unit) : Option (Int × Unit) := some (if (rdW x.1).isSome then 0 else 10, ())
noncomputable def ae8 (x : List UInt8 × List UInt8 × Unit) : Option (SgT × SgT × Int × Unit) := some (match rdW x.1, rdW x.2.1 with | some z, some w => (sg z, sg w, 0, ()) | _, _ => (([], false, ()), ([], false, ()), 10, ()))
noncomputable def acU : SgT × Unit → Option (List UInt8 × Int × Unit) := adG (fun x : Int => (sg x, ())) (fun x => Bd 8 x.natAbs) (fun x => wrW x)
noncomputable def aeQ : RtT × Unit → Option (FxT × Int × Unit) := adG (fun x : Rat => (rt x, ())) (fun x => BdQ 8 x) (fun x => wrF x)
noncomputable def akN : SgT × List Int × Unit → Option (RtT × Unit) := adG (fun x : Int × Nat => (sg x.1, mag x.2, ())) (fun x => Bd 7 x.1.natAbs ∧ Bd 7 x.2 ∧ x.2 ≠ 0) (fun x => (rt (mkRat x.1 x.2), ()))
noncomputable def ah5 : RtT × Unit → Option (RtT × Unit) := adG (fun x : Rat => (rt x, ())) (fun x => BdQ 7 x) (fun x => (rt (-x), ()))
noncomputable def ah6 : RtT × Unit → Option (RtT × Unit) := adG (fun x : Rat => (rt x, ())) (fun x => BdQ 7 x ∧ x ≠ 0) (fun x => (rt x⁻¹, ()))
noncomputable def aqD : RtT × RtT × Unit → Option (RtT × Unit) := adG (fun x : Rat × Rat => (rt x.1, rt x.2, ())) (fun x => BdQ 3 x.1 ∧ BdQ 3 x.2) (fun x => (rt (x.1 + x.2), ()))
noncomputable def auI : RtT × RtT × Unit → Option (RtT × Unit) := adG (fun x : Rat × Rat => (rt x.1, rt x.2, ())) (fun x => BdQ 3 x.1 ∧ BdQ 3 x.2) (fun x => (rt (x.1 - x.2), ()))
noncomputable def aqC : RtT × RtT × Unit → Option (RtT × Unit) := adG (fun x : Rat × Rat => (rt x.1, rt x.2, ())) (fun x => BdQ 3 x.1 ∧ BdQ 3 x.2) (fun x => (rt (x.1 * x.2), ()))
noncomputable def am0 : RtT × RtT × Unit → Option (Int × Unit) := adG (fun x : Rat × Rat => (rt x.1, rt x.2, ())) (fun x => BdQ 3 x.1 ∧ BdQ 3 x.2) (fun x => (ax6 x.1 x.2, ()))
noncomputable def aqB : RtT × List Int × Unit → Option (SgT × Unit) := adG (fun x : Rat × Nat => (rt x.1, mag x.2, ())) (fun x => BdQ 1 x.1 ∧ Bd 1 x.2) (fun x => (sg (apA x.1 x.2), ()))
noncomputable def abL (x : FxT × Unit) : Option (RtT × Bool × Unit) := some (match rdF x.1 with | some q => (rt q, true, ()) | none => ((([], false, ()), [], ()), false, ()))
noncomputable def aqG (x : FxT × Unit) : Option (Int × Unit) := some (if (rdF x.1).isSome then 0 else 20, ())
noncomputable def aqF (x : List UInt8 × List UInt8 × Unit) : Option (FxT × Int × Unit) := some (match rdW x.1, rdW x.2.1 with | some n, some d => ofQ n d | _, _ => (([], [], ()), 10, ()))
noncomputable def al6 (x : Int × Int × Unit) : Option (FxT × Int × Unit) := if abD x.1 ∧ abD x.2.1 then some (ofQ x.1 x.2.1) else none
noncomputable def aqE (x : FxT × Unit) : Option (Int × Int × Unit) := some (match rdF x.1 with | some q => (q.num.sign, 0, ()) | none => (0, 20, ()))
noncomputable def ahL (x : FxT × FxT × Unit) : Option (Int × Int × Unit) := some (match rdF x.1, rdF x.2.1 with | some p, some q => (ax6 p q, 0, ()) | _, _ => (0, 20, ()))
noncomputable def aNZ (f : Rat → Rat → Rat) (x : FxT × FxT × Unit) : FxT × Int × Unit := match rdF x.1, rdF x.2.1 with | some p, some q => wrF (f p q) | _, _ => (([], [], ()), 20, ())
noncomputable def aeH (x : FxT × FxT × Unit) : Option (FxT × Int × Unit) := some (aNZ (· + ·) x)
noncomputable def afT (x : FxT × FxT × Unit) : Option (FxT × Int × Unit) := some (aNZ (· - ·) x)
noncomputable def ad4 (x : FxT × FxT × Unit) : Option (FxT × Int × Unit) := some (aNZ (· * ·) x)
noncomputable def afC (x : FxT × FxT × Unit) : Option (FxT × Int × Unit) := some (match rdF x.1, rdF x.2.1 with | some p, some q => if q = 0 then (([], [], ()), 7, ()) else wrF (p / q) | _, _ => (([], [], ()), 20, ()))
noncomputable def ajL (x : FxT × Unit) : Option (List UInt8 × Int × Unit) := some (match rdF x.1 with | some q => (dec (fl q), 0, ()) | none => ([], 20, ()))
noncomputable def akO (x : FxT × Int × Unit) : Option (Int × Int × Unit) := some (match rdF x.1 with | some q => if x.2.1 < 1 ∨ x.2.1 > 1000000000000 then (0, 2, ()) else if abD (apA q x.2.1.toNat) then (apA q x.2.1.toNat, 0, ()) else (0, 6, ()) | none => (0, 20, ()))
noncomputable def atL (x : Int × Unit) : Option (List UInt8 × Unit) := if abD x.1 then some (dec x.1, ()) else none
noncomputable def akK (x : List UInt8 × Unit) : Option (Int × Int × Unit) := some (match rdW x.1 with | some z => if abD z then (z, 0, ()) else (0, 6, ()) | none => (0, 10, ()))
noncomputable def asE (x : List UInt8 × List UInt8 × Unit) : Option (List UInt8 × Int × Unit) := some (match rdW x.1, rdW x.2.1 with | some z, some w => wrW (z * w) | _, _ => ([], 10, ()))
noncomputable def asF (x : List UInt8 × List UInt8 × Unit) : Option (List UInt8 × List UInt8 × Int × Unit) := some (match rdW x.1, rdW x.2.1 with | some z, some w => if w = 0 then ([], [], 7, ()) else (dec (z / w), dec (z % w), 0, ()) | _, _ => ([], [], 10, ()))
noncomputable def al2 (x : List UInt8 × Int × Unit) : Option (List UInt8 × Int × Unit) := some (match rdW x.1 with | some z => if x.2.1 < 0 ∨ x.2.1 > 40 then ([], 2, ()) else wrW (z ^ x.2.1.toNat) | none => ([], 10, ()))
noncomputable def adM (k n : Nat) : Nat := open Classical in if h : ∃ r, r ^ k ≤ n ∧ n < (r + 1) ^ k then h.choose else 0
noncomputable def ap3 (x : List UInt8 × Int × Unit) : Option (List UInt8 × Int × Unit) := some (match rdW x.1 with | some z => if x.2.1 < 1 ∨ x.2.1 > 12 ∨ z < 0 then ([], 2, ()) else wrW (adM x.2.1.toNat z.natAbs) | none => ([], 10, ()))
noncomputable def akJ : Int × Unit → Option (List Int × Unit) := adG (fun x : Nat => ((x : Int), ())) (fun x => x ≤ 100000000) (fun x => (mag (10 ^ x), ()))
noncomputable def ai7 : List Int × Int × Unit → Option (List Int × Unit) := adG (fun x : Nat × Nat => (mag x.1, (x.2 : Int), ())) (fun x => Bd 2 x.1 ∧ x.2 ≤ 40) (fun x => (mag (x.1 ^ x.2), ()))
noncomputable def ap1 : List Int × Int × Unit → Option (List Int × Unit) := adG (fun x : Nat × Nat => (mag x.1, (x.2 : Int), ())) (fun x => Bd 0 x.1 ∧ 1 ≤ x.2 ∧ x.2 ≤ 12) (fun x => (mag (adM x.2 x.1), ()))
noncomputable def aM4 : List UInt8 × Unit → Option (Int × Bool × Unit) := adG (fun z : Int => (dec z, ())) abD (fun z => (z, false, ()))
theorem aRm {z : Int} (h : abD z) : aM4 (dec z, ()) = some (z, false, ()) := aaK (enc := fun z : Int => (dec z, ())) z h (fun b hb => alQ (Prod.mk.inj hb).1)
open Classical in
noncomputable def aM3 : List UInt8 × Int × Int × Unit → Option (Int × Bool × Unit) := adG (fun z : Int => (dec z, 10, 64, ())) (fun z => (dec z).length ≤ 1000000000) (fun z => if abD z then (z, false, ()) else (if z < 0 then -9223372036854775808 else 9223372036854775807, true, ()))
open Classical in
theorem aRk {z : Int} (h : (dec z).length ≤ 1000000000) : aM3 (dec z, 10, 64, ()) = some (if abD z then (z, false, ()) else (if z < 0 then -9223372036854775808 else 9223372036854775807, true, ())) :=
 aaK (enc := fun z : Int => (dec z, (10 : Int), (64 : Int), ())) z h (fun b hb => alQ (Prod.mk.inj hb).1)
theorem aPY (s : List UInt8) (a : Nat) : a ≤ ax7 a s := by
 rw [aLf]
 have := Nat.le_mul_of_pos_right a (show 0 < 10 ^ s.length from xl zc)
 omega
theorem ay4 : ∀ {s : List UInt8} {a : Nat}, isD s → a < 18446744073709551616 → Lib.parseUint10 a s = if ax7 a s < 18446744073709551616 then .ok (ax7 a s) else .range
 | [], a, _, ha => by
  rw [show ax7 a [] = a from rfl, if_pos ha]
  rfl
 | c :: s, a, h, ha => by
  have hc := h c zi
  have hs : isD s := fun d hd => h d (by simp [hd])
  have hge := aPY s (a * 10 + dv c)
  rw [agC]
  simp only [Lib.parseUint10]
  rw [if_pos hc]
  have hdv : dv c = c.toNat - 48 := rfl
  by_cases h1 : 1844674407370955162 ≤ a
  ·rw [if_pos h1, if_neg zc]
  ·rw [if_neg h1]
   by_cases h2 : 18446744073709551616 ≤ a * 10 + (c.toNat - 48)
   ·rw [if_pos h2, if_neg zc]
   ·rw [if_neg h2]
    exact ay4 hs zc
theorem aoX (n : Nat) : Lib.parseMag (aa3 n) = if n < 18446744073709551616 then .ok n else .range := by
 unfold Lib.parseMag
 rw [if_neg (afL n), ay4 (amR n) zc]
 have : ax7 0 (aa3 n) = n := ao9 n
 rw [this]
theorem aMm (n : Nat) : ∃ c r, aa3 n = c :: r ∧ 48 ≤ c.toNat ∧ c.toNat ≤ 57 := by
 cases h : aa3 n with
 | nil => exact absurd h (afL n)
 | cons c r => exact ⟨c, r, rfl, amR n c (by rw [h]; simp)⟩
open Classical in
theorem aB7 (z : Int) : Lib.atoiAll (dec z) = if abD z then .ok z else .range := by
 unfold dec
 by_cases hz : z < 0
 ·rw [if_pos hz]
  rw [Lib.atoiAll_minus, aoX]
  by_cases h1 : z.natAbs < 18446744073709551616
  ·rw [if_pos h1]
   simp only [Lib.signed]
   by_cases h2 : 9223372036854775808 < z.natAbs
   ·rw [if_pos h2, if_neg (fun h => by have := h.1; omega)]
   ·rw [if_neg h2, if_pos ⟨by omega, by omega⟩]
    congr 1
    omega
  ·rw [if_neg h1, if_neg (fun h => by have := h.1; omega)]
   rfl
 ·rw [if_neg hz]
  obtain ⟨c, r, e, c1, c2⟩ := aMm z.natAbs
  have hp := aoX z.natAbs
  rw [e] at hp ⊢
  rw [Lib.atoiAll_plain _ _ zc zc, hp]
  by_cases h1 : z.natAbs < 18446744073709551616
  ·rw [if_pos h1]
   simp only [Lib.signless]
   by_cases h2 : 9223372036854775808 ≤ z.natAbs
   ·rw [if_pos h2, if_neg (fun h => by have := h.2; omega)]
   ·rw [if_neg h2, if_pos ⟨by omega, by omega⟩]
    congr 1
    omega
  ·rw [if_neg h1, if_neg (fun h => by have := h.2; omega)]
   rfl
theorem aGr (z : Int) : Lib.atoiSat (dec z) = if z < 0 then -9223372036854775808 else 9223372036854775807 := by
 unfold dec Lib.atoiSat
 by_cases hz : z < 0
 ·rw [if_pos hz, if_pos hz]
  exact if_pos rfl
 ·rw [if_neg hz, if_neg hz]
  obtain ⟨c, r, e, c1, c2⟩ := aMm z.natAbs
  rw [e, if_neg]
  simp only [wX, wo, Option.some.injEq]
  omega
theorem aOp (z : Int) : Lib.itoa z = dec z := by
 unfold Lib.itoa dec aa3
 by_cases hz : z < 0
 ·rw [if_pos hz, if_pos hz]
 ·rw [if_neg hz, if_neg hz]
  congr 1
  omega
theorem auY (s : List UInt8) : ∀ n, Lib.repeatL s n = (List.replicate n s).flatten
 | 0 => rfl
 | n + 1 => by rw [Lib.repeatL, auY s n, xi, List.flatten_cons]
end Go.Vs
namespace Go.Vg
abbrev TT.tt {α : Type} (x : TT α) : TT α := .triv (true = true) rfl x
abbrev TT.tr {α : Type} (x : TT α) : TT α := .triv True trivial x
abbrev TT.vI {α : Type} (p : Prop) (x : TT α) (h : p := by repeat' constructor) : TT α := .triv p h x
end Go.Vg
namespace Go.Vs
open Go Go.Vg
abbrev Qq {α : Sort _} (x : α) : Prop := x = x
theorem tv {p : Prop} (h : p := by repeat' constructor) : p := h
abbrev vR {α₁ : Sort _} (a : α₁) : Prop := Qq a ∧ True
abbrev vU {α₁ α₂ : Sort _} (a : α₁) (b : α₂) : Prop := Qq a ∧ Qq b ∧ True
abbrev vL {α₁ α₂ α₃ : Sort _} (a : α₁) (b : α₂) (c : α₃) : Prop := Qq a ∧ Qq b ∧ Qq c ∧ True
abbrev vK {α₁ α₂ α₃ α₄ : Sort _} (a : α₁) (b : α₂) (c : α₃) (d : α₄) : Prop := Qq a ∧ Qq b ∧ Qq c ∧ Qq d ∧ True
abbrev vM {α₁ α₂ : Sort _} (a : α₁) (b : α₂) : Prop := Qq a ∧ Qq b
abbrev vW {α₁ α₂ α₃ : Sort _} (a : α₁) (b : α₂) (c : α₃) : Prop := Qq a ∧ Qq b ∧ Qq c
abbrev vN {α₁ α₂ α₃ α₄ : Sort _} (a : α₁) (b : α₂) (c : α₃) (d : α₄) : Prop := Qq a ∧ Qq b ∧ Qq c ∧ Qq d
abbrev vJ {α₁ : Sort _} (a : α₁) (R : Prop) : Prop := Qq a ∧ R
abbrev vP {α₁ α₂ : Sort _} (a : α₁) (b : α₂) (R : Prop) : Prop := Qq a ∧ Qq b ∧ R
abbrev vT {α₁ α₂ α₃ : Sort _} (a : α₁) (b : α₂) (c : α₃) (R : Prop) : Prop := Qq a ∧ Qq b ∧ Qq c ∧ R
abbrev vQ {α₁ α₂ α₃ α₄ : Sort _} (a : α₁) (b : α₂) (c : α₃) (d : α₄) (R : Prop) : Prop := Qq a ∧ Qq b ∧ Qq c ∧ Qq d ∧ R
abbrev vO {α₁ α₂ α₃ α₄ α₅ : Sort _} (a : α₁) (b : α₂) (c : α₃) (d : α₄) (e : α₅) (R : Prop) : Prop := Qq a ∧ Qq b ∧ Qq c ∧ Qq d ∧ Qq e ∧ R
abbrev vX {α₁ α₂ α₃ α₄ α₅ α₆ : Sort _} (a : α₁) (b : α₂) (c : α₃) (d : α₄) (e : α₅) (f : α₆) (R : Prop) : Prop := Qq a ∧ Qq b ∧ Qq c ∧ Qq d ∧ Qq e ∧ Qq f ∧ R
abbrev vV {α₁ α₂ α₃ α₄ α₅ α₆ α₇ : Sort _} (a : α₁) (b : α₂) (c : α₃) (d : α₄) (e : α₅) (f : α₆) (g : α₇) (R : Prop) : Prop := Qq a ∧ Qq b ∧ Qq c ∧ Qq d ∧ Qq e ∧ Qq f ∧ Qq g ∧ R
abbrev vS {α₁ α₂ α₃ α₄ α₅ α₆ α₇ α₈ : Sort _} (a : α₁) (b : α₂) (c : α₃) (d : α₄) (e : α₅) (f : α₆) (g : α₇) (h : α₈) (R : Prop) : Prop := Qq a ∧ Qq b ∧ Qq c ∧ Qq d ∧ Qq e ∧ Qq f ∧ Qq g ∧ Qq h ∧ R
abbrev vH (a R : Prop) : Prop := a ∧ Qq true ∧ R
abbrev ue : Prop := vW 0 0 true
abbrev uf : Prop := vL 53 (0 : Int) (0 : Int)
abbrev uh : Prop := vW 1 0 true
abbrev um : Prop := vW 3 0 true
abbrev un : Prop := vP 42 (3 : Int) <| True ∧ (vN 11 0 1 true) ∧ True
abbrev uv : Prop := vW 2 0 true
abbrev uH : Prop := um ∧ uh ∧ ue ∧ True
abbrev uJ : Prop := vP 83 false <| True ∧ True
abbrev uK : Prop := vW 4 0 true
abbrev uY : Prop := vP 42 (2 : Int) <| True ∧ True ∧ True
abbrev tg : Prop := vN 4 0 1 true
abbrev tj : Prop := vM 11 true
abbrev tk : Prop := vW 7 0 true
abbrev tn : Prop := vU 48 (0 : Int)
abbrev tq : Prop := vH (vJ 212 <| True ∧ vR false) True
abbrev tE : Prop := vO false false (1 : Int) (0 : Int) (0 : Int) <| ue ∧ True
abbrev tG : Prop := (vW 15 0 true) ∧ (uK ∧ (vJ (0 : Int) <| uv ∧ True))
abbrev tO : Prop := vN 5 0 1 true
abbrev tQ : Prop := vW 19 0 true
abbrev tR : Prop := vJ 169 <| True ∧ True
abbrev Dd0 := Ty.dflt tH
abbrev Dd1 := Ty.dflt uA
abbrev Dd2 := Ty.dflt (Ty.pair Ty.str Ty.unit)
abbrev Dd3 := Ty.dflt (Ty.pair uw Ty.unit)
abbrev Dd4 := Ty.dflt (Ty.pair uI tH)
abbrev Dd5 := Ty.dflt (Ty.pair tA Ty.unit)
abbrev Dd6 := Ty.dflt ux
abbrev Dd7 := Ty.dflt (Ty.pair Ty.str uA)
abbrev Dd8 := Ty.dflt (Ty.pair (Ty.pair tA tH) Ty.unit)
abbrev Dd9 := Ty.dflt (Ty.pair tA uA)
abbrev aRU := Ty.dflt (Ty.pair tA (Ty.pair tA ux))
abbrev aGA := Ty.dflt (Ty.pair Ty.str ux)
abbrev aRJ := Ty.dflt (Ty.pair uI (Ty.pair ud Ty.unit))
abbrev aHF := Ty.dflt (Ty.pair (Ty.pair tA tH) uA)
abbrev af6 := Ty.dflt (Ty.pair uS ux)
abbrev aCj := Ty.dflt tK
abbrev at0 := Ty.dflt (Ty.pair tK ux)
abbrev aRT := Ty.dflt (Ty.pair Ty.str (Ty.pair Ty.bool ux))
abbrev aR1 := Ty.dflt (Ty.pair Ty.str (Ty.pair Ty.str ux))
abbrev afF := Ty.dflt (Ty.pair uS Ty.unit)
abbrev aGz := Ty.dflt (Ty.pair tD Ty.unit)
abbrev ayY := Ty.dflt (Ty.pair uG Ty.unit)
abbrev aR0 := Ty.dflt (Ty.pair tD ux)
abbrev aRS := Ty.dflt (Ty.pair tD (Ty.pair tD Ty.unit))
abbrev aRs := Ty.dflt (Ty.pair uG (Ty.pair uG Ty.unit))
abbrev aRR := Ty.dflt (Ty.pair (Ty.pair uG (Ty.pair uG Ty.unit)) Ty.unit)
abbrev aHE := Ty.dflt (Ty.pair tN Ty.unit)
abbrev aRQ := Ty.dflt (Ty.pair vZ uA)
abbrev aRZ := Ty.dflt (Ty.pair (Ty.arr 3 tN) Ty.unit)
theorem aPb {q : Rat} {n : Int} {D : Nat} (nz : D ≠ 0) (c : n.natAbs.Coprime D) (h : q = mkRat n D) : q.num = n ∧ q.den = D := by
 rw [h, ← Rat.mk_eq_mkRat n D nz c]; exact ⟨rfl, rfl⟩
theorem aJd {a b : Nat} (h : ∀ k, k ∣ a → k ∣ b → k = 1) : a.Coprime b := h _ (xF a b) (xA a b)
theorem aMq {n1 n2 : Int} {b' d' b : Nat} (h1 : n1.natAbs.Coprime b) (hb : b' ∣ b) (h3 : b'.Coprime d') : (n1 * d' + n2 * b').natAbs.Coprime b' := by
 refine aJd fun k hk hkb => ?_
 have e1 : (k : Int) ∣ n1 * d' + n2 * b' := xL.2 hk
 have e2 : (k : Int) ∣ n2 * b' := Int.dvd_trans (Int.natCast_dvd_natCast.2 hkb) (Int.dvd_mul_left _ _)
 have e3 : (k : Int) ∣ n1 * d' := by
  have := Int.dvd_sub e1 e2
  rwa [Int.add_sub_cancel] at this
 have e4 : k ∣ n1.natAbs * d' := by
  have := xL.1 e3
  rwa [yF] at this
 have e5 : k.Coprime d' := Nat.Coprime.coprime_dvd_left hkb h3
 have e6 := Nat.Coprime.dvd_of_dvd_mul_right e5 e4
 exact Nat.Coprime.eq_one_of_dvd (Nat.Coprime.coprime_dvd_left e6 h1) (Nat.dvd_trans hkb hb)
theorem aEj (p q : Rat) : ∃ g h : Nat, ∃ top t : Int, g = Nat.gcd p.den q.den ∧ top = p.num * (q.den / g : Nat) + q.num * (p.den / g : Nat) ∧ h = Nat.gcd top.natAbs g ∧ g ≠ 0 ∧ h ≠ 0 ∧ top = h * t ∧ (p + q).num = t ∧ (p + q).den = (p.den / g) * (q.den / h) := by
 obtain ⟨g, hg⟩ : ∃ g, g = Nat.gcd p.den q.den := ⟨_, rfl⟩
 have g0 : 0 < g := by rw [hg]; exact Nat.gcd_pos_of_pos_left _ p.den_pos
 obtain ⟨b', hb⟩ : g ∣ p.den := hg ▸ xF _ _
 obtain ⟨d', hd⟩ : g ∣ q.den := hg ▸ xA _ _
 have hb' : p.den / g = b' := by rw [hb, yn _ g0]
 have hd' : q.den / g = d' := by rw [hd, yn _ g0]
 have hbd : b'.Coprime d' := by
  have := xM (m := p.den) (n := q.den) (by rw [← hg]; exact g0)
  rwa [← hg, hb', hd'] at this
 obtain ⟨top, ht⟩ : ∃ top : Int, top = p.num * (q.den / g : Nat) + q.num * (p.den / g : Nat) := ⟨_, rfl⟩
 obtain ⟨h, hh⟩ : ∃ h, h = Nat.gcd top.natAbs g := ⟨_, rfl⟩
 have h0 : 0 < h := by rw [hh]; exact wh _ g0
 obtain ⟨t, htt⟩ : (h : Int) ∣ top := xL.2 (hh ▸ xF _ _)
 obtain ⟨g', hg'⟩ : h ∣ g := hh ▸ xA _ _
 have c1 : top.natAbs.Coprime b' := by rw [ht, hb', hd']; exact aMq p.reduced ⟨g, by rw [hb, yJ]⟩ hbd
 have c2 : top.natAbs.Coprime d' := by rw [ht, hb', hd', Int.add_comm]; exact aMq q.reduced ⟨g, by rw [hd, yJ]⟩ hbd.symm
 have c3 : t.natAbs.Coprime g' := by
  have := xM (m := top.natAbs) (n := g) (by rw [← hh]; exact h0)
  rw [← hh, htt, yF, zQ, yn _ h0] at this
  conv at this => rhs; rw [hg']
  rwa [yn _ h0] at this
 have ct : t.natAbs ∣ top.natAbs := by rw [htt, yF]; exact Nat.dvd_mul_left _ _
 have e : q.den / h = g' * d' := by rw [hd, hg', wj, yn _ h0]
 have hc : t.natAbs.Coprime (b' * (g' * d')) := Nat.Coprime.mul_right (Nat.Coprime.coprime_dvd_left ct c1) (Nat.Coprime.mul_right c3 (Nat.Coprime.coprime_dvd_left ct c2))
 have nb : b' ≠ 0 := by rintro rfl; exact p.den_nz (by rw [hb]; simp)
 have nd : d' ≠ 0 := by rintro rfl; exact q.den_nz (by rw [hd]; simp)
 have ng : g' ≠ 0 := by rintro rfl; simp at hg'; omega
 have nz : b' * (g' * d') ≠ 0 := xT nb (xT ng nd)
 have hv : p + q = mkRat t (b' * (g' * d')) := by
  rw [Rat.add_def', yj (xT p.den_nz q.den_nz) nz, hb, hd]
  rw [hb', hd', htt] at ht
  simp only [yx]
  have hgz : (g : Int) = h * g' := by rw [hg']; simp
  have e1 : (p.num * ((g : Int) * d') + q.num * ((g : Int) * b')) = (g : Int) * (h * t) := by rw [ht]; grind
  rw [e1, hgz]
  grind
 obtain ⟨r1, r2⟩ := aPb nz hc hv
 exact ⟨g, h, top, t, hg, ht, hh, by omega, by omega, htt, r1, by rw [r2, hb', e]⟩
theorem aDo (p q : Rat) : ∃ g h : Nat, ∃ s t : Int, g = Nat.gcd p.num.natAbs q.den ∧ h = Nat.gcd q.num.natAbs p.den ∧ g ≠ 0 ∧ h ≠ 0 ∧ p.num = g * s ∧ q.num = h * t ∧ (p * q).num = s * t ∧ (p * q).den = (p.den / h) * (q.den / g) := by
 obtain ⟨g, hg⟩ : ∃ g, g = Nat.gcd p.num.natAbs q.den := ⟨_, rfl⟩
 obtain ⟨h, hh⟩ : ∃ h, h = Nat.gcd q.num.natAbs p.den := ⟨_, rfl⟩
 have g0 : 0 < g := by rw [hg]; exact wh _ q.den_pos
 have h0 : 0 < h := by rw [hh]; exact wh _ p.den_pos
 obtain ⟨s, hs⟩ : (g : Int) ∣ p.num := xL.2 (hg ▸ xF _ _)
 obtain ⟨t, ht⟩ : (h : Int) ∣ q.num := xL.2 (hh ▸ xF _ _)
 obtain ⟨d', hd⟩ : g ∣ q.den := hg ▸ xA _ _
 obtain ⟨b', hb⟩ : h ∣ p.den := hh ▸ xA _ _
 have hb' : p.den / h = b' := by rw [hb, yn _ h0]
 have hd' : q.den / g = d' := by rw [hd, yn _ g0]
 have as1 : p.num.natAbs / g = s.natAbs := by rw [hs, yF, zQ, yn _ g0]
 have at' : q.num.natAbs / h = t.natAbs := by rw [ht, yF, zQ, yn _ h0]
 have ds : s.natAbs ∣ p.num.natAbs := by rw [hs, yF]; exact Nat.dvd_mul_left _ _
 have dt : t.natAbs ∣ q.num.natAbs := by rw [ht, yF]; exact Nat.dvd_mul_left _ _
 have db : b' ∣ p.den := ⟨h, by rw [hb, yJ]⟩
 have dd : d' ∣ q.den := ⟨g, by rw [hd, yJ]⟩
 have c1 : s.natAbs.Coprime b' := Nat.Coprime.coprime_dvd_left ds (Nat.Coprime.coprime_dvd_right db p.reduced)
 have c2 : s.natAbs.Coprime d' := by
  have := xM (m := p.num.natAbs) (n := q.den) (by rw [← hg]; exact g0)
  rwa [← hg, as1, hd'] at this
 have c3 : t.natAbs.Coprime d' := Nat.Coprime.coprime_dvd_left dt (Nat.Coprime.coprime_dvd_right dd q.reduced)
 have c4 : t.natAbs.Coprime b' := by
  have := xM (m := q.num.natAbs) (n := p.den) (by rw [← hh]; exact h0)
  rwa [← hh, at', hb'] at this
 have hc : (s * t).natAbs.Coprime (b' * d') := by
  rw [yF]
  exact Nat.Coprime.mul_left (Nat.Coprime.mul_right c1 c2) (Nat.Coprime.mul_right c4 c3)
 have nb : b' ≠ 0 := by rintro rfl; exact p.den_nz (by rw [hb]; simp)
 have nd : d' ≠ 0 := by rintro rfl; exact q.den_nz (by rw [hd]; simp)
 have nz : b' * d' ≠ 0 := xT nb nd
 have hv : p * q = mkRat (s * t) (b' * d') := by
  rw [Rat.mul_def', yj (xT p.den_nz q.den_nz) nz, hs, ht]
  conv => lhs; rw [yx]
  rw [hb, hd]
  simp only [yx]
  grind
 obtain ⟨r1, r2⟩ := aPb nz hc hv
 exact ⟨g, h, s, t, hg, hh, by omega, by omega, hs, ht, r1, by rw [r2, hb', hd']⟩
theorem aeD (n : Int) {d : Nat} (hd : d ≠ 0) : ∃ g : Nat, ∃ t : Int, g = Nat.gcd n.natAbs d ∧ g ≠ 0 ∧ n = g * t ∧ (mkRat n d).num = t ∧ (mkRat n d).den = d / g := by
 obtain ⟨g, hg⟩ : ∃ g, g = Nat.gcd n.natAbs d := ⟨_, rfl⟩
 have g0 : 0 < g := by rw [hg]; exact wh _ zc
 obtain ⟨t, ht⟩ : (g : Int) ∣ n := xL.2 (hg ▸ xF _ _)
 refine ⟨g, t, hg, by omega, ht, ?_, ?_⟩
 ·rw [Rat.num_mkRat, if_neg hd, xy, ← hg, ht, Int.mul_ediv_cancel_left _ zc]
 ·rw [Rat.den_mkRat, if_neg hd, xy, ← hg]
theorem auC (n : Int) {d : Nat} (hd : d ≠ 0) : fl (mkRat n d) = n / d := by
 obtain ⟨g, t, hg, g0, hn, h1, h2⟩ := aeD n hd
 obtain ⟨d', hd'⟩ : g ∣ d := hg ▸ xA _ _
 have : d / g = d' := by rw [hd', yn _ zc]
 unfold fl
 rw [h1, h2, this, hn, hd', yx, Int.mul_ediv_mul_of_pos _ _ zc]
theorem aLm (q : Rat) (s : Nat) : apA q s = (q.num * (s * 2 : Nat) + q.den) / (q.den * 2 : Nat) := by
 unfold apA
 have h1 : (s : Rat) = mkRat s 1 := by
  have := Rat.mkRat_self (s : Rat)
  rw [Rat.num_natCast, Rat.den_natCast] at this
  exact this.symm
 have h2 : q * (s : Rat) + mkRat 1 2 = mkRat (q.num * (s * 2 : Nat) + q.den) (q.den * 2) := by
  conv => lhs; rw [h1, ← Rat.mkRat_self q]
  rw [yS, xC _ _ (by have := q.den_nz; omega) zc, xG, Int.one_mul]
  congr 1
  simp only [yx]
  grind
 rw [h2, auC _ (xT q.den_nz zc)]
theorem aPG (p q : Rat) : ax6 p q = (p.num * q.den + -(q.num * p.den)).sign := by
 unfold ax6
 simp only [Rat.lt_iff, Rat.eq_iff_mul_eq_mul]
 split
 ·rename_i h; exact (xo zc).symm
 ·split
  ·rename_i h; rw [h, Int.add_right_neg]; rfl
  ·exact (xJ zc).symm
theorem aQP (a b : List UInt8) : rdF (a, b, ()) = match rdW a, rdW b with
  | some n, some d => if h : 0 < d ∧ n.natAbs.Coprime d.natAbs then some ⟨n, d.natAbs, by omega, h.2⟩ else none
  | _, _ => none := by
 cases ha : rdW a with
 | none =>
  refine aAZ fun q hq he => ?_
  obtain ⟨h1, -⟩ := Prod.mk.inj he
  rw [← h1, ak6 hq.1] at ha
  cases ha
 | some n =>
  obtain ⟨fa, rfl⟩ := af0 ha
  cases hb : rdW b with
  | none =>
   refine aAZ fun q hq he => ?_
   obtain ⟨-, h1⟩ := Prod.mk.inj he
   obtain ⟨h1, -⟩ := Prod.mk.inj h1
   rw [← h1, ← ae0, ak6 hq.2] at hb
   cases hb
  | some d =>
   obtain ⟨fb, rfl⟩ := af0 hb
   simp only
   split
   ·rename_i h
    have e : (dec n, dec d, ()) = fx ⟨n, d.natAbs, by omega, h.2⟩ := by
     unfold fx
     rw [acP (z := d) zc]
    rw [e, agB ⟨fa, ?_⟩]
    unfold Fit at *
    simpa using fb
   ·rename_i h
    refine aAZ fun q hq he => h ?_
    obtain ⟨h1, h2⟩ := Prod.mk.inj he
    obtain ⟨h2, -⟩ := Prod.mk.inj h2
    have e1 := alQ h1
    have e2 : (q.den : Int) = d := alQ (by rw [ae0]; exact h2)
    rw [← e1, ← e2]
    exact ⟨by have := q.den_pos; omega, q.reduced⟩
abbrev BdT := Int × Int × Unit
def okB (lo hi : Int) : Prop := -1000000000000000000 ≤ lo ∧ lo ≤ hi ∧ hi ≤ 1000000000000000000
instance (lo hi : Int) : Decidable (okB lo hi) := inferInstanceAs (Decidable (_ ∧ _))
def mkB (e lo hi : Int) : BdT × Int × Unit := if okB lo hi then ((lo, hi, ()), 0, ()) else ((0, 0, ()), e, ())
def adQ (x : Int × Int × Unit) : Option (Bool × Unit) := some (decide (okB x.1 x.2.1), ())
def ah9 (x : Int × Int × Unit) : Option (BdT × Int × Unit) := some (mkB 6 x.1 x.2.1)
def aqJ (x : BdT × Unit) : Option (Int × Unit) := some (if okB x.1.1 x.1.2.1 then 0 else 30, ())
def aHw (x : Int × Int × Unit) : Option (BdT × Int × Unit) := some (mkB 30 x.1 x.2.1)
def axI (x : List Int × Unit) : Option (Int × Unit) := match x.1 with | [] => none | a :: l => if l.length ≤ 1000000000000 then some (l.foldl (fun m y => if y < m then y else m) a, ()) else none
def axJ (x : List Int × Unit) : Option (Int × Unit) := match x.1 with | [] => none | a :: l => if l.length ≤ 1000000000000 then some (l.foldl (fun m y => if y > m then y else m) a, ()) else none
def axO (x : List Int × Unit) : Option (Int × Unit) := axI x
def al8 (x : List Int × Unit) : Option (Int × Unit) := axJ x
def akV : Rat := (1000000000000 : Nat)
def af8 (p q : Rat) : BdT × Int × Unit := mkB 6 (fl (p * akV)) (-fl (-(q * akV)))
noncomputable def afY (x : FxT × Unit) : Option (BdT × Int × Unit) := some (match rdF x.1 with | some q => af8 q q | none => ((0, 0, ()), 20, ()))
def aMY (a b : BdT) : BdT × Int × Unit := if okB a.1 a.2.1 ∧ okB b.1 b.2.1 then mkB 6 (a.1 + b.1) (a.2.1 + b.2.1) else ((0, 0, ()), 30, ())
def aP8 (a b : BdT) : BdT × Int × Unit := if okB a.1 a.2.1 ∧ okB b.1 b.2.1 then ((min a.1 b.1, max a.2.1 b.2.1, ()), 0, ()) else ((0, 0, ()), 30, ())
def aAn (b : BdT) (lo hi : Int) : BdT × Int × Unit := if okB b.1 b.2.1 then (if okB lo hi then ((min (max b.1 lo) hi, min (max b.2.1 lo) hi, ()), 0, ()) else ((0, 0, ()), 2, ())) else ((0, 0, ()), 30, ())
def aGu (x : BdT × BdT × Unit) : Option (BdT × Int × Unit) := some (aMY x.1 x.2.1)
def aqI (x : BdT × BdT × Unit) : Option (BdT × Int × Unit) := some (aP8 x.1 x.2.1)
def ajN (x : BdT × Int × Int × Unit) : Option (BdT × Int × Unit) := some (aAn x.1 x.2.1 x.2.2.1)
noncomputable def ahI : Int × Unit → Option (List UInt8 × Unit) := adG (fun n : Nat => ((n : Int), ())) (fun n => n ≤ 1000) (fun n => (aa3 (10 ^ n), ()))
noncomputable def ap9 : List UInt8 × Int × Unit → Option (List UInt8 × Bool × Int × Unit) := adG (fun x : Nat × Nat => (aa3 x.1, (x.2 : Int), ())) (fun x => Fit x.1 ∧ 1 ≤ x.2 ∧ x.2 ≤ 12) (fun x => (aa3 (adM x.2 x.1), decide (adM x.2 x.1 ^ x.2 = x.1), 0, ()))
noncomputable def acG : List UInt8 × Bool × Unit → Option (Int × Int × Unit) := adG (fun x : Nat × Bool => (aa3 x.1, x.2, ())) (fun x => Fit x.1) (fun x => if x.1 > 1000000000000000000 then (0, 6, ()) else ((x.1 : Int) + (if x.2 then 1 else 0), 0, ()))
def okE (p q : Int) : Prop := 1 ≤ p ∧ p ≤ 36 ∧ 1 ≤ q ∧ q ≤ 12
instance (p q : Int) : Decidable (okE p q) := inferInstanceAs (Decidable (_ ∧ _))
def asG (x : (Int × Int × Unit) × Unit) : Option (Bool × Unit) := some (decide (okE x.1.1 x.1.2.1), ())
noncomputable def aBK (p q n : Nat) : Nat := adM q (n ^ p * 10 ^ (12 * q) / 10 ^ (12 * p))
noncomputable def ax8 (p q n : Nat) (up : Bool) : Int × Int × Unit :=
 if aBK p q n > 1000000000000000000 then (0, 6, ()) else ((aBK p q n : Int) + (if up = true ∧ aBK p q n ^ q * 10 ^ (12 * p) ≠ n ^ p * 10 ^ (12 * q) then 1 else 0), 0, ())
noncomputable def ap8 : ((Int × Int × Unit) × Unit) × Int × Bool × Unit → Option (Int × Int × Unit) := adG (fun x : (Nat × Nat) × Nat × Bool => ((((x.1.1 : Int), (x.1.2 : Int), ()), ()), (x.2.1 : Int), x.2.2, ())) (fun x => okE x.1.1 x.1.2 ∧ x.2.1 ≤ 1000000000000000000) (fun x => ax8 x.1.1 x.1.2 x.2.1 x.2.2)
noncomputable def aJP (b : BdT) (p q : Int) : BdT × Int × Unit :=
 if okB b.1 b.2.1 then
  if okE p q ∧ 0 ≤ b.1 then
   (if (ax8 p.toNat q.toNat b.1.toNat false).2.1 ≠ 0 then ((0, 0, ()), 6, ()) else if (ax8 p.toNat q.toNat b.2.1.toNat true).2.1 ≠ 0 then ((0, 0, ()), 6, ())
    else mkB 6 (ax8 p.toNat q.toNat b.1.toNat false).1 (ax8 p.toNat q.toNat b.2.1.toNat true).1)
  else ((0, 0, ()), 2, ())
 else ((0, 0, ()), 30, ())
noncomputable def axN (x : BdT × Int × Int × Unit) : Option (BdT × Int × Unit) := some (aJP x.1 x.2.1 x.2.2.1)
abbrev adS := Int × Int × Int × Int × Int × Int × Unit
abbrev CvT := Int × List Int × List adS × Unit
abbrev PcT := adS × Int × Bool × Unit
def inR (n a b : Int) : Prop := a ≤ n ∧ n ≤ b
instance (n a b : Int) : Decidable (inR n a b) := inferInstanceAs (Decidable (_ ∧ _))
def aeM (s : adS) : Prop := inR s.2.1 (-100000000) 100000000 ∧ inR s.2.2.1 (-100000000) 100000000 ∧ inR s.2.2.2.2.2.1 (-100000000) 100000000 ∧ inR s.2.2.2.1 1 36 ∧ inR s.2.2.2.2.1 1 12 ∧ Nat.gcd s.2.2.2.1.natAbs s.2.2.2.2.1.natAbs = 1
instance (s : adS) : Decidable (aeM s) := inferInstanceAs (Decidable (_ ∧ _))
def aiS (last : Int) (s : adS) : Prop := aeM s ∧ inR s.1 (last + 1) 1000000
instance (last : Int) (s : adS) : Decidable (aiS last s) := inferInstanceAs (Decidable (_ ∧ _))
def agA : Int → List adS → Prop
 | last, [] => last = 1000000
 | last, s :: r => aiS last s ∧ agA s.1 r
def aKk : (last : Int) → (l : List adS) → Decidable (agA last l)
 | last, [] => inferInstanceAs (Decidable (last = 1000000))
 | last, s :: r => @instDecidableAnd _ _ (inferInstanceAs (Decidable (aiS last s))) (aKk s.1 r)
instance (last : Int) (l : List adS) : Decidable (agA last l) := aKk last l
def adE (l : List Int) : Prop := 2 ≤ l.length ∧ l.length ≤ 17 ∧ ∀ v ∈ l, inR v 0 65535
instance (l : List Int) : Decidable (adE l) := inferInstanceAs (Decidable (_ ∧ _ ∧ _))
def ab6 (l : List adS) : Prop := 1 ≤ l.length ∧ l.length ≤ 4 ∧ agA 0 l
instance (l : List adS) : Decidable (ab6 l) := inferInstanceAs (Decidable (_ ∧ _ ∧ _))
def abF (c : CvT) : Prop := (c.1 = 1 ∧ c.2.1 = [] ∧ c.2.2.1 = []) ∨ (c.1 = 2 ∧ adE c.2.1 ∧ c.2.2.1 = []) ∨ (c.1 = 3 ∧ c.2.1 = [] ∧ ab6 c.2.2.1)
instance (c : CvT) : Decidable (abF c) := inferInstanceAs (Decidable (_ ∨ _ ∨ _))
noncomputable def eqb {α : Type} (a b : α) : Bool := open Classical in if a = b then true else false
theorem ahZ {α : Type} {a b : α} (h : a = b) : eqb a b = true := if_pos h
theorem abQ {α : Type} {a b : α} (h : ¬ a = b) : eqb a b = false := if_neg h
def acA (x : Int × Int × Int × Unit) : Option (Bool × Unit) := some (decide (inR x.1 x.2.1 x.2.2.1), ())
def abW (x : Int × Int × Unit) : Option (FxT × Unit) := if abD x.1 ∧ abD x.2.1 then some ((ofQ x.1 x.2.1).1, ()) else none
def aaF (x : Int × Unit) : Option (FxT × Unit) := if abD x.1 then some (fx (mkRat x.1 1), ()) else none
def aeN (q : Rat) : Rat := if q < 0 then 0 else if q > 1 then 1 else q
noncomputable def acY : FxT × Unit → Option (FxT × Unit) := adG (fun q : Rat => (fx q, ())) (fun q => aeI q) (fun q => (fx (aeN q), ()))
def aiO (x : List Int × Unit) : Option (Bool × Unit) := some (decide (adE x.1), ())
def afU (x : PcT × Unit) : Option (Bool × Unit) := if inR x.1.2.1 0 1000000 then some (decide (aiS x.1.2.1 x.1.1), ()) else none
def afX (x : CvT × Unit) : Option (Bool × Unit) := some (decide (ab6 x.1.2.2.1), ())
def ac8 (x : CvT × Unit) : Option (Int × Unit) := some (if abF x.1 then 0 else 90, ())
noncomputable def axL (x : List Int × List Int × Unit) : Option (Bool × Unit) := if x.1.length ≤ 1000000000000 then some (eqb x.1 x.2.1, ()) else none
noncomputable def axK (x : List adS × List adS × Unit) : Option (Bool × Unit) := if x.1.length ≤ 1000000000000 then some (eqb x.1 x.2.1, ()) else none
noncomputable def aqH (x : CvT × CvT × Unit) : Option (Bool × Unit) := if x.1.2.1.length ≤ 1000000000000 ∧ x.1.2.2.1.length ≤ 1000000000000 then some (eqb x.1 x.2.1, ()) else none
def aAe (c : CvT) : Prop := abF c ∧ ∀ s ∈ c.2.2.1, s.2.2.2.2.1 = 1
instance (c : CvT) : Decidable (aAe c) := inferInstanceAs (Decidable (_ ∧ _))
def al7 (x : CvT × Unit) : Option (Bool × Unit) := some (decide (aAe x.1), ())
def aKp (l : List Int) : Bool := (List.range (l.length - 1)).any (fun i => decide (l.getD (i + 1) 0 > l.getD i 0))
def aLU (l : List Int) : Bool := (List.range (l.length - 1)).any (fun i => decide (l.getD (i + 1) 0 < l.getD i 0))
def ay5 (c : CvT) : Int :=
 if c.1 = 3 then (if c.2.2.1.length > 1 then 0 else if (c.2.2.1.getD 0 (0, 0, 0, 0, 0, 0, ())).2.1 < 0 then -1 else 1)
 else if !aLU c.2.1 then 1 else if !aKp c.2.1 then -1 else 0
def agJ (x : CvT × Unit) : Option (Int × Int × Unit) := some (if abF x.1 then (ay5 x.1, 0, ()) else (0, 90, ()))
def dig (n : Nat) : List Int := atW 10000 n
theorem adY (n : Nat) : Dg 10000 (dig n) := aF5 (B := 10000) zc n
theorem aHm (n : Nat) : Cn (dig n) := aMh (B := 10000) zc n
theorem aiN (n : Nat) : V 10000 (dig n) = n := aEl (B := 10000) zc n
theorem awI {m n : Nat} (h : dig m = dig n) : m = n := aHl (B := 10000) zc h
theorem aBM {l : List Int} {n : Nat} (h1 : Dg 10000 l) (h2 : Cn l) (h3 : V 10000 l = n) : l = dig n := awH (B := 10000) zc h1 h2 h3
theorem dig_length_le_iff {n k : Nat} : (dig n).length ≤ k ↔ n < 10000 ^ k := by
 constructor
 ·intro h
  have h1 := avW (B := 10000) zc n
  exact yk h1 (yb zc h)
 ·intro h
  exact af3 zc h
theorem abZ {m n : Nat} (h : m ≤ n) : (dig m).length ≤ (dig n).length := by
 rw [dig_length_le_iff]
 exact Nat.lt_of_le_of_lt h (dig_length_le_iff.1 (zq _))
theorem dig_zero : dig 0 = [] := ac4 _
theorem dig_nil_iff {n : Nat} : dig n = [] ↔ n = 0 := by
 constructor
 ·intro h
  exact awI (h.trans dig_zero.symm)
 ·rintro rfl; exact dig_zero
theorem aMi {d : Nat} (h0 : d ≠ 0) (h1 : d < 10000) : dig d = [(d : Int)] := aAj zc h0 h1
theorem anF {m n : Nat} (h : (dig m).length < (dig n).length) : m < n := by
 rcases zr m n with h2 | h2
 ·exact h2
 ·have := abZ h2; omega
theorem aAl {n k : Nat} (h : (mag n).length ≤ k) : (dig n).length ≤ 3 * k := by
 rw [mag_length_le_iff] at h
 rw [dig_length_le_iff, xI]
 exact yk h (xj zc _)
theorem aEe {k n : Nat} (h : Bd k n) (hk : k ≤ 8) : (dig n).length ≤ 200000000000 := by
 have h1 : Bd 8 n := aaI h hk
 have h2 := aAl (k := 1000000 * 4 ^ 8) h1
 omega
@[reducible] def pl (z : Int) : Bool × List Int × Unit := (decide (z < 0), dig z.natAbs, ())
theorem avF {a b : Int} (h : pl a = pl b) : a = b := by
 obtain ⟨h1, h2⟩ := Prod.mk.inj h
 obtain ⟨h2, -⟩ := Prod.mk.inj h2
 have := awI h2
 simp only [decide_eq_decide] at h1
 omega
abbrev PlT := Bool × List Int × Unit
abbrev RaT := PlT × PlT × Unit
@[reducible] def ra (q : Rat) : RaT := (pl q.num, pl q.den, ())
theorem aQQ {a b : Rat} (h : ra a = ra b) : a = b := by
 obtain ⟨h1, h2⟩ := Prod.mk.inj h
 obtain ⟨h2, -⟩ := Prod.mk.inj h2
 have := avF h2
 exact Rat.ext (avF h1) zc
def aNp (a b : List Int) : Nat → Int
 | 0 => 0
 | k + 1 => if a.getD k 0 ≠ b.getD k 0 then a.getD k 0 - b.getD k 0 else aNp a b k
def aPc (a b : List Int) : Int := if a.length ≠ b.length then (a.length : Int) - b.length else aNp a b a.length
open Classical in
noncomputable def acJ (x : List Int × Unit) : Option (List Int × Unit) := if Dg 10000 x.1 ∧ x.1.length ≤ 1000000000000 then some (dig (V 10000 x.1).toNat, ()) else none
open Classical in
noncomputable def ab1 (x : Bool × List Int × Unit) : Option (PlT × Unit) := if Dg 10000 x.2.1 ∧ x.2.1.length ≤ 1000000000000 then some ((x.1 && decide (V 10000 x.2.1 ≠ 0), dig (V 10000 x.2.1).toNat, ()), ()) else none
noncomputable def acC (x : Int × Unit) : Option (PlT × Unit) := if abD x.1 then some (pl x.1, ()) else none
def ayO (n : Nat) : List UInt8 := [UInt8.ofNat (48 + n / 1000), UInt8.ofNat (48 + n / 100 % 10), UInt8.ofNat (48 + n / 10 % 10), UInt8.ofNat (48 + n % 10)]
noncomputable def ap5 : Int × Unit → Option (List UInt8 × Unit) := adG (fun n : Nat => ((n : Int), ())) (fun n => n < 10000) (fun n => (ayO n, ()))
noncomputable def ap6 : PlT × Unit → Option (List UInt8 × Unit) := adG (fun z : Int => (pl z, ())) (fun z => Bd 6 z.natAbs) (fun z => (dec z, ()))
noncomputable def ap7 : PlT × Unit → Option (List UInt8 × Int × Unit) := adG (fun z : Int => (pl z, ())) (fun z => Bd 6 z.natAbs) (fun z => wrW z)
noncomputable def afQ (x : List Int × List Int × Unit) : Option (Int × Unit) := open Classical in if Dg 10000 x.1 ∧ Dg 10000 x.2.1 ∧ x.1.length ≤ 1000000000000 ∧ x.2.1.length ≤ 1000000000000 then some (aPc x.1 x.2.1, ()) else none
noncomputable def auH : List Int × List Int × Unit → Option (List Int × Unit) := adG (fun p : Nat × Nat => (dig p.1, dig p.2, ())) (fun p => (dig p.1).length ≤ 1000000000000 ∧ (dig p.2).length ≤ 1000000000000) (fun p => (dig (p.1 + p.2), ()))
open Classical in
noncomputable def aa9 (x : List Int × List Int × Unit) : Option (List Int × Unit) := if Dg 10000 x.1 ∧ Dg 10000 x.2.1 ∧ x.1.length ≤ 1000000000000 ∧ x.2.1.length ≤ x.1.length ∧ V 10000 x.2.1 ≤ V 10000 x.1 then some (dig (V 10000 x.1 - V 10000 x.2.1).toNat, ()) else none
open Classical in
noncomputable def acB (x : List Int × List Int × Unit) : Option (List Int × Unit) := if Dg 10000 x.1 ∧ (Dg 10000 x.2.1 ∨ x.2.1 = [10000]) ∧ x.1.length ≤ 400000000000 ∧ x.2.1.length ≤ 400000000000 then some (dig (V 10000 x.1 * V 10000 x.2.1).toNat, ()) else none
noncomputable def ap4 : List Int × Int × Unit → Option (List Int × Int × Unit) := adG (fun p : Nat × Nat => (dig p.1, (p.2 : Int), ())) (fun p => (dig p.1).length ≤ 1000000000000 ∧ 0 < p.2 ∧ p.2 < 10000) (fun p => (dig (p.1 / p.2), ((p.1 % p.2 : Nat) : Int), ()))
noncomputable def ajD : List Int × List Int × Unit → Option (List Int × List Int × Unit) := adG (fun p : Nat × Nat => (dig p.1, dig p.2, ())) (fun p => (dig p.1).length ≤ 200000000000 ∧ (dig p.2).length ≤ 200000000000 ∧ p.2 ≠ 0) (fun p => (dig (p.1 / p.2), dig (p.1 % p.2), ()))
noncomputable def ajE : PlT × Unit → Option (PlT × Unit) := adG (fun z : Int => (pl z, ())) (fun z => Bd 8 z.natAbs) (fun z => (pl (-z), ()))
noncomputable def ahH : PlT × PlT × Unit → Option (PlT × Unit) := adG (fun p : Int × Int => (pl p.1, pl p.2, ())) (fun p => Bd 7 p.1.natAbs ∧ Bd 7 p.2.natAbs) (fun p => (pl (p.1 + p.2), ()))
noncomputable def amX : PlT × PlT × Unit → Option (PlT × Unit) := adG (fun p : Int × Int => (pl p.1, pl p.2, ())) (fun p => Bd 7 p.1.natAbs ∧ Bd 7 p.2.natAbs) (fun p => (pl (p.1 - p.2), ()))
noncomputable def afR : PlT × PlT × Unit → Option (PlT × PlT × Unit) := adG (fun p : Int × Int => (pl p.1, pl p.2, ())) (fun p => Bd 6 p.1.natAbs ∧ Bd 6 p.2.natAbs ∧ p.2 ≠ 0) (fun p => (pl (p.1 / p.2), pl (p.1 % p.2), ()))
noncomputable def agI : PlT × PlT × Unit → Option (PlT × Unit) := adG (fun p : Int × Int => (pl p.1, pl p.2, ())) (fun p => Bd 8 p.1.natAbs ∧ Bd 8 p.2.natAbs) (fun p => (pl (Nat.gcd p.1.natAbs p.2.natAbs), ()))
def shF (x : FxT) : Prop := x.1.length ≤ 1000000000000 ∧ x.2.1.length ≤ 1000000000000
instance (x : FxT) : Decidable (shF x) := inferInstanceAs (Decidable (_ ∧ _))
noncomputable def akL : PlT × PlT × Unit → Option (RaT × Unit) := adG (fun x : Int × Int => (pl x.1, pl x.2, ())) (fun x => Bd 6 x.1.natAbs ∧ Bd 6 x.2.natAbs ∧ x.2 ≠ 0) (fun x => (ra (Rat.divInt x.1 x.2), ()))
noncomputable def amW : Int × Int × Unit → Option (RaT × Unit) := adG (fun x : Int × Int => (x.1, x.2, ())) (fun x => abD x.1 ∧ abD x.2 ∧ x.2 ≠ 0) (fun x => (ra (Rat.divInt x.1 x.2), ()))
noncomputable def auG : RaT × Unit → Option (FxT × Int × Unit) := adG (fun x : Rat => (ra x, ())) (fun x => BdQ 6 x) (fun x => wrF x)
noncomputable def axM (x : Int × Int × Unit) : Option (FxT × Int × Unit) := al6 x
def shC (c : CvT) : Prop := c.2.1.length ≤ 1000000000000 ∧ c.2.2.1.length ≤ 1000000000000
instance (c : CvT) : Decidable (shC c) := inferInstanceAs (Decidable (_ ∧ _))
def ab0 (x : Int × Int × Int × Unit) : Option (Bool × Unit) := acA x
def abB (x : Int × Int × Unit) : Option (Bool × Unit) := if inR x.1 1 36 ∧ inR x.2.1 1 12 then some (!decide (Nat.gcd x.1.natAbs x.2.1.natAbs = 1), ()) else none
def ah4 (x : adS × Unit) : Option (Bool × Unit) := some (decide (aeM x.1), ())
def aeP (x : CvT × Unit) : Option (Bool × Unit) := if shC x.1 then some (decide (abF x.1), ()) else none
def ajC (x : CvT × Unit) : Option (Int × Unit) := if shC x.1 then ac8 x else none
noncomputable def al3 (x : CvT × CvT × Unit) : Option (Bool × Unit) := if shC x.1 then some (eqb x.1 x.2.1, ()) else none
def ajA (x : CvT × Unit) : Option (Bool × Unit) := if shC x.1 then al7 x else none
def ai9 (x : CvT × Unit) : Option (Int × Int × Unit) := if shC x.1 then agJ x else none
def aQx (x : Int × Int × Unit) : Option (FxT × Unit) := abW x
def aqT (b : BdT) : BdT := (min (max b.1 0) 1000000000000, min (max b.2.1 0) 1000000000000, ())
def arO (a b : BdT) : BdT := (min a.1 b.1, max a.2.1 b.2.1, ())
noncomputable def acV (q : Rat) : Option Rat := if aeI q then some q else none
def ax5 : Option Rat → FxT × Int × Unit
 | some q => (fx q, 0, ())
 | none => (([], [], ()), 6, ())
noncomputable def aBi (m a : Int) (x : Rat) : Option Rat := (acV (mkRat m 1 * x)).bind fun u => (acV (u + mkRat a 1)).bind fun v => acV (v / mkRat 1000000 1)
noncomputable def aeW (u : Rat) : Nat → Rat → Option Rat
 | 0, y => some y
 | n + 1, y => (acV (y * u)).bind (aeW u n)
def aJQ (u : Rat) : Rat := if u < 0 then 0 else u
noncomputable def aIS (s : adS) (x : Rat) : Option Rat := (aBi s.2.1 s.2.2.1 x).bind fun u => (aeW (aJQ u) (s.2.2.2.1 - 1).toNat (aJQ u)).bind fun y => (acV (y + mkRat s.2.2.2.2.2.1 1000000)).map aeN
def afI (x : Rat) (l : List adS) : Nat := l.findIdx (fun s => decide (x ≤ mkRat s.1 1000000))
noncomputable def ayP (l : List adS) (x : Rat) : FxT × Int × Unit := if (l.getD (afI x l) (0, 0, 0, 0, 0, 0, ())).2.2.2.2.1 = 1 then ax5 (aIS (l.getD (afI x l) (0, 0, 0, 0, 0, 0, ())) x) else (([], [], ()), 5, ())
noncomputable def aiV (l : List Int) (p : Rat) : Nat := min p.floor.toNat (l.length - 2)
noncomputable def aNA (l : List Int) (x : Rat) : Option Rat := (acV (x * mkRat ((l.length - 1 : Nat) : Int) 1)).bind fun p =>
 (acV (p - mkRat (aiV l p : Int) 1)).bind fun r => (acV (r * mkRat (l.getD (aiV l p + 1) 0 - l.getD (aiV l p) 0) 1)).bind fun t =>
 (acV (mkRat (l.getD (aiV l p) 0) 1 + t)).bind fun y => acV (y / mkRat 65535 1)
noncomputable def aDS (c : CvT) (x : Rat) : FxT × Int × Unit := if c.1 = 1 then (fx x, 0, ()) else if c.1 = 2 then ax5 (aNA c.2.1 x) else ayP c.2.2.1 x
noncomputable def ajM : PcT × FxT × Unit → Option (FxT × Int × Unit) := adG (fun p : PcT × Rat => (p.1, fx p.2, ())) (fun p => aeI p.2 ∧ aeM p.1.1) (fun p => ax5 (aBi p.1.1.2.1 p.1.1.2.2.1 p.2))
noncomputable def agU : (CvT × Unit) × FxT × Unit → Option (FxT × Int × Unit) := adG (fun p : CvT × Rat => ((p.1, ()), fx p.2, ())) (fun p => aeI p.2) (fun p => (fx p.2, 0, ()))
noncomputable def afV : (CvT × Unit) × FxT × Unit → Option (FxT × Int × Unit) := adG (fun p : CvT × Rat => ((p.1, ()), fx p.2, ())) (fun p => aeI p.2 ∧ 0 ≤ p.2 ∧ p.2 ≤ 1 ∧ adE p.1.2.1) (fun p => ax5 (aNA p.1.2.1 p.2))
noncomputable def ah7 : (CvT × Unit) × FxT × Unit → Option (FxT × Int × Unit) := adG (fun p : CvT × Rat => ((p.1, ()), fx p.2, ())) (fun p => aeI p.2 ∧ p.2 ≤ 1 ∧ ab6 p.1.2.2.1) (fun p => ayP p.1.2.2.1 p.2)
noncomputable def acZ (x : CvT × FxT × Unit) : Option (FxT × Int × Unit) := some (if abF x.1 then (match rdF x.2.1 with | some q => aDS x.1 (aeN q) | none => (([], [], ()), 20, ())) else (([], [], ()), 90, ()))
def ayL : List BdT → BdT
 | [] => (0, 0, ())
 | b :: l => l.foldl arO b
def okL (l : List BdT) : Prop := l ≠ [] ∧ l.length ≤ 1000000 ∧ ∀ b ∈ l, okB b.1 b.2.1
instance (l : List BdT) : Decidable (okL l) := inferInstanceAs (Decidable (_ ∧ _ ∧ _))
def ah8 (x : List BdT × Unit) : Option (BdT × Int × Unit) := if okL x.1 then some (ayL x.1, 0, ()) else none
noncomputable def aeR : List FxT × Unit → Option (BdT × Int × Unit) := adG (fun l : List Rat => (l.map (fun q => fx q), ())) (fun l => l ≠ [] ∧ l.length ≤ 1000000 ∧ ∀ q ∈ l, aeI q ∧ (af8 q q).2.1 = 0) (fun l => (ayL (l.map fun q => (af8 q q).1), 0, ()))
def aeX (m a n : Int) : Int := m * n + a * 1000000000000
def ayD (s : adS) (lo hi : Int) : BdT :=
 (max (min (aeX s.2.1 s.2.2.1 lo / 1000000) (aeX s.2.1 s.2.2.1 hi / 1000000)) 0, max (max (-(-aeX s.2.1 s.2.2.1 lo / 1000000)) (-(-aeX s.2.1 s.2.2.1 hi / 1000000))) 0, ())
noncomputable def ayE (s : adS) (lo hi : Int) : BdT × Int × Unit :=
 if (aJP (ayD s lo hi) s.2.2.2.1 s.2.2.2.2.1).2.1 ≠ 0 then ((0, 0, ()), (aJP (ayD s lo hi) s.2.2.2.1 s.2.2.2.2.1).2.1, ())
 else if (aMY (aJP (ayD s lo hi) s.2.2.2.1 s.2.2.2.2.1).1 (s.2.2.2.2.2.1 * 1000000, s.2.2.2.2.2.1 * 1000000, ())).2.1 ≠ 0 then ((0, 0, ()), (aMY (aJP (ayD s lo hi) s.2.2.2.1 s.2.2.2.2.1).1 (s.2.2.2.2.2.1 * 1000000, s.2.2.2.2.2.1 * 1000000, ())).2.1, ())
 else (aqT (aMY (aJP (ayD s lo hi) s.2.2.2.1 s.2.2.2.2.1).1 (s.2.2.2.2.2.1 * 1000000, s.2.2.2.2.2.1 * 1000000, ())).1, 0, ())
def inU (n : Int) : Prop := inR n 0 1000000000000
instance (n : Int) : Decidable (inU n) := inferInstanceAs (Decidable (_ ∧ _))
noncomputable def adP (x : PcT × Int × Int × Unit) : Option (BdT × Int × Unit) := if aeM x.1.1 ∧ inU x.2.1 ∧ inU x.2.2.1 then some (ayE x.1.1 x.2.1 x.2.2.1) else none
def afW (x : (CvT × Unit) × BdT × Unit) : Option (BdT × Int × Unit) := some (x.2.1, 0, ())
def ab7 (l : List adS) (k : Nat) : Int := if k = 0 then 0 else (l.getD (k - 1) (0, 0, 0, 0, 0, 0, ())).1
def aa7 (n : Int) (l : List adS) : Nat := l.findIdx (fun s => decide (n ≤ s.1 * 1000000))
noncomputable def aCm (l : List adS) (lo hi : Int) (k : Nat) : BdT × Int × Unit := ayE (l.getD k (0, 0, 0, 0, 0, 0, ())) (max lo (ab7 l k * 1000000)) (min hi ((l.getD k (0, 0, 0, 0, 0, 0, ())).1 * 1000000))
noncomputable def ar9 (l : List adS) (lo hi : Int) : Nat → Nat → List BdT → BdT × Int × Unit
 | 0, _, acc => (ayL acc, 0, ())
 | n + 1, k, acc => if (aCm l lo hi k).2.1 ≠ 0 then ((0, 0, ()), (aCm l lo hi k).2.1, ()) else ar9 l lo hi n (k + 1) (acc ++ [(aCm l lo hi k).1])
noncomputable def atI (l : List adS) (lo hi : Int) : BdT × Int × Unit := ar9 l lo hi (aa7 hi l + 1 - aa7 lo l) (aa7 lo l) []
noncomputable def ac7 (x : (CvT × Unit) × BdT × Unit) : Option (BdT × Int × Unit) := if ab6 x.1.1.2.2.1 ∧ inU x.2.1.1 ∧ inU x.2.1.2.1 ∧ x.2.1.1 ≤ x.2.1.2.1 then some (atI x.1.1.2.2.1 x.2.1.1 x.2.1.2.1) else none
def aCZ (l : List Int) (n : Int) : Nat := min (n * ((l.length - 1 : Nat) : Int) / 1000000000000).toNat (l.length - 2)
def aqP (l : List Int) (n : Int) : Int := l.getD (aCZ l n) 0 * 1000000000000 + (n * ((l.length - 1 : Nat) : Int) - (aCZ l n : Int) * 1000000000000) * (l.getD (aCZ l n + 1) 0 - l.getD (aCZ l n) 0)
def aQG (m : Int) : BdT := (m / 65535, -(-m / 65535), ())
def aFG (l : List Int) (lo hi : Int) (k : Nat) : Bool := decide (inR ((k : Int) * 1000000000000) (lo * ((l.length - 1 : Nat) : Int)) (hi * ((l.length - 1 : Nat) : Int)))
def aPt (l : List Int) (lo hi : Int) (k : Nat) : List BdT := aQG (aqP l lo) :: aQG (aqP l hi) :: ((List.range k).filter (aFG l lo hi)).map (fun j => aQG (l.getD j 0 * 1000000000000))
def apX (l : List Int) (lo hi : Int) : BdT := ayL (aPt l lo hi l.length)
def ad9 (x : (CvT × Unit) × BdT × Unit) : Option (BdT × Int × Unit) := if adE x.1.1.2.1 ∧ inU x.2.1.1 ∧ inU x.2.1.2.1 ∧ x.2.1.1 ≤ x.2.1.2.1 then some (apX x.1.1.2.1 x.2.1.1 x.2.1.2.1, 0, ()) else none
noncomputable def aHs (c : CvT) (b : BdT) : BdT × Int × Unit := if c.1 = 1 then (b, 0, ()) else if c.1 = 2 then (apX c.2.1 b.1 b.2.1, 0, ()) else atI c.2.2.1 b.1 b.2.1
noncomputable def agK (x : CvT × BdT × Unit) : Option (BdT × Int × Unit) := some (if abF x.1 then (if okB x.2.1.1 x.2.1.2.1 then aHs x.1 (aqT x.2.1) else ((0, 0, ()), 30, ())) else ((0, 0, ()), 90, ()))
def aqV : CvT := (2, [0, 65535, 0], [], ())
def stepsC : CvT := (3, [], [(500000, 1000000, 0, 1, 1, 0, ()), (1000000, 2000000, -1000000, 2, 1, 500000, ())], ())
def rootC : CvT := (3, [], [(1000000, 1000000, 0, 1, 2, 0, ())], ())
def adA (x : Int × Int × Unit) : Option (FxT × Unit) := abW x
def ajF (_ : Unit) : Option (CvT × Unit) := some (aqV, ())
def amZ (_ : Unit) : Option (CvT × Unit) := some (stepsC, ())
def aqA (_ : Unit) : Option (CvT × Unit) := some (rootC, ())
noncomputable def adX (x : CvT × FxT × FxT × Unit) : Option (Bool × Unit) := (acZ (x.1, x.2.1, ())).map (fun r => (eqb r (x.2.2.1, 0, ()), ()))
def akM (x : CvT × Unit) : Option (CvT × Unit) := some ((x.1.1, x.1.2.1.take 20, x.1.2.2.1.take 8, ()), ())
def asH (_ : Unit) : Option (Bool × Unit) := some (true, ())
end Go.Vs
namespace Go.Vg
open Go
def opn (P : Program) : Nat → TypeId → Ty → Bool
 | 0, _, _ => false
 | n + 1, t, u => Nat.beq (P.cellsOf t) u.size && (match P.underlying t, u with
  | some (.int k), .int k' => decide (k = k')
  | some .bool, .bool => true
  | some .string, .str => true
  | some (.slice e), .sl v => opn P n e v && Nat.ble 1 v.size && Nat.ble 1 (P.bytesOf e)
  | some (.array m e), .arr m' v => Nat.beq m m' && opn P n e v
  | some (.struct fs), u => opFs (opn P n) fs.toList 0 u
  | _, _ => false)
where opFs (f : TypeId → Ty → Bool) : List Field → Nat → Ty → Bool
 | [], _, u => match u with | .unit => true | _ => false
 | x :: r, off, u => match u with
  | .pair t v => Nat.beq x.offset off && f x.type t && opFs f r (off + t.size) v
  | _ => false
theorem aKy {α : Type} {R : α → List Value → Prop} {n : Nat} : ∀ (len : Nat) (cs : List Value), cs.length = len * n → (∀ i, i < len → ∃ x, R x ((cs.drop (i * n)).take n)) → ∃ xs, xs.length = len ∧ RdL R xs cs
 | 0, cs, hl, _ => ⟨[], rfl, by rw [vw] at hl; exact yC hl⟩
 | len + 1, cs, hl, h => by
  obtain ⟨x, hx⟩ := h 0 (Nat.succ_pos _)
  rw [vw, yM] at hx
  have hl' : (cs.drop n).length = len * n := by rw [yy, hl, yh]; omega
  obtain ⟨xs, h1, h2⟩ := aKy len (cs.drop n) hl' (fun i hi => by
   have := h (i + 1) (Nat.succ_lt_succ hi)
   rw [ya]
   rwa [yh, xd] at this)
  exact ⟨x :: xs, by rw [zG, h1], cs.take n, cs.drop n, (xq n cs).symm, hx, h2⟩
section
variable {H : Type} {enc : TypeId × Value → H} {P : Program} {w : World} {spare : Nat → Bool} {held : Bool}
abbrev am7 (l : List Nat) : Prop := l.all (· ≤ reachBytes) = true
theorem alI {a b : List Nat} (h : am7 (a ++ b)) : am7 a ∧ am7 b := by
 simp only [am7, List.all_append, zx] at h
 exact h
theorem avX {e : TypeId} : ∀ {ds : List (DataW H)}, am7 (DataW.weightsAll P e ds) → ∀ d ∈ ds, am7 (d.weights P e)
 | [], _, _, h => by cases h
 | d :: r, h, x, hx => by
  rw [DataW.weightsAll] at h
  obtain ⟨h1, h2⟩ := alI h
  rcases zy.1 hx with rfl | hx
  ·exact h1
  ·exact avX h2 x hx
theorem az1 : ∀ {ts : List TypeId} {ds : List (DataW H)}, am7 (DataW.weightsEach P ts ds) → ∀ (i : Nat) t d, ts[i]? = some t → ds[i]? = some d → am7 (d.weights P t)
 | [], _, _, i, t, d, h, _ => by simp at h
 | _ :: _, [], _, i, t, d, _, h => by simp at h
 | t :: ts, d :: ds, h, i, t', d', h1, h2 => by
  rw [DataW.weightsEach] at h
  obtain ⟨h3, h4⟩ := alI h
  cases i with
  | zero => simp at h1 h2; subst h1; subst h2; exact h3
  | succ i => exact az1 h4 i t' d' (by simpa using h1) (by simpa using h2)
theorem amT {a : Addr} {n : Nat} {l : List Value} (h : w.cells? 0 a n = some l) : l.length = n ∧ ∀ i (hi : i < n), w.cell? (a.add i) = l[i]? := by
 unfold World.cells? at h
 rw [if_pos (ye _)] at h
 refine ⟨by simpa using mapM_some_length h, fun i hi => ?_⟩
 have := mapM_some_get h i i (by simp [hi])
 exact this
theorem aJf {a : Addr} {v : Value} (h : w.cell? a = some v) : ∃ c e fr, w.heap[a.block]? = some (.cells c e fr) ∧ a.spot = none ∧ c[a.off]? = some v := by
 unfold World.cell? at h
 split at h
 ·rename_i c e fr hc
  split at h
  ·cases h
  ·rename_i hs
   exact ⟨c, e, fr, hc, by simpa using hs, h⟩
 ·cases h
theorem aCE : reachBytes ≤ lim := zf
theorem aKP {n : Nat} {f : TypeId → Ty → Bool} {cs : List Value} (hf : ∀ t u cs d ps, f t u = true → DataW.trod enc P w 0 spare held n t cs = some (d, ps) → am7 (d.weights P t) → ∃ x, Rd (· < w.heap.size) w u x cs)
  (hsz : ∀ t u, f t u = true → P.cellsOf t = u.size) :
  ∀ (fs : List Field) (off : Nat) (u : Ty) (xs : List (DataW H × List MemPlace)), opn.opFs f fs off u = true → cs.length = off + u.size → xs.length = fs.length →
   (∀ (i : Nat) (g : Field), fs[i]? = some g → DataW.trod enc P w 0 spare held n g.type ((cs.drop g.offset).take (P.cellsOf g.type)) = xs[i]?) →
   (∀ (i : Nat) (g : Field) y, fs[i]? = some g → xs[i]? = some y → am7 (y.1.weights P g.type)) → ∃ x, Rd (· < w.heap.size) w u x (cs.drop off)
 | [], off, u, xs, h, hl, _, _, _ => by
  cases u <;> first | (cases h; done) | skip
  exact ⟨(), by
   have : cs.length = off := by simpa [Ty.size] using hl
   show cs.drop off = []
   exact List.drop_eq_nil_of_le zc⟩
 | g :: r, off, u, xs, h, hl, hx, ht, hw => by
  cases u <;> first | (cases h; done) | skip
  rename_i t v
  simp only [opn.opFs, zx] at h
  obtain ⟨⟨h1, h2⟩, h3⟩ := h
  have h1 := Nat.eq_of_beq_eq_true h1
  subst h1
  have hs := hsz _ _ h2
  cases xs with
  | nil => simp at hx
  | cons y ys =>
   have h4 := ht 0 g rfl
   rw [hs] at h4
   obtain ⟨a, ha⟩ := hf _ _ _ y.1 y.2 h2 h4 (hw 0 g y rfl rfl)
   obtain ⟨b, hb⟩ := aKP hf hsz r (g.offset + t.size) v ys h3 (by rw [hl]; simp only [Ty.size]; omega) (by simpa using hx) (fun i k hk => by have := ht (i + 1) k (by simpa using hk); simpa using this) (fun i k z hk hz => hw (i + 1) k z (by simpa using hk) (by simpa using hz))
   refine ⟨(a, b), _, _, (xq t.size (cs.drop g.offset)).symm, ha, ?_⟩
   rw [ya]
   exact hb
theorem at5 {n : Nat} {t : TypeId} {u : Ty} (h : opn P n t u = true) : P.cellsOf t = u.size := by
 cases n with
 | zero => cases h
 | succ n =>
  simp only [opn, zx] at h
  exact Nat.eq_of_beq_eq_true h.1
theorem aoZ : ∀ (n : Nat) (t : TypeId) (u : Ty) (fuel : Nat) (cs : List Value) (d : DataW H) (ps : List MemPlace), opn P n t u = true → DataW.trod enc P w 0 spare held fuel t cs = some (d, ps) → am7 (d.weights P t) →
  ∃ x, Rd (· < w.heap.size) w u x cs
 | 0, _, _, _, _, _, _, h, _, _ => by cases h
 | n + 1, t, u, fuel, cs, d, ps, h, hd, hw => by
  have hsz := at5 h
  simp only [opn, zx] at h
  obtain ⟨-, h⟩ := h
  split at h
  ·rename_i k k' hu
   have := of_decide_eq_true h
   subst this
   obtain ⟨m, rfl, _, hwf⟩ := DataW.trod_int hu hd
   refine ⟨m, rfl, ?_⟩
   simpa [Lit.wf] using hwf
  ·rename_i hu
   obtain ⟨b, rfl, _⟩ := DataW.trod_bool hu hd
   exact ⟨b, rfl⟩
  ·rename_i hu
   obtain ⟨s, rfl, hx, _⟩ := DataW.trod_string hu hd
   injection hx with hx _
   subst hx
   have : s.data.toList.length ≤ reachBytes := by simpa [am7, DataW.weights] using hw
   exact ⟨s.data.toList, rfl, zz this aCE⟩
  ·rename_i e v hu
   simp only [zx] at h
   obtain ⟨⟨h1, h2⟩, h3⟩ := h
   have h2 := Nat.le_of_ble_eq_true h2
   have h3 := Nat.le_of_ble_eq_true h3
   have hse := at5 h1
   rcases DataW.trod_slice hu hd with ⟨rfl, hx⟩ | ⟨a, len, cap, elems, rest, m, rfl, rfl, hx, _, hlc, _, hle, hel, _, _⟩
   ·exact ⟨[], none, 0, rfl, zq _, ye _, Or.inl rfl⟩
   ·injection hx with hx _
    subst hx
    simp only [DataW.weights, hu, am7, List.all_cons, zx, yp, List.all_append] at hw
    obtain ⟨hw1, hw2, _⟩ := hw
    have hlim : len ≤ lim := by
     have : len * 1 ≤ (List.map (·.1) elems).length * P.bytesOf e := Nat.mul_le_mul (by simp [hle]) h3
     have h4 : (List.map (·.1) elems).length * P.bytesOf e ≤ ((List.map (·.1) elems).length + (List.map (·.1) rest).length) * P.bytesOf e := zT _ (xf _ _)
     exact zz zc (zz hw1 aCE)
    rcases zF len with h0 | h0
    ·subst h0
     exact ⟨[], some a, cap, rfl, hlc, ye _, Or.inl rfl⟩
    ·-- the cells of an element
     have key : ∀ i, i < len → ∃ l y, w.cells? 0 (a.add (i * v.size)) v.size = some l ∧ DataW.trod enc P w 0 spare held m e l = some y ∧ elems[i]? = some y := by
      intro i hi
      have := hel i hi
      rw [zR zc, hse] at this
      obtain ⟨l, hl1, hl2⟩ := Option.bind_eq_some_iff.1 this
      exact ⟨l, _, hl1, hl2, by rw [zR zc]⟩
     obtain ⟨l0, y0, hl0, -, -⟩ := key 0 h0
     obtain ⟨hn0, hc0⟩ := amT hl0
     have hc00 := hc0 0 h2
     rw [zR zc] at hc00
     obtain ⟨c, et, fr, hb, hsp, _⟩ := aJf hc00
     have e0 : a.add (0 * v.size) = a := by simp [Addr.add]
     rw [e0] at hb hsp
     have e00 : a.add 0 = a := by simp [Addr.add]
     rw [e00] at hb hsp
     obtain ⟨b, o, sp⟩ := a
     dsimp only at hb hsp
     subst hsp
     -- each cell
     have cell : ∀ i, i < len → ∀ j, j < v.size → ∀ l, w.cells? 0 (Addr.add ⟨b, o, none⟩ (i * v.size)) v.size = some l → c[o + i * v.size + j]? = l[j]? := by
      intro i hi j hj l hl
      obtain ⟨q1, q2⟩ := amT hl
      have := q2 j hj
      rw [← this]
      have ea : ((Addr.add ⟨b, o, none⟩ (i * v.size)).add j) = ⟨b, o + i * v.size + j, none⟩ := by
       unfold Addr.add
       by_cases c1 : i * v.size = 0 <;> by_cases c2 : j = 0 <;> simp [c1, c2]
      rw [ea]
      unfold World.cell?
      dsimp only
      rw [hb]
      rfl
     have part : ∀ i, i < len → ∀ l, w.cells? 0 (Addr.add ⟨b, o, none⟩ (i * v.size)) v.size = some l → (c.toList.drop (o + i * v.size)).take v.size = l := by
      intro i hi l hl
      obtain ⟨q1, q2⟩ := amT hl
      apply List.ext_getElem?
      intro j
      rcases zr j v.size with hj | hj
      ·rw [List.getElem?_take_of_lt hj, xe, ← cell i hi j hj l hl]
       simp
      ·rw [xP (by rw [zK]; omega), xP zc]
     have hlen : o + len * v.size ≤ c.size := by
      obtain ⟨l, y, hl, -, -⟩ := key (len - 1) zc
      obtain ⟨q1, q2⟩ := amT hl
      have := cell (len - 1) zc (v.size - 1) zc l hl
      rw [zR zc] at this
      have hlt := (xn.1 this).1
      have e1 : len * v.size = (len - 1) * v.size + v.size := by
       conv => lhs; rw [show len = (len - 1) + 1 by omega]
       rw [yh]
      omega
     obtain ⟨xs, hx1, hx2⟩ := aKy (R := Rd (· < w.heap.size) w v) (n := v.size) len ((c.toList.drop o).take (len * v.size)) (by rw [zK, yy]; simp; omega) (fun i hi => by
      obtain ⟨l, y, hl, hl2, hy⟩ := key i hi
      have hm : y.1 ∈ elems.map (·.1) := zM.2 ⟨y, List.mem_of_getElem? hy, rfl⟩
      obtain ⟨x, hx⟩ := aoZ n e v m l y.1 y.2 h1 hl2 (avX hw2 _ hm)
      refine ⟨x, ?_⟩
      have e2 : ((((c.toList.drop o).take (len * v.size)).drop (i * v.size)).take v.size) = l := by
       rw [← part i hi l hl, wA, xc, ya]
       congr 1
       have : i * v.size + v.size ≤ len * v.size := by rw [← yh]; exact zT _ hi
       omega
      rw [e2]
      exact hx)
     subst hx1
     exact ⟨xs, some ⟨b, o, none⟩, cap, rfl, hlc, hlim, Or.inr ⟨b, o, c, et, fr, rfl, (xn.1 hb).1, hb, hlen, hx2⟩⟩
  ·rename_i m e m' v hu
   simp only [zx] at h
   obtain ⟨h1, h2⟩ := h
   have h1 := Nat.eq_of_beq_eq_true h1
   subst h1
   have hse := at5 h2
   obtain ⟨xs, k, rfl, hx, hlen, hxl, hel⟩ := DataW.trod_array hu hd
   injection hx with hx _
   subst hx
   rw [hsz] at hlen
   have hlen' : cs.length = m * v.size := hlen
   simp only [DataW.weights, hu] at hw
   obtain ⟨ys, hy1, hy2⟩ := aKy (R := Rd (· < w.heap.size) w v) (n := v.size) m cs hlen' (fun i hi => by
    have := hel i hi
    rw [zR zc, hse] at this
    exact aoZ n e v k _ _ _ h2 this (avX hw _ (zM.2 ⟨_, ym zc, rfl⟩)))
   exact ⟨ys, hy1, hy2⟩
  ·rename_i _ fs hu
   obtain ⟨xs, k, rfl, hx, hlen, hxl, hel⟩ := DataW.trod_struct hu hd
   injection hx with hx _
   subst hx
   simp only [DataW.weights, hu] at hw
   obtain ⟨x, hx⟩ := aKP (n := k) (f := opn P n) (cs := cs) (fun t u cs d ps h1 h2 h3 => aoZ n t u k cs d ps h1 h2 h3) (fun t u h => at5 h) fs.toList 0 _ xs h (by rw [hlen, hsz]; omega) (by simpa using hxl) (fun i g hg => hel i g (by simpa using hg))
    (fun i g y hg hy => az1 hw i g.type y.1 (by simp [hg]) (by simp [hy]))
   exact ⟨x, by simpa using hx⟩
  ·cases h
theorem aNX {f : TypeId → Ty → Bool} : ∀ {fs : List Field} {off : Nat} {u : Ty}, opn.opFs f fs off u = true → u.agg = true
 | [], _, u, h => by cases u <;> first | rfl | (cases h; done)
 | _ :: _, _, u, h => by cases u <;> first | rfl | (cases h; done)
theorem aIl {n : Nat} {t : TypeId} {u : Ty} {r : _root_.Go.Reach} {b0 : Nat} {v : Value} {d : DataW H} {ps : List MemPlace} (ho : opn P n t u = true) (hne : u ≠ .unit) (hval : Value.okWide P w r b0 t v) (hd : DataW.Trod enc P w 0 spare held t v d ps) (hw : am7 (d.weights P t)) :
  ∃ x, RdV (· < w.heap.size) w u x v := by
 obtain ⟨fuel, hf⟩ := hd
 obtain ⟨x, hx⟩ := aoZ n t u fuel _ _ _ ho hf hw
 refine ⟨x, _, hx, ?_⟩
 cases n with
 | zero => cases ho
 | succ n =>
  simp only [opn, zx] at ho
  obtain ⟨-, h⟩ := ho
  split at h
  ·rename_i k k' hu
   obtain ⟨m, rfl⟩ := WideShapes.okWide_int hu hval
   rfl
  ·rename_i hu
   obtain ⟨m, rfl⟩ := WideShapes.okWide_bool hu hval
   rfl
  ·rename_i hu
   obtain ⟨m, rfl⟩ := WideShapes.okWide_string hu hval
   rfl
  ·rename_i e v' hu
   obtain ⟨a, len, cap, rfl⟩ := WideShapes.okWide_slice hu hval
   rfl
  ·rename_i ha
   unfold Value.okWide at hval
   rw [ha] at hval
   obtain ⟨cs, rfl, _⟩ := hval
   rfl
  ·rename_i fs hu'
   obtain ⟨cs, rfl, _⟩ := WideShapes.okWide_struct hu' hval
   unfold vOf
   rw [if_pos (aNX h)]
   rfl
  ·cases h
def aGZ (P : Program) : List TypeId → Ty → Bool
 | [], u => match u with | .unit => true | _ => false
 | t :: ts, u => match u with
  | .pair a b => opn P 8 t a && (match a with | .unit => false | _ => true) && aGZ P ts b
  | _ => false
theorem aG0 : ∀ (ts : List TypeId) (u : Ty) (vs : List Value) (ds : List (DataW H)) (ps : List MemPlace) {r : _root_.Go.Reach} {b0 : Nat}, aGZ P ts u = true → (∀ (j : Nat) t v, ts[j]? = some t → vs[j]? = some v → Value.okWide P w r b0 t v) →
  DataW.TrodAll enc P w 0 spare held ts vs ds ps → am7 (DataW.weightsEach P ts ds) → ∃ x, RdVs (· < w.heap.size) w u x vs
 | [], u, vs, ds, ps, _, _, ho, _, hd, _ => by
  cases u <;> first | (cases ho; done) | skip
  cases vs with
  | nil => exact ⟨(), rfl⟩
  | cons v vs => cases ds <;> exact hd.elim
 | t :: ts, u, vs, ds, ps, r, b0, ho, hv, hd, hw => by
  cases u <;> first | (cases ho; done) | skip
  rename_i a b
  simp only [aGZ, zx] at ho
  obtain ⟨⟨h1, h2⟩, h3⟩ := ho
  cases vs with
  | nil => exact hd.elim
  | cons v vs =>
   cases ds with
   | nil => exact hd.elim
   | cons d ds =>
    obtain ⟨p, q, hd1, hd2, _⟩ := hd
    rw [DataW.weightsEach] at hw
    obtain ⟨hw1, hw2⟩ := alI hw
    obtain ⟨x, hx⟩ := aIl h1 (fun e => by subst e; cases h2) (hv 0 t v rfl rfl) hd1 hw1
    obtain ⟨y, hy⟩ := aG0 ts b vs ds q h3 (fun j t' v' e1 e2 => hv (j + 1) t' v' (by simpa using e1) (by simpa using e2)) hd2 hw2
    exact ⟨(x, y), v, vs, rfl, hx, hy⟩
theorem aGM (hl : laidOutB P = true) {W W' : World} (hb : RowKit.Below W.heap.size W W') : ∀ (ts : List TypeId) (vs : List Value) (ds : List (DataW H)) (ps : List MemPlace), (ts.all fun t => P.readableRec t && decide (t < P.types.size)) = true →
  DataW.TrodAll enc P W 0 (fun _ => true) true ts vs ds ps → (∀ x ∈ ps, x.block < W.heap.size) → DataW.TrodAll enc P W' 0 (fun b => decide (b < W.heap.size)) true ts vs ds ps
 | [], [], [], _, _, hd, _ => hd
 | [], _ :: _, [], _, _, hd, _ | [], _, _ :: _, _, _, hd, _ => by cases ‹List Value› <;> exact hd.elim
 | t :: ts, [], ds, _, _, hd, _ => by cases ds <;> exact hd.elim
 | t :: ts, v :: vs, [], _, _, hd, _ => hd.elim
 | t :: ts, v :: vs, d :: ds, ps, hr, ⟨p, q, h1, h2, e⟩, hlt => by
  simp only [List.all_cons, zx, yp] at hr
  obtain ⟨⟨r1, r2⟩, r3⟩ := hr
  subst e
  exact ⟨p, q, RowKit.Below.trod hl r1 r2 h1 hb (fun x hx => hlt x (vA _ hx)), aGM hl hb ts vs ds q r3 h2 (fun x hx => hlt x (List.mem_append_right _ hx)), rfl⟩
end
end Go.Vg
