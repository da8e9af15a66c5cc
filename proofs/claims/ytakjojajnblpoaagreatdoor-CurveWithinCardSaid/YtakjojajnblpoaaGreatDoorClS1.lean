/-
  Functions of plain data that the Go functions compute, and their laws. Own work; no condition.
-/
import Derived.Test.YtakjojajnblpoaaGreatDoorClE4
import Derived.Lib.ItoaMem
import Derived.Lib.AtoiAllCases
import Derived.Lib.ParseIntBTie
import Derived.Lib.Repeat
import Derived.OpenShut
import Derived.Carry
set_option linter.unusedVariables false
set_option linter.unusedSimpArgs false
namespace Go.Vs
open Go Go.Vg
theorem aaA {x : Int} (h0 : -9223372036854775808 ≤ x ∧ x ≤ 9223372036854775807) : w64 x = x := by
 obtain ⟨h0, h1⟩ := h0
 unfold w64 IntKind.wrap
 simp only [IntKind.bits, IntKind.signed, Bool.true_and]
 have e1 : (2 : Int) ^ 64 = 18446744073709551616 := zf
 have e2 : (2 : Int) ^ (64 - 1) = 9223372036854775808 := zf
 simp only [e1, e2, ge_iff_le, yn]
 split <;> omega
theorem aaN {x : Int} (h0 : 0 ≤ x ∧ x ≤ 18446744073709551615) : abE x = x := by
 obtain ⟨h0, h1⟩ := h0
 unfold abE IntKind.wrap
 simp only [IntKind.bits, IntKind.signed, Bool.false_and]
 have e1 : (2 : Int) ^ 64 = 18446744073709551616 := zf
 simp only [e1]
 simp only [yo, if_false]
 omega
theorem aa0 {x : Int} (h0 : 0 ≤ x ∧ x ≤ 4294967295) : adY x = x := by
 obtain ⟨h0, h1⟩ := h0
 unfold adY IntKind.wrap
 simp only [IntKind.bits, IntKind.signed, Bool.false_and]
 have e1 : (2 : Int) ^ 32 = 4294967296 := zf
 simp only [e1]
 simp only [yo, if_false]
 omega
theorem abP {x : Int} (h0 : 0 ≤ x ∧ x ≤ 255) : wu8 x = x := by
 obtain ⟨h0, h1⟩ := h0
 unfold wu8 IntKind.wrap
 simp only [IntKind.bits, IntKind.signed, Bool.false_and]
 have e1 : (2 : Int) ^ 8 = 256 := zf
 simp only [e1]
 simp only [yo, if_false]
 omega
def V (B : Int) : List Int → Int
 | [] => 0
 | d :: l => d + B * V B l
def Dg (B : Int) (l : List Int) : Prop := ∀ d ∈ l, 0 ≤ d ∧ d < B
def Cn (l : List Int) : Prop := l.getLast? ≠ some 0
theorem ad3 (B : Int) : ∀ (l m : List Int), V B (l ++ m) = V B l + B ^ l.length * V B m
 | [], m => by simp [V]
 | d :: l, m => by
  simp only [vH, V, ad3 B l m, zL, zY]
  grind
theorem azV (B d : Int) : V B [d] = d := by simp [V]
theorem akX (B : Int) {l : List Int} {i : Nat} (h : i < l.length) : V B (l.take (i + 1)) = V B (l.take i) + B ^ i * l[i] := by
 rw [zW h, ad3, azV, yp, yM zc]
theorem aRs (B : Int) (l : List Int) (i : Nat) (h : i ≤ l.length) : V B l = V B (l.take i) + B ^ i * V B (l.drop i) := by
 conv => lhs; rw [← xB i l]
 rw [ad3, yp, yM h]
theorem aN0 (B : Int) {l : List Int} {i : Nat} (h : i < l.length) : V B (l.drop i) = l[i] + B * V B (l.drop (i + 1)) := by
 rw [yA h]; rfl
theorem auI (B : Int) : Dg B [] := fun _ h => by cases h
theorem aeK {B : Int} {l m : List Int} (hl : Dg B l) (hm : Dg B m) : Dg B (l ++ m) := by
 intro d hd
 rcases zK.1 hd with h | h
 ·exact hl d h
 ·exact hm d h
theorem amP {B d : Int} (h0 : 0 ≤ d) (h1 : d < B) : Dg B [d] := by
 intro x hx
 have := zZ.1 hx
 subst this
 exact ⟨h0, h1⟩
theorem ao7 {B d : Int} {l : List Int} (h : Dg B (d :: l)) : Dg B l := fun x hx => h x (zF _ hx)
theorem atD {B d : Int} {l : List Int} (h : Dg B (d :: l)) : 0 ≤ d ∧ d < B := h d zT
theorem aCX {B d : Int} {l : List Int} (h0 : 0 ≤ d ∧ d < B) (h : Dg B l) : Dg B (d :: l) := by
 intro x hx
 rcases zx.1 hx with rfl | h1
 ·exact h0
 ·exact h x h1
theorem ab8 {B : Int} {l : List Int} (h : Dg B l) (i : Nat) : Dg B (l.take i) := fun x hx => h x (xc hx)
theorem acM {B : Int} {l : List Int} (h : Dg B l) (i : Nat) : Dg B (l.drop i) := fun x hx => h x (xb hx)
theorem aFi {B : Int} {l : List Int} (h : Dg B l) {i : Nat} (hi : i < l.length) : 0 ≤ l[i] ∧ l[i] < B := h _ (yg hi)
theorem aiT {B d : Int} {l : List Int} (h : Dg B l) (h0 : 0 ≤ d ∧ d < B) (i : Nat) : Dg B (l.set i d) := by
 intro x hx
 rcases List.mem_or_eq_of_mem_set hx with h1 | h1
 ·exact h x h1
 ·rw [h1]; exact h0
theorem agH {B : Int} (hB : 0 < B) (n : Nat) : Dg B (List.replicate n 0) := by
 intro x hx
 have := (List.mem_replicate.1 hx).2
 omega
theorem as2 (B : Int) : ∀ n, V B (List.replicate n 0) = 0
 | 0 => rfl
 | n + 1 => by simp [xr, V, as2 B n]
theorem aaT {B : Int} (hB : 0 ≤ B) : ∀ {l : List Int}, Dg B l → 0 ≤ V B l
 | [], _ => yl 0
 | d :: l, h => by
  have h1 := aaT hB (ao7 h)
  have h2 := atD h
  have := ye hB h1
  simp only [V]; omega
theorem aKz {B : Int} (hB : 0 < B) : ∀ {l : List Int}, Dg B l → V B l < B ^ l.length
 | [], _ => by simp [V]
 | d :: l, h => by
  have h1 := aKz hB (ao7 h)
  have h2 := atD h
  simp only [V, zL, zY]
  have h3 : B * (V B l + 1) ≤ B * B ^ l.length := zD zc zc
  rw [yN (B ^ l.length) B]
  rw [wx] at h3
  omega
def auQ (B n : Nat) : List Int := if _h : n = 0 ∨ B < 2 then [] else ((n % B : Nat) : Int) :: auQ B (n / B)
termination_by n
decreasing_by exact vj zc zc
theorem ac7 (B : Nat) : auQ B 0 = [] := by rw [auQ]; simp
theorem aiI {B n : Nat} (hB : 2 ≤ B) (hn : n ≠ 0) : auQ B n = ((n % B : Nat) : Int) :: auQ B (n / B) := by
 rw [auQ, dif_neg zc]
theorem aE8 {B : Nat} (hB : 2 ≤ B) (n : Nat) : V B (auQ B n) = n := by
 induction n using Nat.strongRecOn with
 | _ n ih =>
  by_cases hn : n = 0
  ·subst hn; rw [ac7]; rfl
  ·rw [aiI hB hn]
   simp only [V]
   rw [ih (n / B) (vj zc zc)]
   have := xY n B
   have h2 : ((n % B : Nat) : Int) + (B : Int) * ((n / B : Nat) : Int) = ((n % B + B * (n / B) : Nat) : Int) := zi
   rw [h2, this]
theorem aGS {B : Nat} (hB : 2 ≤ B) (n : Nat) : Dg B (auQ B n) := by
 induction n using Nat.strongRecOn with
 | _ n ih =>
  by_cases hn : n = 0
  ·subst hn; rw [ac7]; exact auI _
  ·rw [aiI hB hn]
   refine aCX ⟨by omega, ?_⟩ (ih (n / B) (vj zc zc))
   have := yX n (show 0 < B by omega)
   omega
theorem aoU {B : Nat} (hB : 2 ≤ B) {n : Nat} (hn : n ≠ 0) : auQ B n ≠ [] := by rw [aiI hB hn]; simp
theorem auJ : Cn [] := by simp [Cn]
theorem aHo {d : Int} {l : List Int} : Cn (d :: l) ↔ (if l = [] then d ≠ 0 else Cn l) := by
 cases l with
 | nil => simp [Cn]
 | cons e l => simp [Cn, List.getLast?_cons_cons]
theorem aNc {B : Nat} (hB : 2 ≤ B) (n : Nat) : Cn (auQ B n) := by
 induction n using Nat.strongRecOn with
 | _ n ih =>
  by_cases hn : n = 0
  ·subst hn; rw [ac7]; exact auJ
  ·rw [aiI hB hn, aHo]
   split
   ·rename_i h
    by_cases h2 : n / B = 0
    ·have := xY n B
     rw [h2, Nat.mul_zero] at this
     omega
    ·exact absurd h (aoU hB h2)
   ·exact ih (n / B) (vj zc zc)
theorem aE7 {B : Int} (hB : 0 < B) : ∀ {l : List Int}, Dg B l → Cn l → V B l = 0 → l = []
 | [], _, _, _ => rfl
 | d :: l, hd, hc, h => by
  have h1 := aaT zc (ao7 hd)
  have h2 := atD hd
  simp only [V] at h
  have h3 := ye (show 0 ≤ B by omega) h1
  have h4 : B * V B l = 0 := zc
  have h5 : V B l = 0 := by
   rcases Int.mul_eq_zero.1 h4 with h | h
   ·omega
   ·exact h
  rw [aHo] at hc
  split at hc
  ·omega
  ·rename_i hl; exact absurd (aE7 hB (ao7 hd) hc h5) hl
theorem axI {B : Nat} (hB : 2 ≤ B) : ∀ {l : List Int} {n : Nat}, Dg B l → Cn l → V B l = n → l = auQ B n
 | [], n, _, _, h => by
  have : n = 0 := by simp [V] at h; omega
  subst this; rw [ac7]
 | d :: l, n, hd, hc, h => by
  have h1 := aaT zc (ao7 hd)
  have h2 := atD hd
  have hn : n ≠ 0 := by
   intro h0
   have := aE7 zc hd hc (by rw [h, h0]; rfl)
   cases this
  rw [aiI hB hn]
  simp only [V] at h
  obtain ⟨v, hv⟩ := zv h1
  obtain ⟨e, he⟩ := zv h2.1
  rw [hv, he] at h
  have h3 : e + B * v = n := by
   have : ((e + B * v : Nat) : Int) = (n : Int) := by simpa using h
   exact Int.ofNat.inj this
  have h4 : e < B := zc
  have h5 : n % B = e := by rw [← h3, Nat.add_mul_mod_self_left, yG h4]
  have h6 : n / B = v := by rw [← h3, Nat.add_mul_div_left _ _ zc, xd h4, zw]
  rw [h5, h6, he]
  congr 1
  refine axI hB (ao7 hd) ?_ hv
  rw [aHo] at hc
  split at hc
  ·rename_i hl; rw [hl]; exact auJ
  ·exact hc
theorem agF {B : Nat} (hB : 2 ≤ B) : ∀ {k n : Nat}, n < B ^ k → (auQ B n).length ≤ k
 | 0, n, h => by
  have : n = 0 := by simpa using h
  subst this; rw [ac7]; simp
 | k + 1, n, h => by
  by_cases hn : n = 0
  ·subst hn; rw [ac7]; simp
  ·rw [aiI hB hn, zL]
   have := agF (k := k) hB (n := n / B) (by rw [yF zc]; rw [yD] at h; exact h)
   omega
theorem awQ {B : Nat} (hB : 2 ≤ B) (n : Nat) : n < B ^ (auQ B n).length := by
 have h := aKz (B := B) zc (aGS hB n)
 rw [aE8 hB] at h
 have : ((B : Int) ^ (auQ B n).length) = ((B ^ (auQ B n).length : Nat) : Int) := zi
 rw [this] at h
 omega
theorem awA {B : Nat} (hB : 2 ≤ B) {n : Nat} (hn : n ≠ 0) : B ^ ((auQ B n).length - 1) ≤ n := by
 rcases zr n (B ^ ((auQ B n).length - 1)) with h | h
 ·have := agF hB h
  have h2 : (auQ B n).length ≠ 0 := by
   intro h3; exact aoU hB hn (zV.1 h3)
  omega
 ·exact h
theorem aIa {B : Nat} (hB : 2 ≤ B) {m n : Nat} (h : auQ B m = auQ B n) : m = n := by
 have h1 := aE8 hB m
 have h2 := aE8 hB n
 rw [h] at h1
 omega
theorem aAO {B : Nat} (hB : 2 ≤ B) {d : Nat} (h0 : d ≠ 0) (h1 : d < B) : auQ B d = [(d : Int)] := by
 rw [aiI hB h0, yG h1, xd h1, ac7]
noncomputable def ac4 {α A R : Type} (enc : α → A) (pre : α → Prop) (f : α → R) (x : A) : Option R :=
 open Classical in if h : ∃ a, pre a ∧ enc a = x then some (f h.choose) else none
theorem aaI {α A R : Type} {enc : α → A} {pre : α → Prop} {f : α → R} (a : α) (h : pre a) (hinj : ∀ b, enc b = enc a → b = a) : ac4 enc pre f (enc a) = some (f a) := by
 have hex : ∃ b, pre b ∧ enc b = enc a := ⟨a, h, rfl⟩
 unfold ac4
 rw [dif_pos hex, hinj _ hex.choose_spec.2]
theorem aaD {α A R : Type} {enc : α → A} {pre : α → Prop} {f : α → R} {x : A} {y : R} (h : ac4 enc pre f x = some y) : ∃ a, pre a ∧ x = enc a ∧ y = f a := by
 unfold ac4 at h
 split at h
 ·rename_i hex
  injection h with h
  exact ⟨_, hex.choose_spec.1, hex.choose_spec.2.symm, h.symm⟩
 ·cases h
theorem aaC {α : Type} (l : List α) : len l = (l.length : Int) := rfl
theorem aSy {α : Type} {l : List α} {i : Int} {d : α} {k : Nat} (h : i = k) (hk : k < l.length) : gi l i d = l[k] := by
 subst h; unfold gi; simp [hk]
theorem uT {α : Type} {b : Bool} {x y : TT α} {r : Option α} (h : b = true) (hx : x.toO = r) : (TT.ite b x y).toO = r := by subst h; exact hx
theorem uF {α : Type} {b : Bool} {x y : TT α} {r : Option α} (h : b = false) (hy : y.toO = r) : (TT.ite b x y).toO = r := by subst h; exact hy
theorem uN {α : Type} {p : Prop} {x : TT α} {r : Option α} (h : p) (hx : x.toO = r) : (TT.need p x).toO = r := by rw [aOs _ _ h]; exact hx
theorem uV {α : Type} {p : Prop} {h : p} {x : TT α} {r : Option α} (hx : x.toO = r) : (TT.triv p h x).toO = r := hx
theorem uB {α β : Type} {b : β} {x : β → TT α} {r : Option α} (hx : (x b).toO = r) : (TT.lt b x).toO = r := hx
theorem uC {α β : Type} {o : Option β} {d : β} {x : β → TT α} {r : Option α} (y : β) (h : o = some y) (hx : (x y).toO = r) : (TT.call o d x).toO = r := by subst h; exact hx
theorem uO {α ι : Type} {t : Nat} {H : TT ι} {R : ι → TT (ι ⊕ α)} {r : Option α} (i : ι) (h : H.toO = some i) (hx : ac6 (fun i => (R i).toO) i = r) : (TT.loop t H R).toO = r := by rw [aOt h]; exact hx
theorem uL {α ι : Type} {t : Nat} {H : TT (ι ⊕ α)} {R : ι → TT α} {r : Option α} (i : ι) (h : H.toO = some (.inl i)) (hx : (R i).toO = r) : (TT.join t H R).toO = r := by rw [aK2 h]; exact hx
theorem uR {α ι : Type} {t : Nat} {H : TT (ι ⊕ α)} {R : ι → TT α} (a : α) (h : H.toO = some (.inr a)) : (TT.join t H R).toO = some a := by rw [aK1 h]
def aa3 (n : Nat) : List UInt8 := Lib.decDigits n
def dec (z : Int) : List UInt8 := if z < 0 then 45 :: aa3 z.natAbs else aa3 z.natAbs
def isD (s : List UInt8) : Prop := ∀ c ∈ s, 48 ≤ c.toNat ∧ c.toNat ≤ 57
def dv (c : UInt8) : Nat := c.toNat - 48
def azA (a : Nat) (s : List UInt8) : Nat := s.foldl (fun a c => a * 10 + dv c) a
def num (s : List UInt8) : Nat := azA 0 s
def mag (n : Nat) : List Int := auQ 1000000000 n
def auC (a b : Int) : Int := if a < b then -1 else if a = b then 0 else 1
theorem agY (n : Nat) : Dg 1000000000 (mag n) := aGS (B := 1000000000) zc n
theorem aRR (n : Nat) : Cn (mag n) := aNc (B := 1000000000) zc n
theorem amD (n : Nat) : V 1000000000 (mag n) = n := aE8 (B := 1000000000) zc n
theorem adO {m n : Nat} (h : mag m = mag n) : m = n := aIa (B := 1000000000) zc h
theorem apX {l : List Int} {n : Nat} (h1 : Dg 1000000000 l) (h2 : Cn l) (h3 : V 1000000000 l = n) : l = mag n := axI (B := 1000000000) zc h1 h2 h3
noncomputable def aA6 (x : Int × Unit) : Option (List UInt8 × Unit) := if -9223372036854775808 ≤ x.1 ∧ x.1 ≤ 9223372036854775807 then some (dec x.1, ()) else none
noncomputable def aIl (x : List UInt8 × Int × Unit) : Option (List UInt8 × Unit) := if 0 ≤ x.2.1 ∧ x.2.1 ≤ 100000 ∧ x.1.length ≤ 1000 then some ((List.replicate x.2.1.toNat x.1).flatten, ()) else none
noncomputable def ac9 (x : List Int × Unit) : Option (Bool × Unit) := some (len x.1 == 0, ())
open Classical in
noncomputable def acG (x : List Int × Unit) : Option (List Int × Unit) := if Dg 1000000000 x.1 ∧ x.1.length ≤ 2000000000000 then some (mag (V 1000000000 x.1).toNat, ()) else none
noncomputable def anK : List Int × Unit → Option (Int × Unit) := ac4 (fun n : Nat => (mag n, ())) (fun n => n < 1000000000000000000) (fun n => ((n : Int), ()))
noncomputable def adS : List Int × List Int × Unit → Option (Int × Unit) := ac4 (fun p : Nat × Nat => (mag p.1, mag p.2, ())) (fun p => (mag p.1).length ≤ 1000000000000 ∧ (mag p.2).length ≤ 1000000000000) (fun p => (auC p.1 p.2, ()))
noncomputable def amH : List Int × List Int × Unit → Option (List Int × Unit) := ac4 (fun p : Nat × Nat => (mag p.1, mag p.2, ())) (fun p => (mag p.1).length ≤ 1000000000000 ∧ (mag p.2).length ≤ 1000000000000) (fun p => (mag (p.1 + p.2), ()))
noncomputable def ajZ : List Int × List Int × Unit → Option (List Int × Unit) := ac4 (fun p : Nat × Nat => (mag p.1, mag p.2, ())) (fun p => (mag p.1).length ≤ 1000000000000 ∧ p.2 ≤ p.1) (fun p => (mag (p.1 - p.2), ()))
noncomputable def acD : List Int × List Int × Unit → Option (List Int × Unit) := ac4 (fun p : Nat × Nat => (mag p.1, mag p.2, ())) (fun p => (mag p.1).length ≤ 1000000000000 ∧ (mag p.2).length ≤ 1000000000000) (fun p => (mag (p.1 * p.2), ()))
noncomputable def ajY : List Int × Int × Unit → Option (List Int × Int × Unit) := ac4 (fun p : Nat × Nat => (mag p.1, (p.2 : Int), ())) (fun p => (mag p.1).length ≤ 1000000000000 ∧ 0 < p.2 ∧ p.2 < 4294967296) (fun p => (mag (p.1 / p.2), ((p.1 % p.2 : Nat) : Int), ()))
noncomputable def abO (x : Int × Unit) : Option (List Int × Unit) := if 0 ≤ x.1 ∧ x.1 < 18446744073709551616 then some (mag x.1.toNat, ()) else none
open Classical in
noncomputable def ahA (x : List UInt8 × Unit) : Option (List Int × Unit) := if isD x.1 ∧ x.1 ≠ [] ∧ x.1.length ≤ 1000000000000 then some (mag (num x.1), ()) else none
noncomputable def ah2 : List Int × Unit → Option (Int × Unit) := ac4 (fun n : Nat => (mag n, ())) (fun n => (mag n).length ≤ 1000000000000) (fun n => (((aa3 n).length : Int), ()))
noncomputable def ah3 : List Int × Unit → Option (List UInt8 × Unit) := ac4 (fun n : Nat => (mag n, ())) (fun n => (mag n).length ≤ 1000000) (fun n => (aa3 n, ()))
noncomputable def abC : List Int × List Int × Unit → Option (List Int × List Int × Unit) := ac4 (fun p : Nat × Nat => (mag p.1, mag p.2, ())) (fun p => (mag p.1).length ≤ 100000000000 ∧ (mag p.2).length ≤ 100000000000 ∧ p.2 ≠ 0) (fun p => (mag (p.1 / p.2), mag (p.1 % p.2), ()))
noncomputable def ag4 : List Int × List Int × Unit → Option (List Int × Unit) := ac4 (fun p : Nat × Nat => (mag p.1, mag p.2, ())) (fun p => (mag p.1).length ≤ 100000000000 ∧ (mag p.2).length ≤ 100000000000) (fun p => (mag (Nat.gcd p.1 p.2), ()))
noncomputable def ahY (x : List Int × Unit) : Option (Bool × Unit) := some (len x.1 == 0, ())
open Classical in
noncomputable def aN1 (x : List Int × Unit) : Option (List Int × Unit) := if Dg 1000000000 x.1 ∧ x.1.length ≤ 2000000000000 then some (mag (V 1000000000 x.1).toNat, ()) else none
noncomputable def amE : List Int × List Int × Unit → Option (Int × Unit) := ac4 (fun p : Nat × Nat => (mag p.1, mag p.2, ())) (fun p => (mag p.1).length ≤ 1000000000000 ∧ (mag p.2).length ≤ 1000000000000) (fun p => (auC p.1 p.2, ()))
noncomputable def aqU : List Int × List Int × Unit → Option (List Int × Unit) := ac4 (fun p : Nat × Nat => (mag p.1, mag p.2, ())) (fun p => (mag p.1).length ≤ 1000000000000 ∧ (mag p.2).length ≤ 1000000000000) (fun p => (mag (p.1 + p.2), ()))
noncomputable def as4 : List Int × List Int × Unit → Option (List Int × Unit) := ac4 (fun p : Nat × Nat => (mag p.1, mag p.2, ())) (fun p => (mag p.1).length ≤ 1000000000000 ∧ p.2 ≤ p.1) (fun p => (mag (p.1 - p.2), ()))
noncomputable def ajO : List Int × List Int × Unit → Option (List Int × Unit) := ac4 (fun p : Nat × Nat => (mag p.1, mag p.2, ())) (fun p => (mag p.1).length ≤ 1000000000000 ∧ (mag p.2).length ≤ 1000000000000) (fun p => (mag (p.1 * p.2), ()))
noncomputable def as3 : List Int × Int × Unit → Option (List Int × Int × Unit) := ac4 (fun p : Nat × Nat => (mag p.1, (p.2 : Int), ())) (fun p => (mag p.1).length ≤ 1000000000000 ∧ 0 < p.2 ∧ p.2 < 4294967296) (fun p => (mag (p.1 / p.2), ((p.1 % p.2 : Nat) : Int), ()))
noncomputable def ag3 (x : Int × Unit) : Option (List Int × Unit) := if 0 ≤ x.1 ∧ x.1 < 18446744073709551616 then some (mag x.1.toNat, ()) else none
open Classical in
noncomputable def ajQ (x : List UInt8 × Unit) : Option (List Int × Unit) := if isD x.1 ∧ x.1 ≠ [] ∧ x.1.length ≤ 1000000000000 then some (mag (num x.1), ()) else none
noncomputable def akY : List Int × Unit → Option (Int × Unit) := ac4 (fun n : Nat => (mag n, ())) (fun n => (mag n).length ≤ 1000000000000) (fun n => (((aa3 n).length : Int), ()))
noncomputable def ak0 : List Int × Unit → Option (List UInt8 × Unit) := ac4 (fun n : Nat => (mag n, ())) (fun n => (mag n).length ≤ 1000000) (fun n => (aa3 n, ()))
noncomputable def akZ : List Int × List Int × Unit → Option (List Int × List Int × Unit) := ac4 (fun p : Nat × Nat => (mag p.1, mag p.2, ())) (fun p => (mag p.1).length ≤ 100000000000 ∧ (mag p.2).length ≤ 100000000000 ∧ p.2 ≠ 0) (fun p => (mag (p.1 / p.2), mag (p.1 % p.2), ()))
theorem aFY {B : Int} (hB : 0 < B) {i j : Nat} (h : i ≤ j) : B ^ i ≤ B ^ j := by
 obtain ⟨k, rfl⟩ := Nat.exists_eq_add_of_le h
 rw [wy]
 have h1 : 1 ≤ B ^ k := yK hB
 have h2 : 0 < B ^ i := yK hB
 have := zD h1 (xf h2)
 omega
theorem aaM {α : Type} (l : List α) (k : Nat) (d : α) : gi l (k : Int) d = l.getD k d := by unfold gi; rw [zp]
theorem aiZ {l : List Int} {k : Nat} (h : k < l.length) (d : Int) : l.getD k d = l[k] := by simp [h]
theorem ahP {l : List Int} {k : Nat} (h : l.length ≤ k) (d : Int) : l.getD k d = d := by simp [h]
theorem aa4 {B : Int} (hB : 0 < B) {l : List Int} (h : Dg B l) (k : Nat) : 0 ≤ l.getD k 0 ∧ l.getD k 0 < B := by
 rcases zr k l.length with hk | hk
 ·rw [aiZ hk]; exact aFi h hk
 ·rw [ahP hk]; omega
theorem aa6 (B : Int) (l : List Int) (k : Nat) : V B (l.take (k + 1)) = V B (l.take k) + B ^ k * l.getD k 0 := by
 rcases zr k l.length with hk | hk
 ·rw [aiZ hk]; exact akX B hk
 ·rw [ahP hk, zz zc, zz hk]; omega
theorem aaU (B : Int) (l : List Int) (k : Nat) : V B (l.drop k) = l.getD k 0 + B * V B (l.drop (k + 1)) := by
 rcases zr k l.length with hk | hk
 ·rw [aiZ hk]; exact aN0 B hk
 ·rw [ahP hk, yx hk, yx zc]; simp [V]
theorem acW (B : Int) {l : List Int} {k : Nat} (h : l.length ≤ k) : V B (l.drop k) = 0 := by rw [yx h]; rfl
theorem abG (B : Int) {l : List Int} {k : Nat} (h : l.length ≤ k) : V B (l.take k) = V B l := by rw [zz h]
theorem ab9 (B : Int) (l : List Int) (k : Nat) : V B l = V B (l.take k) + B ^ k * V B (l.drop k) := by
 rcases zr k l.length with hk | hk
 ·exact aRs B l k zc
 ·rw [acW B hk, abG B hk]; omega
theorem ac8 {B : Int} (hB : 0 < B) {l : List Int} (h : Dg B l) (k : Nat) : V B (l.take k) < B ^ k := by
 rcases zr k l.length with hk | hk
 ·have := aKz hB (ab8 h k)
  rwa [yp, yM zc] at this
 ·rw [abG B hk]
  have h1 := aKz hB h
  have h2 : B ^ l.length ≤ B ^ k := aFY hB hk
  omega
theorem aNZ {B : Int} (hB : 1 ≤ B) {l : List Int} (h : Dg B l) (k : Nat) : V B (l.drop k) ≤ V B l := by
 have h1 := ab9 B l k
 have h2 := aaT zc (ab8 h k)
 have h3 := aaT zc (acM h k)
 have h4 : 1 * V B (l.drop k) ≤ B ^ k * V B (l.drop k) := zu (yK zc) h3
 omega
theorem aBN {B : Int} (hB : 1 ≤ B) (k : Nat) : 1 ≤ B ^ k := yK zc
theorem aBt (l : List Int) (k : Nat) (x : Int) : (l.set k x).take k = l.take k := by
 rw [List.take_set_of_le (zq k)]
theorem aKy (B : Int) {l : List Int} {k : Nat} (hk : k < l.length) (x : Int) : V B ((l.set k x).take (k + 1)) = V B (l.take k) + B ^ k * x := by
 rw [aa6, aBt, aiZ (by simpa using hk)]
 simp
theorem ahS (l : List Int) {k j : Nat} (h : k < j) (x : Int) : (l.set k x).drop j = l.drop j := by
 rw [List.drop_set_of_lt h]
theorem ayK (B : Int) : ∀ {l : List Int} {k : Nat}, k < l.length → ∀ x, V B (l.set k x) = V B l + B ^ k * (x - l.getD k 0)
 | [], k, h, _ => by simp at h
 | d :: l, 0, _, x => by simp [V]; omega
 | d :: l, k + 1, h, x => by
  simp only [List.set_cons_succ, V, List.getD_cons_succ]
  rw [ayK B (by simpa using h) x, zY]
  grind
theorem aoN (l : List Int) {k j : Nat} (h : k ≠ j) (x : Int) : (l.set k x).getD j 0 = l.getD j 0 := by
 simp [yd, List.getElem?_set_ne h]
theorem aoO {l : List Int} {k : Nat} (h : k < l.length) (x : Int) : (l.set k x).getD k 0 = x := by
 simp [yd, h]
theorem al1 {B : Int} (hB : 1 < B) {l : List Int} (h : Dg B l) {k : Nat} (hv : V B l < B ^ k) : ∀ j, k ≤ j → l.getD j 0 = 0 := by
 intro j hj
 have h1 := ab9 B l j
 have h2 := aaT zc (ab8 h j)
 have h3 := aaT zc (acM h j)
 have h4 := aaU B l j
 have h5 := aaT zc (acM h (j + 1))
 have h6 := aa4 zc h j
 have h7 : B ^ k ≤ B ^ j := aFY zc hj
 have h8 := ye (show 0 ≤ B by omega) h5
 rcases zO 0 (V B (l.drop j)) with h9 | h9
 ·have : B ^ j * 1 ≤ B ^ j * V B (l.drop j) := zD zc (by have := aBN (show 1 ≤ B by omega) j; omega)
  omega
 ·omega
theorem aIx {B : Int} (hB : 0 < B) {l : List Int} (h : Dg B l) (hv : l = [] ∨ B ^ (l.length - 1) ≤ V B l) : Cn l := by
 rcases hv with rfl | hv
 ·exact auJ
 ·rcases zE l.length with hl | hl
  ·rw [zV.1 hl]; exact auJ
  ·unfold Cn
   rw [yT, zP zc]
   intro h0
   injection h0 with h0
   have h1 := akX B (l := l) (i := l.length - 1) zc
   rw [h0, show l.length - 1 + 1 = l.length by omega, zt] at h1
   have h2 := ac8 hB h (l.length - 1)
   omega
theorem mag_length_le_iff {n k : Nat} : (mag n).length ≤ k ↔ n < 1000000000 ^ k := by
 constructor
 ·intro h
  have h1 := awQ (B := 1000000000) zc n
  exact yf h1 (zU zc h)
 ·intro h
  exact agF zc h
theorem abR {m n : Nat} (h : m ≤ n) : (mag m).length ≤ (mag n).length := by
 rw [mag_length_le_iff]
 exact Nat.lt_of_le_of_lt h (mag_length_le_iff.1 (zq _))
theorem aiX (m n : Nat) : (mag (m + n)).length ≤ max (mag m).length (mag n).length + 1 := by
 rw [mag_length_le_iff]
 have h1 := mag_length_le_iff.1 (Nat.le_max_left (mag m).length (mag n).length)
 have h2 := mag_length_le_iff.1 (Nat.le_max_right (mag m).length (mag n).length)
 rw [yD]
 have := yv (1000000000 ^ max (mag m).length (mag n).length) (show 2 ≤ 1000000000 by omega)
 omega
theorem agD (m n : Nat) : (mag (m * n)).length ≤ (mag m).length + (mag n).length := by
 rw [mag_length_le_iff, xv]
 have h1 := mag_length_le_iff.1 (zq (mag m).length)
 have h2 := mag_length_le_iff.1 (zq (mag n).length)
 exact Nat.mul_lt_mul'' h1 h2
theorem mag_zero : mag 0 = [] := ac7 _
theorem mag_nil_iff {n : Nat} : mag n = [] ↔ n = 0 := by
 constructor
 ·intro h
  exact adO (h.trans mag_zero.symm)
 ·rintro rfl; exact mag_zero
theorem apY {d : Nat} (h0 : d ≠ 0) (h1 : d < 1000000000) : mag d = [(d : Int)] := aAO zc h0 h1
theorem an4 {m n : Nat} (h : (mag m).length < (mag n).length) : m < n := by
 have h1 := mag_length_le_iff.1 (zq (mag m).length)
 rcases zr m n with h2 | h2
 ·exact h2
 ·have := abR h2; omega
theorem adF {p q : Nat × Nat} (h : (mag p.1, mag p.2, ()) = (mag q.1, mag q.2, ())) : p = q := by
 injection h with h1 h2
 injection h2 with h2 _
 exact Prod.ext (adO h1) (adO h2)
theorem abI {n : Nat} (h : n < 10) : aa3 n = [UInt8.ofNat (48 + n)] := by unfold aa3; rw [Lib.decDigits, dif_pos h]
theorem afB {n : Nat} (h : 10 ≤ n) : aa3 n = aa3 (n / 10) ++ [UInt8.ofNat (48 + n % 10)] := by
 unfold aa3; conv => lhs; rw [Lib.decDigits, dif_neg zc]
theorem aeR (n : Nat) : aa3 n ≠ [] := by
 rcases zr n 10 with h | h
 ·rw [abI h]; simp
 ·rw [afB h]; simp
theorem aFC {α : Type} {P : List α → Prop} (nil : P []) (snoc : ∀ l a, P l → P (l ++ [a])) (l : List α) : P l := by
 have H : ∀ m : List α, P m.reverse := by
  intro m
  induction m with
  | nil => exact nil
  | cons a m ih => rw [List.reverse_cons]; exact snoc _ _ ih
 have := H l.reverse
 rwa [List.reverse_reverse] at this
theorem au8 {d : Nat} (h : d < 10) : (UInt8.ofNat (48 + d)).toNat = 48 + d := by simp [UInt8.toNat_ofNat]; omega
theorem isD_append {s t : List UInt8} : isD (s ++ t) ↔ isD s ∧ isD t := by
 constructor
 ·intro h
  exact ⟨fun c hc => h c (vM _ hc), fun c hc => h c (List.mem_append_right _ hc)⟩
 ·rintro ⟨h1, h2⟩ c hc
  rcases zK.1 hc with h | h
  ·exact h1 c h
  ·exact h2 c h
theorem aMA {d : Nat} (h : d < 10) : isD [UInt8.ofNat (48 + d)] := by
 intro c hc
 have := zZ.1 hc
 subst this
 rw [au8 h]; omega
theorem agL (a : Nat) (c : UInt8) (s : List UInt8) : azA a (c :: s) = azA (a * 10 + dv c) s := List.foldl_cons ..
theorem aGi (s t : List UInt8) (a : Nat) : azA a (s ++ t) = azA (azA a s) t := List.foldl_append ..
theorem aPg (s : List UInt8) : ∀ a : Nat, azA a s = a * 10 ^ s.length + azA 0 s := by
 induction s with
 | nil => intro a; simp [azA]
 | cons c s ih =>
  intro a
  rw [agL, agL, vL, zw]
  generalize dv c = x
  rw [ih (a * 10 + x), ih x, zL, yD]
  generalize 10 ^ s.length = y
  rw [yP, yH y 10, wE, Nat.add_assoc]
theorem aAN {d : Nat} (h : d < 10) : dv (UInt8.ofNat (48 + d)) = d := by unfold dv; rw [au8 h]; omega
theorem aMe (s : List UInt8) (a : Nat) : azA a s = a * 10 ^ s.length + num s := aPg s a
theorem am0 (s t : List UInt8) : num (s ++ t) = num s * 10 ^ t.length + num t := by
 show azA 0 (s ++ t) = _
 rw [aGi, aMe]
 rfl
theorem aQR {d : Nat} (h : d < 10) : num [UInt8.ofNat (48 + d)] = d := by
 show azA 0 [_] = d
 rw [agL, aAN h]; simp [azA]
theorem amY (s : List UInt8) (c : UInt8) : num (s ++ [c]) = num s * 10 + dv c := by
 rw [am0]; simp [num, azA]
theorem aD6 {s : List UInt8} : isD s → num s < 10 ^ s.length := by
 induction s using aFC with
 | nil => intro _; simp [num, azA]
 | snoc s c ih =>
  intro h
  rw [isD_append] at h
  have h1 := ih h.1
  have h2 := h.2 c zi
  have h3 : dv c = c.toNat - 48 := rfl
  rw [amY, zR, yu, yD]
  omega
theorem akQ (n : Nat) : isD (aa3 n) := by
 induction n using Nat.strongRecOn with
 | _ n ih =>
  rcases zr n 10 with h | h
  ·rw [abI h]; exact aMA h
  ·rw [afB h, isD_append]
   exact ⟨ih (n / 10) zc, aMA zc⟩
theorem amZ (n : Nat) : num (aa3 n) = n := by
 induction n using Nat.strongRecOn with
 | _ n ih =>
  rcases zr n 10 with h | h
  ·rw [abI h, aQR h]
  ·rw [afB h, amY, ih (n / 10) zc, aAN zc]
   omega
theorem aiJ {m n : Nat} (h : aa3 m = aa3 n) : m = n := by rw [← amZ m, ← amZ n, h]
theorem afU (n : Nat) : n < 10 ^ (aa3 n).length := by
 have := aD6 (akQ n)
 rwa [amZ] at this
theorem acK : ∀ {k n : Nat}, n < 10 ^ (k + 1) → (aa3 n).length ≤ k + 1
 | 0, n, h => by rw [abI (by simpa using h)]; simp
 | k + 1, n, h => by
  rcases zr n 10 with h9 | h9
  ·rw [abI h9]; simp
  ·have := acK (k := k) (n := n / 10) (by rw [yF zc]; rw [yD] at h; exact h)
   rw [afB h9]; simp; omega
theorem ahU (n : Nat) : 1 ≤ (aa3 n).length := ya.2 (aeR n)
theorem abF {k n : Nat} (hk : 1 ≤ k) : (aa3 n).length ≤ k ↔ n < 10 ^ k := by
 constructor
 ·intro h
  exact yf (afU n) (zU zc h)
 ·intro h
  obtain ⟨j, rfl⟩ : ∃ j, k = j + 1 := ⟨k - 1, by omega⟩
  exact acK h
theorem an2 {k n : Nat} (h1 : 10 ^ k ≤ n) (h2 : n < 10 ^ (k + 1)) : (aa3 n).length = k + 1 := by
 have h3 := acK h2
 rcases zr k (aa3 n).length with h | h
 ·omega
 ·have := afU n
  have h4 := zU (n := 10) zc h
  omega
theorem aFX {n : Nat} (hn : n ≠ 0) : 10 ^ ((aa3 n).length - 1) ≤ n := by
 rcases zr n (10 ^ ((aa3 n).length - 1)) with h | h
 ·have h1 := ahU n
  rcases zr 1 (aa3 n).length with h2 | h2
  ·have := (abF (k := (aa3 n).length - 1) zc).2 h
   omega
  ·have : (aa3 n).length - 1 = 0 := zc
   rw [this] at h; simp at h; omega
 ·exact h
theorem aEL {s : List UInt8} : isD s → s ≠ [] → (s.head? ≠ some 48 ∨ s.length = 1) → s = aa3 (num s) := by
 induction s using aFC with
 | nil => intro _ h; exact absurd rfl h
 | snoc s c ih =>
  intro h _ hz
  rw [isD_append] at h
  have h2 := h.2 c zi
  have hdv : dv c = c.toNat - 48 := rfl
  have hc : c = UInt8.ofNat (48 + (c.toNat - 48)) := by
   rw [show 48 + (c.toNat - 48) = c.toNat by omega]; simp
  rw [amY]
  by_cases hs : s = []
  ·subst hs
   simp only [xj]
   rw [show num [] * 10 + dv c = c.toNat - 48 by simp [num, azA, hdv], abI zc, ← hc]
  ·have hz' : s.head? ≠ some 48 := by
    rcases hz with h0 | h0
    ·cases s with
     | nil => exact absurd rfl hs
     | cons a s => simpa using h0
    ·have := ya.2 hs
     rw [zR, yu] at h0; omega
   have h3 := ih h.1 hs (Or.inl hz')
   have h4 : 1 ≤ num s := by
    rcases zE (num s) with h0 | h0
    ·rw [h0, abI zc] at h3
     rw [h3] at hz'
     simp at hz'
    ·exact h0
   rw [afB (n := num s * 10 + dv c) zc]
   rw [show (num s * 10 + dv c) / 10 = num s by omega, show (num s * 10 + dv c) % 10 = c.toNat - 48 by omega, ← h3, ← hc]
theorem aNh {n : Nat} (h : n ≠ 0) : (aa3 n).head? ≠ some 48 := by
 induction n using Nat.strongRecOn with
 | _ n ih =>
  rcases zr n 10 with h9 | h9
  ·rw [abI h9]
   simp only [vk]
   intro h0
   injection h0 with h0
   have := au8 h9
   rw [h0] at this
   simp at this; omega
  ·rw [afB h9]
   have := ih (n / 10) zc zc
   cases hd : aa3 (n / 10) with
   | nil => exact absurd hd (aeR _)
   | cons a l => rw [hd] at this; simpa using this
theorem aeA (n : Nat) : dec (n : Int) = aa3 n := by unfold dec; rw [if_neg zc]; simp
theorem ahT {z : Int} (h : z < 0) : dec z = 45 :: aa3 z.natAbs := by unfold dec; rw [if_pos h]
theorem acC {z : Int} (h : 0 ≤ z) : dec z = aa3 z.natAbs := by unfold dec; rw [if_neg zc]
theorem adH (n : Nat) : (aa3 n).head? ≠ some 45 := by
 cases hd : aa3 n with
 | nil => simp
 | cons a l =>
  have := akQ n a (by rw [hd]; simp)
  simp only [vk]
  intro h
  injection h with h
  rw [h] at this
  simp at this
theorem akP {a b : Int} (h : dec a = dec b) : a = b := by
 rcases zO a 0 with ha | ha <;> rcases zO b 0 with hb | hb
 ·rw [ahT ha, ahT hb] at h
  injection h with _ h
  have := aiJ h
  omega
 ·rw [ahT ha, acC hb] at h
  have := adH b.natAbs
  rw [← h] at this
  simp at this
 ·rw [ahT hb, acC ha] at h
  have := adH a.natAbs
  rw [h] at this
  simp at this
 ·rw [acC ha, acC hb] at h
  have := aiJ h
  omega
theorem aqH (z : Int) : (dec z).length ≤ (aa3 z.natAbs).length + 1 := by unfold dec; split <;> simp
theorem sd {p : Prop} (h : p := by first | omega | ((try simp only [yn, yk, yJ, yW, beq_eq_false_iff_ne, bne_eq_false_iff_eq, zS, yE]) <;> (try simp only [aaC, inb, inc, ge_iff_le, gt_iff_lt, zp, asT, ne_eq]) <;> omega) | ((try simp only [yn, yk, yJ, yW, beq_eq_false_iff_ne, bne_eq_false_iff_eq, zS, yE]) <;> (try simp only [aaC, inb, inc, ge_iff_le, gt_iff_lt, zp, asT, ne_eq]) <;> (simp (disch := omega) only [aaA, aaN, aa0, abP, aaM, zw, zp, aaC]; omega)) | fail) : p := h
theorem za {α : Type} {x y : TT α} {r : Option α} (k : y.toO = r) (h : x.toO = y.toO := by first | exact uV rfl | exact uB rfl | exact uN sd rfl | exact uT sd rfl | exact uF sd rfl | exact uN (by simp) rfl) : x.toO = r := h.trans k
theorem sn {p : Prop} (h : p := by (try simp only [aaC, inb, inc, ge_iff_le, gt_iff_lt, zp, asT, ne_eq]); omega) : p := h
def aBQ (k n : Nat) : List UInt8 := List.replicate (k - (aa3 n).length) 48 ++ aa3 n
theorem aOX {r : Nat} (h : r < 10) : aBQ 1 r = [UInt8.ofNat (48 + r)] := by
 unfold aBQ; rw [abI h]; rfl
theorem aLK {k r : Nat} (hk : 1 ≤ k) : aBQ (k + 1) r = aBQ k (r / 10) ++ [UInt8.ofNat (48 + r % 10)] := by
 unfold aBQ
 rcases zr r 10 with h | h
 ·rw [abI h, xd h, yG h, abI (by omega : 0 < 10)]
  obtain ⟨j, rfl⟩ : ∃ j, k = j + 1 := ⟨k - 1, by omega⟩
  have e1 : j + 1 + 1 - [UInt8.ofNat (48 + r)].length = j + 1 := zi
  have e2 : j + 1 - [UInt8.ofNat (48 + 0)].length = j := zi
  rw [e1, e2, wS]
  rfl
 ·rw [afB h, zR, yu, Nat.add_sub_add_right, yV]
theorem aJ5 {q : Nat} (hq : q ≠ 0) : ∀ {k r : Nat}, 1 ≤ k → r < 10 ^ k → aa3 (q * 10 ^ k + r) = aa3 q ++ aBQ k r := by
 intro k
 induction k with
 | zero => intro r h; omega
 | succ k ih =>
  intro r _ hr
  have h10 : 10 ≤ q * 10 ^ (k + 1) + r := by
   have h1 : 10 ^ (k + 1) ≤ q * 10 ^ (k + 1) := Nat.le_mul_of_pos_left _ zc
   have h2 : 10 ≤ 10 ^ (k + 1) := by
    have := zU (show 1 ≤ 10 by omega) (show 1 ≤ k + 1 by omega)
    simpa using this
   omega
  rw [afB h10]
  have e1 : q * 10 ^ (k + 1) + r = 10 * (q * 10 ^ k) + r := by rw [yD]; congr 1; rw [← wE, yH]
  have ed : (q * 10 ^ (k + 1) + r) / 10 = q * 10 ^ k + r / 10 := by rw [e1]; omega
  have em : (q * 10 ^ (k + 1) + r) % 10 = r % 10 := by rw [e1]; omega
  rw [ed, em]
  rcases zE k with h | h
  ·subst h
   have hr' : r < 10 := by simpa using hr
   rw [xd hr', yG hr', aOX hr']
   simp
  ·have hr2 : r / 10 < 10 ^ k := by rw [yF zc]; rw [yD] at hr; exact hr
   rw [ih h hr2, aLK h, yV]
def aC2 : List Int → List UInt8
 | [] => []
 | d :: r => match r with
  | [] => aa3 d.toNat
  | _ :: _ => aC2 r ++ aBQ 9 d.toNat
theorem aCJ (n : Nat) (hn : n ≠ 0) : aC2 (mag n) = aa3 n := by
 induction n using Nat.strongRecOn with
 | _ n ih =>
  unfold mag
  rw [aiI zc hn]
  by_cases hq : n / 1000000000 = 0
  ·rw [hq, ac7]
   have : n < 1000000000 := by
    rcases zr n 1000000000 with h | h
    ·exact h
    ·have := Nat.div_pos h zc; omega
   simp only [aC2, zp]
   rw [yG this]
  ·have h1 := ih (n / 1000000000) (vj zc zc) hq
   unfold mag at h1
   cases hd : auQ 1000000000 (n / 1000000000) with
   | nil => exact absurd hd (aoU zc hq)
   | cons e r =>
    rw [hd] at h1
    simp only [aC2, zp]
    have h2 := aJ5 hq (k := 9) (r := n % 1000000000) zc (yX _ zc)
    have e : n / 1000000000 * 10 ^ 9 + n % 1000000000 = n := by
     have := Nat.div_add_mod n 1000000000
     omega
    rw [e] at h2
    rw [h2, ← h1]
    rfl
theorem aE1 {l : List Int} {k : Nat} (hk : k + 1 = l.length) : aC2 (l.drop k) = aa3 (l[k]'zc).toNat := by
 rw [yA zc, List.drop_eq_nil_of_le zc]
 rfl
theorem aAZ {l : List Int} {k : Nat} (hk : k + 1 < l.length) : aC2 (l.drop k) = aC2 (l.drop (k + 1)) ++ aBQ 9 (l[k]'zc).toNat := by
 rw [yA zc, yA (i := k + 1) hk]
 rfl
theorem aPO {d : Nat} (h : d < 1000000000) : (aa3 d).length ≤ 9 := acK (k := 8) h
theorem aOY {d : Nat} (h : d < 1000000000) : (aBQ 9 d).length = 9 := by
 have := aPO h
 unfold aBQ; simp; omega
theorem au9 : ∀ {l : List Int}, Dg 1000000000 l → (aC2 l).length ≤ 9 * l.length
 | [], _ => by simp [aC2]
 | [d], h => by
  have := (atD h).2
  have := aPO (d := d.toNat) zc
  simp only [aC2, yu]; omega
 | d :: e :: r, h => by
  have h1 := au9 (ao7 h)
  have := (atD h).2
  have h2 := aOY (d := d.toNat) zc
  rw [show aC2 (d :: e :: r) = aC2 (e :: r) ++ aBQ 9 d.toNat from rfl, zR]
  simp only [zL] at h1 ⊢
  omega
def Bd (k n : Nat) : Prop := (mag n).length ≤ 1000000 * 4 ^ k
theorem aaH {k j n : Nat} (h : Bd k n) (hk : k ≤ j) : Bd j n := zC h (yv _ (zU zc hk))
theorem anE {k m n : Nat} (h : Bd k n) (hm : m ≤ n) : Bd k m := zC (abR hm) h
theorem aaW {k m n : Nat} (h1 : Bd k m) (h2 : Bd k n) : Bd (k + 1) (m * n) := by
 have := agD m n
 unfold Bd at *
 rw [yD]
 omega
theorem aaZ {k m n : Nat} (h1 : Bd k m) (h2 : Bd k n) : Bd (k + 1) (m + n) := by
 have := aiX m n
 have h3 : 1 ≤ 4 ^ k := yS zc
 unfold Bd at *
 rw [yD]
 omega
theorem aaS {k m : Nat} (n : Nat) (h1 : Bd k m) : Bd k (m / n) := anE h1 (xo _ _)
theorem aa1 {k m : Nat} (n : Nat) (h1 : Bd k m) : Bd k (m % n) := anE h1 (Nat.mod_le _ _)
theorem aaY {k m n : Nat} (h1 : Bd k m) (h2 : Bd k n) : Bd k (Nat.gcd m n) := by
 rcases zE m with h | h
 ·subst h; rw [Nat.gcd_zero_left]; exact h2
 ·exact anE h1 (Nat.gcd_le_left _ h)
theorem aaE {k : Nat} {a b : Int} (h1 : Bd k a.natAbs) (h2 : Bd k b.natAbs) : Bd (k + 1) (a + b).natAbs := anE (aaZ h1 h2) (Int.natAbs_add_le a b)
theorem aaB {k : Nat} {a b : Int} (h1 : Bd k a.natAbs) (h2 : Bd k b.natAbs) : Bd (k + 1) (a * b).natAbs := by rw [yy]; exact aaW h1 h2
theorem aaV {k : Nat} {a : Int} (h1 : Bd k a.natAbs) : Bd k (-a).natAbs := by rw [xN]; exact h1
theorem aaP {k n : Nat} (h : Bd k n) : Bd k (n : Int).natAbs := h
theorem aaG {n : Nat} (h : n < 1000000000000000000000000000) : Bd 0 n := by
 unfold Bd
 have : (mag n).length ≤ 3 := mag_length_le_iff.2 zc
 omega
theorem zd {p : Prop} (h : p := by repeat (first | assumption | exact aaH (by assumption) (by omega) | exact aaG (by omega) | refine aaY ?_ ?_ | refine aaS _ ?_ | refine aa1 _ ?_ | refine aaE ?_ ?_ | refine aaB ?_ ?_ | refine aaV ?_ | refine aaW ?_ ?_ | refine aaZ ?_ ?_ | refine aaP ?_)) : p := h
theorem aiY {n k : Nat} (h : (aa3 n).length ≤ k) : (mag n).length ≤ k := by
 rw [mag_length_le_iff]
 have h1 := afU n
 have h2 : (10 : Nat) ^ (aa3 n).length ≤ 10 ^ (9 * k) := zU zc zc
 have h3 : (10 : Nat) ^ (9 * k) = 1000000000 ^ k := by rw [xi]
 omega
theorem ai1 {n k : Nat} (h : (mag n).length ≤ k) : (aa3 n).length ≤ 9 * k + 1 := by
 rw [mag_length_le_iff] at h
 have h3 : (10 : Nat) ^ (9 * k) = 1000000000 ^ k := by rw [xi]
 have h4 : (10 : Nat) ^ (9 * k) ≤ 10 ^ (9 * k + 1) := zU zc zc
 exact acK zc
theorem aR7 {n : Nat} (h : (aa3 n).length ≤ 1000000) : Bd 0 n := aiY h
@[reducible] def sg (z : Int) : List Int × Bool × Unit := (mag z.natAbs, decide (z < 0), ())
theorem apF {a b : Int} (h : sg a = sg b) : a = b := by
 obtain ⟨h1, h2⟩ := Prod.mk.inj h
 obtain ⟨h2, -⟩ := Prod.mk.inj h2
 have := adO h1
 simp only [decide_eq_decide] at h2
 omega
@[reducible] def rt (q : Rat) : (List Int × Bool × Unit) × List Int × Unit := (sg q.num, mag q.den, ())
theorem az6 {a b : Rat} (h : rt a = rt b) : a = b := by
 obtain ⟨h1, h2⟩ := Prod.mk.inj h
 obtain ⟨h2, -⟩ := Prod.mk.inj h2
 exact Rat.ext (apF h1) (adO h2)
@[reducible] def fx (q : Rat) : List UInt8 × List UInt8 × Unit := (dec q.num, aa3 q.den, ())
theorem anX {a b : Rat} (h : fx a = fx b) : a = b := by
 obtain ⟨h1, h2⟩ := Prod.mk.inj h
 obtain ⟨h2, -⟩ := Prod.mk.inj h2
 exact Rat.ext (akP h1) (aiJ h2)
def Fit (z : Int) : Prop := (aa3 z.natAbs).length ≤ 600
instance (z : Int) : Decidable (Fit z) := inferInstanceAs (Decidable (_ ≤ _))
def adK (q : Rat) : Prop := Fit q.num ∧ Fit q.den
instance (q : Rat) : Decidable (adK q) := inferInstanceAs (Decidable (_ ∧ _))
theorem al9 {z : Int} (h : Fit z) : Bd 0 z.natAbs := aR7 (zC h zc)
noncomputable def rdW (s : List UInt8) : Option Int := open Classical in if h : ∃ z : Int, Fit z ∧ dec z = s then some h.choose else none
theorem alP {z : Int} (h : Fit z) : rdW (dec z) = some z := by
 have hex : ∃ w : Int, Fit w ∧ dec w = dec z := ⟨z, h, rfl⟩
 unfold rdW
 rw [dif_pos hex, akP hex.choose_spec.2]
theorem aeL {s : List UInt8} {z : Int} (h : rdW s = some z) : Fit z ∧ s = dec z := by
 unfold rdW at h
 split at h
 ·rename_i hex
  injection h with h
  subst h
  exact ⟨hex.choose_spec.1, hex.choose_spec.2.symm⟩
 ·cases h
theorem aHB {s : List UInt8} (h : ∀ z : Int, Fit z → dec z ≠ s) : rdW s = none := by
 unfold rdW
 rw [dif_neg (fun ⟨z, h1, h2⟩ => h z h1 h2)]
noncomputable def rdF (s : List UInt8 × List UInt8 × Unit) : Option Rat := open Classical in if h : ∃ q : Rat, adK q ∧ fx q = s then some h.choose else none
theorem ae7 {q : Rat} (h : adK q) : rdF (fx q) = some q := by
 have hex : ∃ w : Rat, adK w ∧ fx w = fx q := ⟨q, h, rfl⟩
 unfold rdF
 rw [dif_pos hex, anX hex.choose_spec.2]
theorem ah7 {s : List UInt8 × List UInt8 × Unit} {q : Rat} (h : rdF s = some q) : adK q ∧ s = fx q := by
 unfold rdF at h
 split at h
 ·rename_i hex
  injection h with h
  subst h
  exact ⟨hex.choose_spec.1, hex.choose_spec.2.symm⟩
 ·cases h
theorem aBE {s : List UInt8 × List UInt8 × Unit} (h : ∀ q : Rat, adK q → fx q ≠ s) : rdF s = none := by
 unfold rdF
 rw [dif_neg (fun ⟨z, h1, h2⟩ => h z h1 h2)]
def wrW (z : Int) : List UInt8 × Int × Unit := if Fit z then (dec z, 0, ()) else ([], 6, ())
def wrF (q : Rat) : (List UInt8 × List UInt8 × Unit) × Int × Unit := if adK q then (fx q, 0, ()) else (([], [], ()), 6, ())
def abY (x : List UInt8 × List UInt8 × Unit) : Option (List UInt8 × Bool × Unit) := some (if x.2.1.isPrefixOf x.1 then (x.1.drop x.2.1.length, true, ()) else (x.1, false, ()))
theorem arE (n : Nat) : ac9 (mag n, ()) = some (decide (n = 0), ()) := by
 unfold ac9
 rcases zE n with h | h
 ·subst h; simp [mag_zero, len]
 ·have : (mag n) ≠ [] := fun h2 => by have := mag_nil_iff.1 h2; omega
  have h3 : (mag n).length ≠ 0 := fun h2 => this (zV.1 h2)
  have : (len (mag n) == 0) = false := by rw [aaC, beq_eq_false_iff_ne]; omega
  rw [this, zn zc]
theorem auH {a b : Nat} (h1 : Bd 8 a) (h2 : Bd 8 b) : adS (mag a, mag b, ()) = some (auC a b, ()) := aaI (enc := fun p : Nat × Nat => (mag p.1, mag p.2, ())) (a, b) ⟨zC h1 zf, zC h2 zf⟩ (fun b hb => adF hb)
theorem aFf {a b : Nat} (h1 : Bd 8 a) (h2 : Bd 8 b) : amH (mag a, mag b, ()) = some (mag (a + b), ()) := aaI (enc := fun p : Nat × Nat => (mag p.1, mag p.2, ())) (a, b) ⟨zC h1 zf, zC h2 zf⟩ (fun b hb => adF hb)
theorem aBg {a b : Nat} (h1 : Bd 8 a) (h2 : b ≤ a) : ajZ (mag a, mag b, ()) = some (mag (a - b), ()) := aaI (enc := fun p : Nat × Nat => (mag p.1, mag p.2, ())) (a, b) ⟨zC h1 zf, h2⟩ (fun b hb => adF hb)
theorem ahB {a b : Nat} (h1 : Bd 8 a) (h2 : Bd 8 b) : acD (mag a, mag b, ()) = some (mag (a * b), ()) := aaI (enc := fun p : Nat × Nat => (mag p.1, mag p.2, ())) (a, b) ⟨zC h1 zf, zC h2 zf⟩ (fun b hb => adF hb)
theorem aCT {n : Nat} (h : n < 18446744073709551616) : abO ((n : Int), ()) = some (mag n, ()) := by
 unfold abO
 rw [if_pos zm]
 simp
theorem aKG {n : Nat} (h : Bd 8 n) : ahA (aa3 n, ()) = some (mag n, ()) := by
 unfold ahA
 have hl : (aa3 n).length ≤ 1000000000000 :=  zC (ai1 h) zf
 rw [if_pos ⟨akQ n, aeR n, hl⟩]
 simp only [amZ]
theorem ay1 {n : Nat} (h : Bd 8 n) : ah2 (mag n, ()) = some (((aa3 n).length : Int), ()) := aaI (enc := fun n : Nat => (mag n, ())) n (zC h zf) (fun b hb => adO (Prod.mk.inj hb).1)
theorem ao5 {n : Nat} (h : Bd 0 n) : ah3 (mag n, ()) = some (aa3 n, ()) := aaI (enc := fun n : Nat => (mag n, ())) n (zC h zf) (fun b hb => adO (Prod.mk.inj hb).1)
theorem ab6 {a b : Nat} (h1 : Bd 8 a) (h2 : Bd 8 b) (h3 : b ≠ 0) : abC (mag a, mag b, ()) = some (mag (a / b), mag (a % b), ()) := aaI (enc := fun p : Nat × Nat => (mag p.1, mag p.2, ())) (a, b) ⟨zC h1 zf, zC h2 zf, h3⟩ (fun b hb => adF hb)
theorem anN {a b : Nat} (h1 : Bd 8 a) (h2 : Bd 8 b) : ag4 (mag a, mag b, ()) = some (mag (Nat.gcd a b), ()) := aaI (enc := fun p : Nat × Nat => (mag p.1, mag p.2, ())) (a, b) ⟨zC h1 zf, zC h2 zf⟩ (fun b hb => adF hb)
theorem ayS (n : Nat) : ahY (mag n, ()) = some (decide (n = 0), ()) := by
 unfold ahY
 rcases zE n with h | h
 ·subst h; simp [mag_zero, len]
 ·have : (mag n) ≠ [] := fun h2 => by have := mag_nil_iff.1 h2; omega
  have h3 : (mag n).length ≠ 0 := fun h2 => this (zV.1 h2)
  have : (len (mag n) == 0) = false := by rw [aaC, beq_eq_false_iff_ne]; omega
  rw [this, zn zc]
theorem aFb {a b : Nat} (h1 : Bd 8 a) (h2 : Bd 8 b) : amE (mag a, mag b, ()) = some (auC a b, ()) := aaI (enc := fun p : Nat × Nat => (mag p.1, mag p.2, ())) (a, b) ⟨zC h1 zf, zC h2 zf⟩ (fun b hb => adF hb)
theorem aFa {a b : Nat} (h1 : Bd 8 a) (h2 : Bd 8 b) : aqU (mag a, mag b, ()) = some (mag (a + b), ()) := aaI (enc := fun p : Nat × Nat => (mag p.1, mag p.2, ())) (a, b) ⟨zC h1 zf, zC h2 zf⟩ (fun b hb => adF hb)
theorem aKB {a b : Nat} (h1 : Bd 8 a) (h2 : b ≤ a) : as4 (mag a, mag b, ()) = some (mag (a - b), ()) := aaI (enc := fun p : Nat × Nat => (mag p.1, mag p.2, ())) (a, b) ⟨zC h1 zf, h2⟩ (fun b hb => adF hb)
theorem atA {a b : Nat} (h1 : Bd 8 a) (h2 : Bd 8 b) : ajO (mag a, mag b, ()) = some (mag (a * b), ()) := aaI (enc := fun p : Nat × Nat => (mag p.1, mag p.2, ())) (a, b) ⟨zC h1 zf, zC h2 zf⟩ (fun b hb => adF hb)
theorem aKA {a d : Nat} (h1 : Bd 8 a) (h2 : 0 < d) (h3 : d < 4294967296) : as3 (mag a, (d : Int), ()) = some (mag (a / d), ((a % d : Nat) : Int), ()) := by
 refine aaI (enc := fun p : Nat × Nat => (mag p.1, (p.2 : Int), ())) (a, d) ⟨zC h1 zf, h2, h3⟩ (fun b hb => ?_)
 obtain ⟨e1, e2⟩ := Prod.mk.inj hb
 obtain ⟨e2, -⟩ := Prod.mk.inj e2
 exact Prod.ext (adO e1) (Int.ofNat.inj e2)
theorem aCQ {n : Nat} (h : n < 18446744073709551616) : ag3 ((n : Int), ()) = some (mag n, ()) := by
 unfold ag3
 rw [if_pos zm]
 simp
theorem ayT {n : Nat} (h : Bd 8 n) : akY (mag n, ()) = some (((aa3 n).length : Int), ()) := aaI (enc := fun n : Nat => (mag n, ())) n (zC h zf) (fun b hb => adO (Prod.mk.inj hb).1)
theorem ayV {n : Nat} (h : Bd 0 n) : ak0 (mag n, ()) = some (aa3 n, ()) := aaI (enc := fun n : Nat => (mag n, ())) n (zC h zf) (fun b hb => adO (Prod.mk.inj hb).1)
theorem ayU {a b : Nat} (h1 : Bd 8 a) (h2 : Bd 8 b) (h3 : b ≠ 0) : akZ (mag a, mag b, ()) = some (mag (a / b), mag (a % b), ()) := aaI (enc := fun p : Nat × Nat => (mag p.1, mag p.2, ())) (a, b) ⟨zC h1 zf, zC h2 zf, h3⟩ (fun b hb => adF hb)
abbrev SgT := List Int × Bool × Unit
abbrev RtT := (List Int × Bool × Unit) × List Int × Unit
abbrev FxT := List UInt8 × List UInt8 × Unit
def BdQ (k : Nat) (q : Rat) : Prop := Bd k q.num.natAbs ∧ Bd k q.den
def auZ (p q : Rat) : Int := if p < q then -1 else if p = q then 0 else 1
def fl (q : Rat) : Int := q.num / q.den
def apU (q : Rat) (s : Nat) : Int := fl (q * (s : Rat) + mkRat 1 2)
def ofQ (n d : Int) : FxT × Int × Unit := if d = 0 then (([], [], ()), 7, ()) else wrF (Rat.divInt n d)
def aa8 (z : Int) : Prop := -9223372036854775808 ≤ z ∧ z ≤ 9223372036854775807
instance (z : Int) : Decidable (aa8 z) := inferInstanceAs (Decidable (_ ∧ _))
def aa9 (x : List Int × Bool × Unit) : Option (SgT × Unit) := some ((x.1, x.2.1 && !(len x.1 == 0), ()), ())
def aiM (x : List Int × Bool × Unit) : Option (SgT × Unit) := some ((x.1, x.2.1 && !(len x.1 == 0), ()), ())
noncomputable def afK : SgT × Unit → Option (SgT × Unit) := ac4 (fun x : Int => (sg x, ())) (fun x => Bd 8 x.natAbs) (fun x => (sg (-x), ()))
noncomputable def aj1 : SgT × Unit → Option (Int × Unit) := ac4 (fun x : Int => (sg x, ())) (fun x => Bd 8 x.natAbs) (fun x => (x.sign, ()))
noncomputable def anL : SgT × SgT × Unit → Option (SgT × Unit) := ac4 (fun x : Int × Int => (sg x.1, sg x.2, ())) (fun x => Bd 7 x.1.natAbs ∧ Bd 7 x.2.natAbs) (fun x => (sg (x.1 + x.2), ()))
noncomputable def aqS : SgT × Unit → Option (SgT × Unit) := ac4 (fun x : Int => (sg x, ())) (fun x => Bd 8 x.natAbs) (fun x => (sg (-x), ()))
noncomputable def aIk : SgT × SgT × Unit → Option (SgT × Unit) := ac4 (fun x : Int × Int => (sg x.1, sg x.2, ())) (fun x => Bd 7 x.1.natAbs ∧ Bd 7 x.2.natAbs) (fun x => (sg (x.1 + x.2), ()))
noncomputable def ayL : SgT × SgT × Unit → Option (SgT × Unit) := ac4 (fun x : Int × Int => (sg x.1, sg x.2, ())) (fun x => Bd 7 x.1.natAbs ∧ Bd 7 x.2.natAbs) (fun x => (sg (x.1 - x.2), ()))
noncomputable def aiL : SgT × SgT × Unit → Option (SgT × Unit) := ac4 (fun x : Int × Int => (sg x.1, sg x.2, ())) (fun x => Bd 7 x.1.natAbs ∧ Bd 7 x.2.natAbs) (fun x => (sg (x.1 * x.2), ()))
noncomputable def aj0 : SgT × Unit → Option (List UInt8 × Unit) := ac4 (fun x : Int => (sg x, ())) (fun x => Bd 0 x.natAbs) (fun x => (dec x, ()))
noncomputable def adT : SgT × List Int × Unit → Option (SgT × Unit) := ac4 (fun x : Int × Nat => (sg x.1, mag x.2, ())) (fun x => Bd 7 x.1.natAbs ∧ Bd 7 x.2) (fun x => (sg (x.1 * x.2), ()))
noncomputable def aj2 : SgT × List Int × Unit → Option (SgT × Unit) := ac4 (fun x : Int × Nat => (sg x.1, mag x.2, ())) (fun x => Bd 7 x.1.natAbs ∧ Bd 7 x.2 ∧ x.2 ≠ 0) (fun x => (sg (x.1 / x.2), ()))
noncomputable def af4 : List UInt8 × Unit → Option (SgT × Unit) := ac4 (fun x : Int => (dec x, ())) (fun x => Bd 7 x.natAbs) (fun x => (sg x, ()))
noncomputable def afG (x : List UInt8 × Unit) : Option (SgT × Bool × Unit) := some (match rdW x.1 with | some z => (sg z, true, ()) | none => (([], false, ()), false, ()))
noncomputable def afI (x : List UInt8 × Unit) : Option (Int × Unit) := some (if (rdW x.1).isSome then 0 else 10, ())
noncomputable def afH (x : List UInt8 × List UInt8 × Unit) : Option (SgT × SgT × Int × Unit) := some (match rdW x.1, rdW x.2.1 with | some z, some w => (sg z, sg w, 0, ()) | _, _ => (([], false, ()), ([], false, ()), 10, ()))
noncomputable def acX : SgT × Unit → Option (List UInt8 × Int × Unit) := ac4 (fun x : Int => (sg x, ())) (fun x => Bd 8 x.natAbs) (fun x => wrW x)
noncomputable def aeZ : RtT × Unit → Option (FxT × Int × Unit) := ac4 (fun x : Rat => (rt x, ())) (fun x => BdQ 8 x) (fun x => wrF x)
noncomputable def ak3 : SgT × List Int × Unit → Option (RtT × Unit) := ac4 (fun x : Int × Nat => (sg x.1, mag x.2, ())) (fun x => Bd 7 x.1.natAbs ∧ Bd 7 x.2 ∧ x.2 ≠ 0) (fun x => (rt (mkRat x.1 x.2), ()))
noncomputable def aiN : RtT × Unit → Option (RtT × Unit) := ac4 (fun x : Rat => (rt x, ())) (fun x => BdQ 7 x) (fun x => (rt (-x), ()))
noncomputable def aiO : RtT × Unit → Option (RtT × Unit) := ac4 (fun x : Rat => (rt x, ())) (fun x => BdQ 7 x ∧ x ≠ 0) (fun x => (rt x⁻¹, ()))
noncomputable def aq5 : RtT × RtT × Unit → Option (RtT × Unit) := ac4 (fun x : Rat × Rat => (rt x.1, rt x.2, ())) (fun x => BdQ 3 x.1 ∧ BdQ 3 x.2) (fun x => (rt (x.1 + x.2), ()))
noncomputable def avC : RtT × RtT × Unit → Option (RtT × Unit) := ac4 (fun x : Rat × Rat => (rt x.1, rt x.2, ())) (fun x => BdQ 3 x.1 ∧ BdQ 3 x.2) (fun x => (rt (x.1 - x.2), ()))
noncomputable def aq4 : RtT × RtT × Unit → Option (RtT × Unit) := ac4 (fun x : Rat × Rat => (rt x.1, rt x.2, ())) (fun x => BdQ 3 x.1 ∧ BdQ 3 x.2) (fun x => (rt (x.1 * x.2), ()))
noncomputable def anJ : RtT × RtT × Unit → Option (Int × Unit) := ac4 (fun x : Rat × Rat => (rt x.1, rt x.2, ())) (fun x => BdQ 3 x.1 ∧ BdQ 3 x.2) (fun x => (auZ x.1 x.2, ()))
noncomputable def aq3 : RtT × List Int × Unit → Option (SgT × Unit) := ac4 (fun x : Rat × Nat => (rt x.1, mag x.2, ())) (fun x => BdQ 1 x.1 ∧ Bd 1 x.2) (fun x => (sg (apU x.1 x.2), ()))
noncomputable def abN (x : FxT × Unit) : Option (RtT × Bool × Unit) := some (match rdF x.1 with | some q => (rt q, true, ()) | none => ((([], false, ()), [], ()), false, ()))
noncomputable def aq8 (x : FxT × Unit) : Option (Int × Unit) := some (if (rdF x.1).isSome then 0 else 20, ())
noncomputable def aq7 (x : List UInt8 × List UInt8 × Unit) : Option (FxT × Int × Unit) := some (match rdW x.1, rdW x.2.1 with | some n, some d => ofQ n d | _, _ => (([], [], ()), 10, ()))
noncomputable def amI (x : Int × Int × Unit) : Option (FxT × Int × Unit) := if aa8 x.1 ∧ aa8 x.2.1 then some (ofQ x.1 x.2.1) else none
noncomputable def aq6 (x : FxT × Unit) : Option (Int × Int × Unit) := some (match rdF x.1 with | some q => (q.num.sign, 0, ()) | none => (0, 20, ()))
noncomputable def ah4 (x : FxT × FxT × Unit) : Option (Int × Int × Unit) := some (match rdF x.1, rdF x.2.1 with | some p, some q => (auZ p q, 0, ()) | _, _ => (0, 20, ()))
noncomputable def aOf (f : Rat → Rat → Rat) (x : FxT × FxT × Unit) : FxT × Int × Unit := match rdF x.1, rdF x.2.1 with | some p, some q => wrF (f p q) | _, _ => (([], [], ()), 20, ())
noncomputable def adU (x : FxT × FxT × Unit) : Option (FxT × Int × Unit) := some (aOf (· + ·) x)
noncomputable def af5 (x : FxT × FxT × Unit) : Option (FxT × Int × Unit) := some (aOf (· - ·) x)
noncomputable def aeD (x : FxT × FxT × Unit) : Option (FxT × Int × Unit) := some (aOf (· * ·) x)
noncomputable def afL (x : FxT × FxT × Unit) : Option (FxT × Int × Unit) := some (match rdF x.1, rdF x.2.1 with | some p, some q => if q = 0 then (([], [], ()), 7, ()) else wrF (p / q) | _, _ => (([], [], ()), 20, ()))
noncomputable def aj3 (x : FxT × Unit) : Option (List UInt8 × Int × Unit) := some (match rdF x.1 with | some q => (dec (fl q), 0, ()) | none => ([], 20, ()))
noncomputable def ak4 (x : FxT × Int × Unit) : Option (Int × Int × Unit) := some (match rdF x.1 with | some q => if x.2.1 < 1 ∨ x.2.1 > 1000000000000 then (0, 2, ()) else if aa8 (apU q x.2.1.toNat) then (apU q x.2.1.toNat, 0, ()) else (0, 6, ()) | none => (0, 20, ()))
noncomputable def auG (x : Int × Unit) : Option (List UInt8 × Unit) := if aa8 x.1 then some (dec x.1, ()) else none
noncomputable def ak2 (x : List UInt8 × Unit) : Option (Int × Int × Unit) := some (match rdW x.1 with | some z => if aa8 z then (z, 0, ()) else (0, 6, ()) | none => (0, 10, ()))
noncomputable def as5 (x : List UInt8 × List UInt8 × Unit) : Option (List UInt8 × Int × Unit) := some (match rdW x.1, rdW x.2.1 with | some z, some w => wrW (z * w) | _, _ => ([], 10, ()))
noncomputable def as6 (x : List UInt8 × List UInt8 × Unit) : Option (List UInt8 × List UInt8 × Int × Unit) := some (match rdW x.1, rdW x.2.1 with | some z, some w => if w = 0 then ([], [], 7, ()) else (dec (z / w), dec (z % w), 0, ()) | _, _ => ([], [], 10, ()))
noncomputable def amF (x : List UInt8 × Int × Unit) : Option (List UInt8 × Int × Unit) := some (match rdW x.1 with | some z => if x.2.1 < 0 ∨ x.2.1 > 40 then ([], 2, ()) else wrW (z ^ x.2.1.toNat) | none => ([], 10, ()))
noncomputable def adR (k n : Nat) : Nat := open Classical in if h : ∃ r, r ^ k ≤ n ∧ n < (r + 1) ^ k then h.choose else 0
noncomputable def aqV (x : List UInt8 × Int × Unit) : Option (List UInt8 × Int × Unit) := some (match rdW x.1 with | some z => if x.2.1 < 1 ∨ x.2.1 > 12 ∨ z < 0 then ([], 2, ()) else wrW (adR x.2.1.toNat z.natAbs) | none => ([], 10, ()))
noncomputable def ak1 : Int × Unit → Option (List Int × Unit) := ac4 (fun x : Nat => ((x : Int), ())) (fun x => x ≤ 100000000) (fun x => (mag (10 ^ x), ()))
noncomputable def ajP : List Int × Int × Unit → Option (List Int × Unit) := ac4 (fun x : Nat × Nat => (mag x.1, (x.2 : Int), ())) (fun x => Bd 2 x.1 ∧ x.2 ≤ 40) (fun x => (mag (x.1 ^ x.2), ()))
noncomputable def aqT : List Int × Int × Unit → Option (List Int × Unit) := ac4 (fun x : Nat × Nat => (mag x.1, (x.2 : Int), ())) (fun x => Bd 0 x.1 ∧ 1 ≤ x.2 ∧ x.2 ≤ 12) (fun x => (mag (adR x.2 x.1), ()))
noncomputable def aN3 : List UInt8 × Unit → Option (Int × Bool × Unit) := ac4 (fun z : Int => (dec z, ())) aa8 (fun z => (z, false, ()))
theorem aSe {z : Int} (h : aa8 z) : aN3 (dec z, ()) = some (z, false, ()) := aaI (enc := fun z : Int => (dec z, ())) z h (fun b hb => akP (Prod.mk.inj hb).1)
open Classical in
noncomputable def aN2 : List UInt8 × Int × Int × Unit → Option (Int × Bool × Unit) := ac4 (fun z : Int => (dec z, 10, 64, ())) (fun z => (dec z).length ≤ 1000000000) (fun z => if aa8 z then (z, false, ()) else (if z < 0 then -9223372036854775808 else 9223372036854775807, true, ()))
open Classical in
theorem aSc {z : Int} (h : (dec z).length ≤ 1000000000) : aN2 (dec z, 10, 64, ()) = some (if aa8 z then (z, false, ()) else (if z < 0 then -9223372036854775808 else 9223372036854775807, true, ())) :=
 aaI (enc := fun z : Int => (dec z, (10 : Int), (64 : Int), ())) z h (fun b hb => akP (Prod.mk.inj hb).1)
theorem aQS (s : List UInt8) (a : Nat) : a ≤ azA a s := by
 rw [aMe]
 have := Nat.le_mul_of_pos_right a (show 0 < 10 ^ s.length from yS zc)
 omega
theorem az1 : ∀ {s : List UInt8} {a : Nat}, isD s → a < 18446744073709551616 → Lib.parseUint10 a s = if azA a s < 18446744073709551616 then .ok (azA a s) else .range
 | [], a, _, ha => by
  rw [show azA a [] = a from rfl, if_pos ha]
  rfl
 | c :: s, a, h, ha => by
  have hc := h c zi
  have hs : isD s := fun d hd => h d (by simp [hd])
  have hge := aQS s (a * 10 + dv c)
  rw [agL]
  simp only [Lib.parseUint10]
  rw [if_pos hc]
  have hdv : dv c = c.toNat - 48 := rfl
  by_cases h1 : 1844674407370955162 ≤ a
  ·rw [if_pos h1, if_neg zc]
  ·rw [if_neg h1]
   by_cases h2 : 18446744073709551616 ≤ a * 10 + (c.toNat - 48)
   ·rw [if_pos h2, if_neg zc]
   ·rw [if_neg h2]
    exact az1 hs zc
theorem apK (n : Nat) : Lib.parseMag (aa3 n) = if n < 18446744073709551616 then .ok n else .range := by
 unfold Lib.parseMag
 rw [if_neg (aeR n), az1 (akQ n) zc]
 have : azA 0 (aa3 n) = n := amZ n
 rw [this]
theorem aNi (n : Nat) : ∃ c r, aa3 n = c :: r ∧ 48 ≤ c.toNat ∧ c.toNat ≤ 57 := by
 cases h : aa3 n with
 | nil => exact absurd h (aeR n)
 | cons c r => exact ⟨c, r, rfl, akQ n c (by rw [h]; simp)⟩
open Classical in
theorem aCM (z : Int) : Lib.atoiAll (dec z) = if aa8 z then .ok z else .range := by
 unfold dec
 by_cases hz : z < 0
 ·rw [if_pos hz]
  rw [Lib.atoiAll_minus, apK]
  by_cases h1 : z.natAbs < 18446744073709551616
  ·rw [if_pos h1]
   simp only [Lib.signed]
   by_cases h2 : 9223372036854775808 < z.natAbs
   ·rw [if_pos h2, if_neg (fun h => by have := h.1; omega)]
   ·rw [if_neg h2, if_pos ⟨by omega, by omega⟩]
    congr 1
    omega
  ·rw [if_neg h1, if_neg (fun h => by have := h.1; omega)]
   rfl
 ·rw [if_neg hz]
  obtain ⟨c, r, e, c1, c2⟩ := aNi z.natAbs
  have hp := apK z.natAbs
  rw [e] at hp ⊢
  rw [Lib.atoiAll_plain _ _ zc zc, hp]
  by_cases h1 : z.natAbs < 18446744073709551616
  ·rw [if_pos h1]
   simp only [Lib.signless]
   by_cases h2 : 9223372036854775808 ≤ z.natAbs
   ·rw [if_pos h2, if_neg (fun h => by have := h.2; omega)]
   ·rw [if_neg h2, if_pos ⟨by omega, by omega⟩]
    congr 1
    omega
  ·rw [if_neg h1, if_neg (fun h => by have := h.2; omega)]
   rfl
theorem aHf (z : Int) : Lib.atoiSat (dec z) = if z < 0 then -9223372036854775808 else 9223372036854775807 := by
 unfold dec Lib.atoiSat
 by_cases hz : z < 0
 ·rw [if_pos hz, if_pos hz]
  exact if_pos rfl
 ·rw [if_neg hz, if_neg hz]
  obtain ⟨c, r, e, c1, c2⟩ := aNi z.natAbs
  rw [e, if_neg]
  simp only [vk, wG, Option.some.injEq]
  omega
theorem aPr (z : Int) : Lib.itoa z = dec z := by
 unfold Lib.itoa dec aa3
 by_cases hz : z < 0
 ·rw [if_pos hz, if_pos hz]
 ·rw [if_neg hz, if_neg hz]
  congr 1
  omega
theorem avX (s : List UInt8) : ∀ n, Lib.repeatL s n = (List.replicate n s).flatten
 | 0 => rfl
 | n + 1 => by rw [Lib.repeatL, avX s n, xr, List.flatten_cons]
end Go.Vs
namespace Go.Vg
abbrev TT.tt {α : Type} (x : TT α) : TT α := .triv (true = true) rfl x
abbrev TT.tr {α : Type} (x : TT α) : TT α := .triv True trivial x
abbrev TT.vT {α : Type} (p : Prop) (x : TT α) (h : p := by repeat' constructor) : TT α := .triv p h x
end Go.Vg
namespace Go.Vs
open Go Go.Vg
abbrev Qq {α : Sort _} (x : α) : Prop := x = x
theorem tv {p : Prop} (h : p := by repeat' constructor) : p := h
abbrev uc {α₁ : Sort _} (a : α₁) : Prop := Qq a ∧ True
abbrev uf {α₁ α₂ : Sort _} (a : α₁) (b : α₂) : Prop := Qq a ∧ Qq b ∧ True
abbrev vW {α₁ α₂ α₃ : Sort _} (a : α₁) (b : α₂) (c : α₃) : Prop := Qq a ∧ Qq b ∧ Qq c ∧ True
abbrev vV {α₁ α₂ α₃ α₄ : Sort _} (a : α₁) (b : α₂) (c : α₃) (d : α₄) : Prop := Qq a ∧ Qq b ∧ Qq c ∧ Qq d ∧ True
abbrev vX {α₁ α₂ : Sort _} (a : α₁) (b : α₂) : Prop := Qq a ∧ Qq b
abbrev uh {α₁ α₂ α₃ : Sort _} (a : α₁) (b : α₂) (c : α₃) : Prop := Qq a ∧ Qq b ∧ Qq c
abbrev vY {α₁ α₂ α₃ α₄ : Sort _} (a : α₁) (b : α₂) (c : α₃) (d : α₄) : Prop := Qq a ∧ Qq b ∧ Qq c ∧ Qq d
abbrev vU {α₁ : Sort _} (a : α₁) (R : Prop) : Prop := Qq a ∧ R
abbrev ua {α₁ α₂ : Sort _} (a : α₁) (b : α₂) (R : Prop) : Prop := Qq a ∧ Qq b ∧ R
abbrev ue {α₁ α₂ α₃ : Sort _} (a : α₁) (b : α₂) (c : α₃) (R : Prop) : Prop := Qq a ∧ Qq b ∧ Qq c ∧ R
abbrev ub {α₁ α₂ α₃ α₄ : Sort _} (a : α₁) (b : α₂) (c : α₃) (d : α₄) (R : Prop) : Prop := Qq a ∧ Qq b ∧ Qq c ∧ Qq d ∧ R
abbrev vZ {α₁ α₂ α₃ α₄ α₅ : Sort _} (a : α₁) (b : α₂) (c : α₃) (d : α₄) (e : α₅) (R : Prop) : Prop := Qq a ∧ Qq b ∧ Qq c ∧ Qq d ∧ Qq e ∧ R
abbrev ui {α₁ α₂ α₃ α₄ α₅ α₆ : Sort _} (a : α₁) (b : α₂) (c : α₃) (d : α₄) (e : α₅) (f : α₆) (R : Prop) : Prop := Qq a ∧ Qq b ∧ Qq c ∧ Qq d ∧ Qq e ∧ Qq f ∧ R
abbrev ug {α₁ α₂ α₃ α₄ α₅ α₆ α₇ : Sort _} (a : α₁) (b : α₂) (c : α₃) (d : α₄) (e : α₅) (f : α₆) (g : α₇) (R : Prop) : Prop := Qq a ∧ Qq b ∧ Qq c ∧ Qq d ∧ Qq e ∧ Qq f ∧ Qq g ∧ R
abbrev ud {α₁ α₂ α₃ α₄ α₅ α₆ α₇ α₈ : Sort _} (a : α₁) (b : α₂) (c : α₃) (d : α₄) (e : α₅) (f : α₆) (g : α₇) (h : α₈) (R : Prop) : Prop := Qq a ∧ Qq b ∧ Qq c ∧ Qq d ∧ Qq e ∧ Qq f ∧ Qq g ∧ Qq h ∧ R
abbrev vS (a R : Prop) : Prop := a ∧ Qq true ∧ R
abbrev uq : Prop := uh 0 0 true
abbrev ur : Prop := vW 53 (0 : Int) (0 : Int)
abbrev uy : Prop := uh 1 0 true
abbrev uz : Prop := ua 83 false <| True ∧ True
abbrev uD : Prop := uh 3 0 true
abbrev uE : Prop := ua 42 (3 : Int) <| True ∧ (vY 11 0 1 true) ∧ True
abbrev uQ : Prop := uh 2 0 true
abbrev uY : Prop := uD ∧ uy ∧ uq ∧ True
abbrev tb : Prop := uh 4 0 true
abbrev tl : Prop := ua 42 (2 : Int) <| True ∧ True ∧ True
abbrev tz : Prop := vY 4 0 1 true
abbrev tG : Prop := vX 11 true
abbrev tJ : Prop := uh 7 0 true
abbrev tN : Prop := uf 48 (0 : Int)
abbrev tO : Prop := vS (vU 212 <| True ∧ uc false) True
abbrev tR : Prop := (uh 15 0 true) ∧ (tb ∧ (vU (0 : Int) <| uQ ∧ True))
abbrev sa : Prop := vY 5 0 1 true
abbrev se : Prop := vS uz True
abbrev sf : Prop := vU 169 <| True ∧ True
abbrev Dd0 := Ty.dflt tV
abbrev Dd1 := Ty.dflt uU
abbrev Dd2 := Ty.dflt (Ty.pair Ty.str Ty.unit)
abbrev Dd3 := Ty.dflt (Ty.pair uJ Ty.unit)
abbrev Dd4 := Ty.dflt (Ty.pair uZ tV)
abbrev Dd5 := Ty.dflt (Ty.pair tQ Ty.unit)
abbrev Dd6 := Ty.dflt uM
abbrev Dd7 := Ty.dflt (Ty.pair Ty.str uU)
abbrev Dd8 := Ty.dflt (Ty.pair (Ty.pair tQ tV) Ty.unit)
abbrev Dd9 := Ty.dflt (Ty.pair tQ uU)
abbrev aSL := Ty.dflt (Ty.pair tQ (Ty.pair tQ uM))
abbrev aHn := Ty.dflt (Ty.pair Ty.str uM)
abbrev aSC := Ty.dflt (Ty.pair uZ (Ty.pair un Ty.unit))
abbrev aIw := Ty.dflt (Ty.pair (Ty.pair tQ tV) uU)
abbrev afR := Ty.dflt (Ty.pair tg uM)
abbrev aFj := Ty.dflt tH
abbrev atE := Ty.dflt (Ty.pair tH uM)
abbrev aSK := Ty.dflt (Ty.pair Ty.str (Ty.pair Ty.bool uM))
abbrev aST := Ty.dflt (Ty.pair Ty.str (Ty.pair Ty.str uM))
abbrev ae4 := Ty.dflt (Ty.pair tg Ty.unit)
abbrev aFl := Ty.dflt (Ty.pair tT Ty.unit)
abbrev alG := Ty.dflt (Ty.pair uX Ty.unit)
abbrev aSS := Ty.dflt (Ty.pair tT uM)
abbrev aSJ := Ty.dflt (Ty.pair tT (Ty.pair tT Ty.unit))
abbrev aSj := Ty.dflt (Ty.pair uX (Ty.pair uX Ty.unit))
abbrev aOh := Ty.dflt (Ty.pair (Ty.pair uX (Ty.pair uX Ty.unit)) Ty.unit)
abbrev aOc := Ty.dflt (Ty.pair (Ty.pair uk (Ty.pair tT (Ty.pair (Ty.sl tZ) Ty.unit))) Ty.unit)
abbrev aSR := Ty.dflt (Ty.pair Ty.bool uM)
abbrev aSI := Ty.dflt (Ty.pair uk uU)
theorem aQd {q : Rat} {n : Int} {D : Nat} (nz : D ≠ 0) (c : n.natAbs.Coprime D) (h : q = mkRat n D) : q.num = n ∧ q.den = D := by
 rw [h, ← Rat.mk_eq_mkRat n D nz c]; exact ⟨rfl, rfl⟩
theorem aJ7 {a b : Nat} (h : ∀ k, k ∣ a → k ∣ b → k = 1) : a.Coprime b := h _ (xO a b) (xL a b)
theorem aNl {n1 n2 : Int} {b' d' b : Nat} (h1 : n1.natAbs.Coprime b) (hb : b' ∣ b) (h3 : b'.Coprime d') : (n1 * d' + n2 * b').natAbs.Coprime b' := by
 refine aJ7 fun k hk hkb => ?_
 have e1 : (k : Int) ∣ n1 * d' + n2 * b' := xR.2 hk
 have e2 : (k : Int) ∣ n2 * b' := Int.dvd_trans (Int.natCast_dvd_natCast.2 hkb) (Int.dvd_mul_left _ _)
 have e3 : (k : Int) ∣ n1 * d' := by
  have := Int.dvd_sub e1 e2
  rwa [Int.add_sub_cancel] at this
 have e4 : k ∣ n1.natAbs * d' := by
  have := xR.1 e3
  rwa [yy] at this
 have e5 : k.Coprime d' := Nat.Coprime.coprime_dvd_left hkb h3
 have e6 := Nat.Coprime.dvd_of_dvd_mul_right e5 e4
 exact Nat.Coprime.eq_one_of_dvd (Nat.Coprime.coprime_dvd_left e6 h1) (Nat.dvd_trans hkb hb)
theorem aE6 (p q : Rat) : ∃ g h : Nat, ∃ top t : Int, g = Nat.gcd p.den q.den ∧ top = p.num * (q.den / g : Nat) + q.num * (p.den / g : Nat) ∧ h = Nat.gcd top.natAbs g ∧ g ≠ 0 ∧ h ≠ 0 ∧ top = h * t ∧ (p + q).num = t ∧ (p + q).den = (p.den / g) * (q.den / h) := by
 obtain ⟨g, hg⟩ : ∃ g, g = Nat.gcd p.den q.den := ⟨_, rfl⟩
 have g0 : 0 < g := by rw [hg]; exact Nat.gcd_pos_of_pos_left _ p.den_pos
 obtain ⟨b', hb⟩ : g ∣ p.den := hg ▸ xO _ _
 obtain ⟨d', hd⟩ : g ∣ q.den := hg ▸ xL _ _
 have hb' : p.den / g = b' := by rw [hb, yr _ g0]
 have hd' : q.den / g = d' := by rw [hd, yr _ g0]
 have hbd : b'.Coprime d' := by
  have := xS (m := p.den) (n := q.den) (by rw [← hg]; exact g0)
  rwa [← hg, hb', hd'] at this
 obtain ⟨top, ht⟩ : ∃ top : Int, top = p.num * (q.den / g : Nat) + q.num * (p.den / g : Nat) := ⟨_, rfl⟩
 obtain ⟨h, hh⟩ : ∃ h, h = Nat.gcd top.natAbs g := ⟨_, rfl⟩
 have h0 : 0 < h := by rw [hh]; exact wA _ g0
 obtain ⟨t, htt⟩ : (h : Int) ∣ top := xR.2 (hh ▸ xO _ _)
 obtain ⟨g', hg'⟩ : h ∣ g := hh ▸ xL _ _
 have c1 : top.natAbs.Coprime b' := by rw [ht, hb', hd']; exact aNl p.reduced ⟨g, by rw [hb, yH]⟩ hbd
 have c2 : top.natAbs.Coprime d' := by rw [ht, hb', hd', Int.add_comm]; exact aNl q.reduced ⟨g, by rw [hd, yH]⟩ hbd.symm
 have c3 : t.natAbs.Coprime g' := by
  have := xS (m := top.natAbs) (n := g) (by rw [← hh]; exact h0)
  rw [← hh, htt, yy, zM, yr _ h0] at this
  conv at this => rhs; rw [hg']
  rwa [yr _ h0] at this
 have ct : t.natAbs ∣ top.natAbs := by rw [htt, yy]; exact Nat.dvd_mul_left _ _
 have e : q.den / h = g' * d' := by rw [hd, hg', wE, yr _ h0]
 have hc : t.natAbs.Coprime (b' * (g' * d')) := Nat.Coprime.mul_right (Nat.Coprime.coprime_dvd_left ct c1) (Nat.Coprime.mul_right c3 (Nat.Coprime.coprime_dvd_left ct c2))
 have nb : b' ≠ 0 := by rintro rfl; exact p.den_nz (by rw [hb]; simp)
 have nd : d' ≠ 0 := by rintro rfl; exact q.den_nz (by rw [hd]; simp)
 have ng : g' ≠ 0 := by rintro rfl; simp at hg'; omega
 have nz : b' * (g' * d') ≠ 0 := xp nb (xp ng nd)
 have hv : p + q = mkRat t (b' * (g' * d')) := by
  rw [Rat.add_def', yc (xp p.den_nz q.den_nz) nz, hb, hd]
  rw [hb', hd', htt] at ht
  simp only [yq]
  have hgz : (g : Int) = h * g' := by rw [hg']; simp
  have e1 : (p.num * ((g : Int) * d') + q.num * ((g : Int) * b')) = (g : Int) * (h * t) := by rw [ht]; grind
  rw [e1, hgz]
  grind
 obtain ⟨r1, r2⟩ := aQd nz hc hv
 exact ⟨g, h, top, t, hg, ht, hh, by omega, by omega, htt, r1, by rw [r2, hb', e]⟩
theorem aD9 (p q : Rat) : ∃ g h : Nat, ∃ s t : Int, g = Nat.gcd p.num.natAbs q.den ∧ h = Nat.gcd q.num.natAbs p.den ∧ g ≠ 0 ∧ h ≠ 0 ∧ p.num = g * s ∧ q.num = h * t ∧ (p * q).num = s * t ∧ (p * q).den = (p.den / h) * (q.den / g) := by
 obtain ⟨g, hg⟩ : ∃ g, g = Nat.gcd p.num.natAbs q.den := ⟨_, rfl⟩
 obtain ⟨h, hh⟩ : ∃ h, h = Nat.gcd q.num.natAbs p.den := ⟨_, rfl⟩
 have g0 : 0 < g := by rw [hg]; exact wA _ q.den_pos
 have h0 : 0 < h := by rw [hh]; exact wA _ p.den_pos
 obtain ⟨s, hs⟩ : (g : Int) ∣ p.num := xR.2 (hg ▸ xO _ _)
 obtain ⟨t, ht⟩ : (h : Int) ∣ q.num := xR.2 (hh ▸ xO _ _)
 obtain ⟨d', hd⟩ : g ∣ q.den := hg ▸ xL _ _
 obtain ⟨b', hb⟩ : h ∣ p.den := hh ▸ xL _ _
 have hb' : p.den / h = b' := by rw [hb, yr _ h0]
 have hd' : q.den / g = d' := by rw [hd, yr _ g0]
 have as1 : p.num.natAbs / g = s.natAbs := by rw [hs, yy, zM, yr _ g0]
 have at' : q.num.natAbs / h = t.natAbs := by rw [ht, yy, zM, yr _ h0]
 have ds : s.natAbs ∣ p.num.natAbs := by rw [hs, yy]; exact Nat.dvd_mul_left _ _
 have dt : t.natAbs ∣ q.num.natAbs := by rw [ht, yy]; exact Nat.dvd_mul_left _ _
 have db : b' ∣ p.den := ⟨h, by rw [hb, yH]⟩
 have dd : d' ∣ q.den := ⟨g, by rw [hd, yH]⟩
 have c1 : s.natAbs.Coprime b' := Nat.Coprime.coprime_dvd_left ds (Nat.Coprime.coprime_dvd_right db p.reduced)
 have c2 : s.natAbs.Coprime d' := by
  have := xS (m := p.num.natAbs) (n := q.den) (by rw [← hg]; exact g0)
  rwa [← hg, as1, hd'] at this
 have c3 : t.natAbs.Coprime d' := Nat.Coprime.coprime_dvd_left dt (Nat.Coprime.coprime_dvd_right dd q.reduced)
 have c4 : t.natAbs.Coprime b' := by
  have := xS (m := q.num.natAbs) (n := p.den) (by rw [← hh]; exact h0)
  rwa [← hh, at', hb'] at this
 have hc : (s * t).natAbs.Coprime (b' * d') := by
  rw [yy]
  exact Nat.Coprime.mul_left (Nat.Coprime.mul_right c1 c2) (Nat.Coprime.mul_right c4 c3)
 have nb : b' ≠ 0 := by rintro rfl; exact p.den_nz (by rw [hb]; simp)
 have nd : d' ≠ 0 := by rintro rfl; exact q.den_nz (by rw [hd]; simp)
 have nz : b' * d' ≠ 0 := xp nb nd
 have hv : p * q = mkRat (s * t) (b' * d') := by
  rw [Rat.mul_def', yc (xp p.den_nz q.den_nz) nz, hs, ht]
  conv => lhs; rw [yq]
  rw [hb, hd]
  simp only [yq]
  grind
 obtain ⟨r1, r2⟩ := aQd nz hc hv
 exact ⟨g, h, s, t, hg, hh, by omega, by omega, hs, ht, r1, by rw [r2, hb', hd']⟩
theorem aeO (n : Int) {d : Nat} (hd : d ≠ 0) : ∃ g : Nat, ∃ t : Int, g = Nat.gcd n.natAbs d ∧ g ≠ 0 ∧ n = g * t ∧ (mkRat n d).num = t ∧ (mkRat n d).den = d / g := by
 obtain ⟨g, hg⟩ : ∃ g, g = Nat.gcd n.natAbs d := ⟨_, rfl⟩
 have g0 : 0 < g := by rw [hg]; exact wA _ zc
 obtain ⟨t, ht⟩ : (g : Int) ∣ n := xR.2 (hg ▸ xO _ _)
 refine ⟨g, t, hg, by omega, ht, ?_, ?_⟩
 ·rw [Rat.num_mkRat, if_neg hd, xI, ← hg, ht, Int.mul_ediv_cancel_left _ zc]
 ·rw [Rat.den_mkRat, if_neg hd, xI, ← hg]
theorem ap7 (n : Int) {d : Nat} (hd : d ≠ 0) : fl (mkRat n d) = n / d := by
 obtain ⟨g, t, hg, g0, hn, h1, h2⟩ := aeO n hd
 obtain ⟨d', hd'⟩ : g ∣ d := hg ▸ xL _ _
 have : d / g = d' := by rw [hd', yr _ zc]
 unfold fl
 rw [h1, h2, this, hn, hd', yq, Int.mul_ediv_mul_of_pos _ _ zc]
theorem aMk (q : Rat) (s : Nat) : apU q s = (q.num * (s * 2 : Nat) + q.den) / (q.den * 2 : Nat) := by
 unfold apU
 have h1 : (s : Rat) = mkRat s 1 := by
  have := Rat.mkRat_self (s : Rat)
  rw [Rat.num_natCast, Rat.den_natCast] at this
  exact this.symm
 have h2 : q * (s : Rat) + mkRat 1 2 = mkRat (q.num * (s * 2 : Nat) + q.den) (q.den * 2) := by
  conv => lhs; rw [h1, ← Rat.mkRat_self q]
  rw [yO, xu _ _ (by have := q.den_nz; omega) zc, xF, Int.one_mul]
  congr 1
  simp only [yq]
  grind
 rw [h2, ap7 _ (xp q.den_nz zc)]
theorem aLP (p q : Rat) : auZ p q = (p.num * q.den + -(q.num * p.den)).sign := by
 unfold auZ
 simp only [Rat.lt_iff, Rat.eq_iff_mul_eq_mul]
 split
 ·rename_i h; exact (xg zc).symm
 ·split
  ·rename_i h; rw [h, Int.add_right_neg]; rfl
  ·exact (xw zc).symm
theorem aQc (a b : List UInt8) : rdF (a, b, ()) = match rdW a, rdW b with
  | some n, some d => if h : 0 < d ∧ n.natAbs.Coprime d.natAbs then some ⟨n, d.natAbs, by omega, h.2⟩ else none
  | _, _ => none := by
 cases ha : rdW a with
 | none =>
  refine aBE fun q hq he => ?_
  obtain ⟨h1, -⟩ := Prod.mk.inj he
  rw [← h1, alP hq.1] at ha
  cases ha
 | some n =>
  obtain ⟨fa, rfl⟩ := aeL ha
  cases hb : rdW b with
  | none =>
   refine aBE fun q hq he => ?_
   obtain ⟨-, h1⟩ := Prod.mk.inj he
   obtain ⟨h1, -⟩ := Prod.mk.inj h1
   rw [← h1, ← aeA, alP hq.2] at hb
   cases hb
  | some d =>
   obtain ⟨fb, rfl⟩ := aeL hb
   simp only
   split
   ·rename_i h
    have e : (dec n, dec d, ()) = fx ⟨n, d.natAbs, by omega, h.2⟩ := by
     unfold fx
     rw [acC (z := d) zc]
    rw [e, ae7 ⟨fa, ?_⟩]
    unfold Fit at *
    simpa using fb
   ·rename_i h
    refine aBE fun q hq he => h ?_
    obtain ⟨h1, h2⟩ := Prod.mk.inj he
    obtain ⟨h2, -⟩ := Prod.mk.inj h2
    have e1 := akP h1
    have e2 : (q.den : Int) = d := akP (by rw [aeA]; exact h2)
    rw [← e1, ← e2]
    exact ⟨by have := q.den_pos; omega, q.reduced⟩
abbrev BdT := Int × Int × Unit
def okB (lo hi : Int) : Prop := -1000000000000000000 ≤ lo ∧ lo ≤ hi ∧ hi ≤ 1000000000000000000
instance (lo hi : Int) : Decidable (okB lo hi) := inferInstanceAs (Decidable (_ ∧ _))
def mkB (e lo hi : Int) : BdT × Int × Unit := if okB lo hi then ((lo, hi, ()), 0, ()) else ((0, 0, ()), e, ())
def adW (x : Int × Int × Unit) : Option (Bool × Unit) := some (decide (okB x.1 x.2.1), ())
def aiR (x : Int × Int × Unit) : Option (BdT × Int × Unit) := some (mkB 6 x.1 x.2.1)
def arB (x : BdT × Unit) : Option (Int × Unit) := some (if okB x.1.1 x.1.2.1 then 0 else 30, ())
def aIn (x : Int × Int × Unit) : Option (BdT × Int × Unit) := some (mkB 30 x.1 x.2.1)
def ayM (x : List Int × Unit) : Option (Int × Unit) := match x.1 with | [] => none | a :: l => if l.length ≤ 1000000000000 then some (l.foldl (fun m y => if y < m then y else m) a, ()) else none
def ayN (x : List Int × Unit) : Option (Int × Unit) := match x.1 with | [] => none | a :: l => if l.length ≤ 1000000000000 then some (l.foldl (fun m y => if y > m then y else m) a, ()) else none
def ayR (x : List Int × Unit) : Option (Int × Unit) := ayM x
def amK (x : List Int × Unit) : Option (Int × Unit) := ayN x
def acE : Rat := (1000000000000 : Nat)
def agJ (p q : Rat) : BdT × Int × Unit := mkB 6 (fl (p * acE)) (-fl (-(q * acE)))
noncomputable def agA (x : FxT × Unit) : Option (BdT × Int × Unit) := some (match rdF x.1 with | some q => agJ q q | none => ((0, 0, ()), 20, ()))
def aIj (a b : BdT) : BdT × Int × Unit := if okB a.1 a.2.1 ∧ okB b.1 b.2.1 then mkB 6 (a.1 + b.1) (a.2.1 + b.2.1) else ((0, 0, ()), 30, ())
def aQ1 (a b : BdT) : BdT × Int × Unit := if okB a.1 a.2.1 ∧ okB b.1 b.2.1 then ((min a.1 b.1, max a.2.1 b.2.1, ()), 0, ()) else ((0, 0, ()), 30, ())
def aAT (b : BdT) (lo hi : Int) : BdT × Int × Unit := if okB b.1 b.2.1 then (if okB lo hi then ((min (max b.1 lo) hi, min (max b.2.1 lo) hi, ()), 0, ()) else ((0, 0, ()), 2, ())) else ((0, 0, ()), 30, ())
def aHi (x : BdT × BdT × Unit) : Option (BdT × Int × Unit) := some (aIj x.1 x.2.1)
def arA (x : BdT × BdT × Unit) : Option (BdT × Int × Unit) := some (aQ1 x.1 x.2.1)
def aj5 (x : BdT × Int × Int × Unit) : Option (BdT × Int × Unit) := some (aAT x.1 x.2.1 x.2.2.1)
noncomputable def ah1 : Int × Unit → Option (List UInt8 × Unit) := ac4 (fun n : Nat => ((n : Int), ())) (fun n => n ≤ 1000) (fun n => (aa3 (10 ^ n), ()))
noncomputable def aq1 : List UInt8 × Int × Unit → Option (List UInt8 × Bool × Int × Unit) := ac4 (fun x : Nat × Nat => (aa3 x.1, (x.2 : Int), ())) (fun x => Fit x.1 ∧ 1 ≤ x.2 ∧ x.2 ≤ 12) (fun x => (aa3 (adR x.2 x.1), decide (adR x.2 x.1 ^ x.2 = x.1), 0, ()))
noncomputable def acL : List UInt8 × Bool × Unit → Option (Int × Int × Unit) := ac4 (fun x : Nat × Bool => (aa3 x.1, x.2, ())) (fun x => Fit x.1) (fun x => if x.1 > 1000000000000000000 then (0, 6, ()) else ((x.1 : Int) + (if x.2 then 1 else 0), 0, ()))
def okE (p q : Int) : Prop := 1 ≤ p ∧ p ≤ 36 ∧ 1 ≤ q ∧ q ≤ 12
instance (p q : Int) : Decidable (okE p q) := inferInstanceAs (Decidable (_ ∧ _))
def as8 (x : (Int × Int × Unit) × Unit) : Option (Bool × Unit) := some (decide (okE x.1.1 x.1.2.1), ())
noncomputable def afO (p q n : Nat) : Nat := adR q (n ^ p * 10 ^ (12 * q) / 10 ^ (12 * p))
noncomputable def alA (p q n : Nat) (up : Bool) : Int × Int × Unit :=
 if afO p q n > 1000000000000000000 then (0, 6, ()) else ((afO p q n : Int) + (if up = true ∧ afO p q n ^ q * 10 ^ (12 * p) ≠ n ^ p * 10 ^ (12 * q) then 1 else 0), 0, ())
noncomputable def aq0 : ((Int × Int × Unit) × Unit) × Int × Bool × Unit → Option (Int × Int × Unit) := ac4 (fun x : (Nat × Nat) × Nat × Bool => ((((x.1.1 : Int), (x.1.2 : Int), ()), ()), (x.2.1 : Int), x.2.2, ())) (fun x => okE x.1.1 x.1.2 ∧ x.2.1 ≤ 1000000000000000000) (fun x => alA x.1.1 x.1.2 x.2.1 x.2.2)
noncomputable def auM (b : BdT) (p q : Int) : BdT × Int × Unit :=
 if okB b.1 b.2.1 then
  if okE p q ∧ 0 ≤ b.1 then
   (if (alA p.toNat q.toNat b.1.toNat false).2.1 ≠ 0 then ((0, 0, ()), 6, ()) else if (alA p.toNat q.toNat b.2.1.toNat true).2.1 ≠ 0 then ((0, 0, ()), 6, ())
    else mkB 6 (alA p.toNat q.toNat b.1.toNat false).1 (alA p.toNat q.toNat b.2.1.toNat true).1)
  else ((0, 0, ()), 2, ())
 else ((0, 0, ()), 30, ())
noncomputable def ayQ (x : BdT × Int × Int × Unit) : Option (BdT × Int × Unit) := some (auM x.1 x.2.1 x.2.2.1)
abbrev adJ := Int × Int × Int × Int × Int × Int × Unit
abbrev CvT := Int × List Int × List adJ × Unit
abbrev PcT := adJ × Int × Bool × Unit
def inR (n a b : Int) : Prop := a ≤ n ∧ n ≤ b
instance (n a b : Int) : Decidable (inR n a b) := inferInstanceAs (Decidable (_ ∧ _))
def agX (s : adJ) : Prop := inR s.2.1 (-100000000) 100000000 ∧ inR s.2.2.1 (-100000000) 100000000 ∧ inR s.2.2.2.2.2.1 (-100000000) 100000000 ∧ inR s.2.2.2.1 1 36 ∧ inR s.2.2.2.2.1 1 12 ∧ Nat.gcd s.2.2.2.1.natAbs s.2.2.2.2.1.natAbs = 1
instance (s : adJ) : Decidable (agX s) := inferInstanceAs (Decidable (_ ∧ _))
def ai8 (last : Int) (s : adJ) : Prop := agX s ∧ inR s.1 (last + 1) 1000000
instance (last : Int) (s : adJ) : Decidable (ai8 last s) := inferInstanceAs (Decidable (_ ∧ _))
def ahE : Int → List adJ → Prop
 | last, [] => last = 1000000
 | last, s :: r => ai8 last s ∧ ahE s.1 r
def aLd : (last : Int) → (l : List adJ) → Decidable (ahE last l)
 | last, [] => inferInstanceAs (Decidable (last = 1000000))
 | last, s :: r => @instDecidableAnd _ _ (inferInstanceAs (Decidable (ai8 last s))) (aLd s.1 r)
instance (last : Int) (l : List adJ) : Decidable (ahE last l) := aLd last l
def adZ (l : List Int) : Prop := 2 ≤ l.length ∧ l.length ≤ 17 ∧ ∀ v ∈ l, inR v 0 65535
instance (l : List Int) : Decidable (adZ l) := inferInstanceAs (Decidable (_ ∧ _ ∧ _))
def ac0 (l : List adJ) : Prop := 1 ≤ l.length ∧ l.length ≤ 4 ∧ ahE 0 l
instance (l : List adJ) : Decidable (ac0 l) := inferInstanceAs (Decidable (_ ∧ _ ∧ _))
def ab1 (c : CvT) : Prop := (c.1 = 1 ∧ c.2.1 = [] ∧ c.2.2.1 = []) ∨ (c.1 = 2 ∧ adZ c.2.1 ∧ c.2.2.1 = []) ∨ (c.1 = 3 ∧ c.2.1 = [] ∧ ac0 c.2.2.1)
instance (c : CvT) : Decidable (ab1 c) := inferInstanceAs (Decidable (_ ∨ _ ∨ _))
noncomputable def eqb {α : Type} (a b : α) : Bool := open Classical in if a = b then true else false
theorem aH8 {α : Type} {a b : α} (h : a = b) : eqb a b = true := if_pos h
theorem axF {α : Type} {a b : α} (h : ¬ a = b) : eqb a b = false := if_neg h
def acZ (x : Int × Int × Int × Unit) : Option (Bool × Unit) := some (decide (inR x.1 x.2.1 x.2.2.1), ())
def ab0 (x : Int × Int × Unit) : Option (FxT × Unit) := if aa8 x.1 ∧ aa8 x.2.1 then some ((ofQ x.1 x.2.1).1, ()) else none
def aaF (x : Int × Unit) : Option (FxT × Unit) := if aa8 x.1 then some (fx (mkRat x.1 1), ()) else none
def abU (q : Rat) : Rat := if q < 0 then 0 else if q > 1 then 1 else q
noncomputable def ac1 : FxT × Unit → Option (FxT × Unit) := ac4 (fun q : Rat => (fx q, ())) (fun q => adK q) (fun q => (fx (abU q), ()))
def ai4 (x : List Int × Unit) : Option (Bool × Unit) := some (decide (adZ x.1), ())
def af6 (x : PcT × Unit) : Option (Bool × Unit) := if inR x.1.2.1 0 1000000 then some (decide (ai8 x.1.2.1 x.1.1), ()) else none
def af9 (x : CvT × Unit) : Option (Bool × Unit) := some (decide (ac0 x.1.2.2.1), ())
def afM (x : CvT × Unit) : Option (Int × Unit) := some (if ab1 x.1 then 0 else 90, ())
def axE (c : CvT) : Prop := ab1 c ∧ ∀ s ∈ c.2.2.1, s.2.2.2.2.1 = 1
instance (c : CvT) : Decidable (axE c) := inferInstanceAs (Decidable (_ ∧ _))
def aq9 (x : CvT × Unit) : Option (Bool × Unit) := some (decide (axE x.1), ())
def aQy (l : List Int) : Bool := (List.range (l.length - 1)).any (fun i => decide (l.getD (i + 1) 0 > l.getD i 0))
def aQ6 (l : List Int) : Bool := (List.range (l.length - 1)).any (fun i => decide (l.getD (i + 1) 0 < l.getD i 0))
def aK0 (c : CvT) : Int :=
 if c.1 = 3 then (if c.2.2.1.length > 1 then 0 else if (c.2.2.1.getD 0 (0, 0, 0, 0, 0, 0, ())).2.1 < 0 then -1 else 1)
 else if !aQ6 c.2.1 then 1 else if !aQy c.2.1 then -1 else 0
def amJ (x : CvT × Unit) : Option (Int × Int × Unit) := some (if ab1 x.1 then (aK0 x.1, 0, ()) else (0, 90, ()))
def dig (n : Nat) : List Int := auQ 10000 n
theorem adG (n : Nat) : Dg 10000 (dig n) := aGS (B := 10000) zc n
theorem aIb (n : Nat) : Cn (dig n) := aNc (B := 10000) zc n
theorem ahX (n : Nat) : V 10000 (dig n) = n := aE8 (B := 10000) zc n
theorem axJ {m n : Nat} (h : dig m = dig n) : m = n := aIa (B := 10000) zc h
theorem aCt {l : List Int} {n : Nat} (h1 : Dg 10000 l) (h2 : Cn l) (h3 : V 10000 l = n) : l = dig n := axI (B := 10000) zc h1 h2 h3
theorem dig_length_le_iff {n k : Nat} : (dig n).length ≤ k ↔ n < 10000 ^ k := by
 constructor
 ·intro h
  have h1 := awQ (B := 10000) zc n
  exact yf h1 (zU zc h)
 ·intro h
  exact agF zc h
theorem ab5 {m n : Nat} (h : m ≤ n) : (dig m).length ≤ (dig n).length := by
 rw [dig_length_le_iff]
 exact Nat.lt_of_le_of_lt h (dig_length_le_iff.1 (zq _))
theorem dig_zero : dig 0 = [] := ac7 _
theorem dig_nil_iff {n : Nat} : dig n = [] ↔ n = 0 := by
 constructor
 ·intro h
  exact axJ (h.trans dig_zero.symm)
 ·rintro rfl; exact dig_zero
theorem aNe {d : Nat} (h0 : d ≠ 0) (h1 : d < 10000) : dig d = [(d : Int)] := aAO zc h0 h1
theorem an1 {m n : Nat} (h : (dig m).length < (dig n).length) : m < n := by
 rcases zr m n with h2 | h2
 ·exact h2
 ·have := ab5 h2; omega
theorem aAQ {n k : Nat} (h : (mag n).length ≤ k) : (dig n).length ≤ 3 * k := by
 rw [mag_length_le_iff] at h
 rw [dig_length_le_iff, xi]
 exact yf h (yw zc _)
theorem ax9 {k n : Nat} (h : Bd k n) (hk : k ≤ 8) : (dig n).length ≤ 200000000000 := by
 have h1 : Bd 8 n := aaH h hk
 have h2 := aAQ (k := 1000000 * 4 ^ 8) h1
 omega
@[reducible] def pl (z : Int) : Bool × List Int × Unit := (decide (z < 0), dig z.natAbs, ())
theorem awB {a b : Int} (h : pl a = pl b) : a = b := by
 obtain ⟨h1, h2⟩ := Prod.mk.inj h
 obtain ⟨h2, -⟩ := Prod.mk.inj h2
 have := axJ h2
 simp only [decide_eq_decide] at h1
 omega
abbrev PlT := Bool × List Int × Unit
abbrev RaT := PlT × PlT × Unit
@[reducible] def ra (q : Rat) : RaT := (pl q.num, pl q.den, ())
theorem aLv {a b : Rat} (h : ra a = ra b) : a = b := by
 obtain ⟨h1, h2⟩ := Prod.mk.inj h
 obtain ⟨h2, -⟩ := Prod.mk.inj h2
 have := awB h2
 exact Rat.ext (awB h1) zc
def aOr (a b : List Int) : Nat → Int
 | 0 => 0
 | k + 1 => if a.getD k 0 ≠ b.getD k 0 then a.getD k 0 - b.getD k 0 else aOr a b k
def aQe (a b : List Int) : Int := if a.length ≠ b.length then (a.length : Int) - b.length else aOr a b a.length
open Classical in
noncomputable def acO (x : List Int × Unit) : Option (List Int × Unit) := if Dg 10000 x.1 ∧ x.1.length ≤ 1000000000000 then some (dig (V 10000 x.1).toNat, ()) else none
open Classical in
noncomputable def abH (x : Bool × List Int × Unit) : Option (PlT × Unit) := if Dg 10000 x.2.1 ∧ x.2.1.length ≤ 1000000000000 then some ((x.1 && decide (V 10000 x.2.1 ≠ 0), dig (V 10000 x.2.1).toNat, ()), ()) else none
noncomputable def af2 (x : List UInt8 × Unit) : Option (Bool × Unit) := if x.1.length ≤ 1000000000000 then some ((rdW x.1).isSome, ()) else none
noncomputable def ao4 : List UInt8 × Unit → Option (PlT × Unit) := ac4 (fun z : Int => (dec z, ())) (fun z => Fit z) (fun z => (pl z, ()))
noncomputable def acF (x : Int × Unit) : Option (PlT × Unit) := if aa8 x.1 then some (pl x.1, ()) else none
def azM (n : Nat) : List UInt8 := [UInt8.ofNat (48 + n / 1000), UInt8.ofNat (48 + n / 100 % 10), UInt8.ofNat (48 + n / 10 % 10), UInt8.ofNat (48 + n % 10)]
noncomputable def aqY : Int × Unit → Option (List UInt8 × Unit) := ac4 (fun n : Nat => ((n : Int), ())) (fun n => n < 10000) (fun n => (azM n, ()))
noncomputable def amG : PlT × Unit → Option (List UInt8 × Unit) := ac4 (fun z : Int => (pl z, ())) (fun z => Bd 6 z.natAbs) (fun z => (dec z, ()))
noncomputable def aqZ : PlT × Unit → Option (List UInt8 × Int × Unit) := ac4 (fun z : Int => (pl z, ())) (fun z => Bd 6 z.natAbs) (fun z => wrW z)
noncomputable def af1 (x : List Int × List Int × Unit) : Option (Int × Unit) := open Classical in if Dg 10000 x.1 ∧ Dg 10000 x.2.1 ∧ x.1.length ≤ 1000000000000 ∧ x.2.1.length ≤ 1000000000000 then some (aQe x.1 x.2.1, ()) else none
noncomputable def avB : List Int × List Int × Unit → Option (List Int × Unit) := ac4 (fun p : Nat × Nat => (dig p.1, dig p.2, ())) (fun p => (dig p.1).length ≤ 1000000000000 ∧ (dig p.2).length ≤ 1000000000000) (fun p => (dig (p.1 + p.2), ()))
open Classical in
noncomputable def abA (x : List Int × List Int × Unit) : Option (List Int × Unit) := if Dg 10000 x.1 ∧ Dg 10000 x.2.1 ∧ x.1.length ≤ 1000000000000 ∧ x.2.1.length ≤ x.1.length ∧ V 10000 x.2.1 ≤ V 10000 x.1 then some (dig (V 10000 x.1 - V 10000 x.2.1).toNat, ()) else none
open Classical in
noncomputable def abT (x : List Int × List Int × Unit) : Option (List Int × Unit) := if Dg 10000 x.1 ∧ (Dg 10000 x.2.1 ∨ x.2.1 = [10000]) ∧ x.1.length ≤ 400000000000 ∧ x.2.1.length ≤ 400000000000 then some (dig (V 10000 x.1 * V 10000 x.2.1).toNat, ()) else none
noncomputable def aqX : List Int × Int × Unit → Option (List Int × Int × Unit) := ac4 (fun p : Nat × Nat => (dig p.1, (p.2 : Int), ())) (fun p => (dig p.1).length ≤ 1000000000000 ∧ 0 < p.2 ∧ p.2 < 10000) (fun p => (dig (p.1 / p.2), ((p.1 % p.2 : Nat) : Int), ()))
noncomputable def ajU : List Int × List Int × Unit → Option (List Int × List Int × Unit) := ac4 (fun p : Nat × Nat => (dig p.1, dig p.2, ())) (fun p => (dig p.1).length ≤ 200000000000 ∧ (dig p.2).length ≤ 200000000000 ∧ p.2 ≠ 0) (fun p => (dig (p.1 / p.2), dig (p.1 % p.2), ()))
noncomputable def ajV : PlT × Unit → Option (PlT × Unit) := ac4 (fun z : Int => (pl z, ())) (fun z => Bd 8 z.natAbs) (fun z => (pl (-z), ()))
noncomputable def agS : PlT × PlT × Unit → Option (PlT × Unit) := ac4 (fun p : Int × Int => (pl p.1, pl p.2, ())) (fun p => Bd 7 p.1.natAbs ∧ Bd 7 p.2.natAbs) (fun p => (pl (p.1 + p.2), ()))
noncomputable def ajW : PlT × PlT × Unit → Option (PlT × Unit) := ac4 (fun p : Int × Int => (pl p.1, pl p.2, ())) (fun p => Bd 7 p.1.natAbs ∧ Bd 7 p.2.natAbs) (fun p => (pl (p.1 - p.2), ()))
noncomputable def aeX : PlT × PlT × Unit → Option (PlT × Unit) := ac4 (fun p : Int × Int => (pl p.1, pl p.2, ())) (fun p => Bd 7 p.1.natAbs ∧ Bd 7 p.2.natAbs) (fun p => (pl (p.1 * p.2), ()))
noncomputable def af3 : PlT × PlT × Unit → Option (PlT × PlT × Unit) := ac4 (fun p : Int × Int => (pl p.1, pl p.2, ())) (fun p => Bd 6 p.1.natAbs ∧ Bd 6 p.2.natAbs ∧ p.2 ≠ 0) (fun p => (pl (p.1 / p.2), pl (p.1 % p.2), ()))
noncomputable def anH : PlT × PlT × Unit → Option (Int × Unit) := ac4 (fun p : Int × Int => (pl p.1, pl p.2, ())) (fun p => Bd 7 p.1.natAbs ∧ Bd 7 p.2.natAbs) (fun p => ((p.1 - p.2).sign, ()))
noncomputable def aeY : PlT × PlT × Unit → Option (PlT × Unit) := ac4 (fun p : Int × Int => (pl p.1, pl p.2, ())) (fun p => Bd 8 p.1.natAbs ∧ Bd 8 p.2.natAbs) (fun p => (pl (Nat.gcd p.1.natAbs p.2.natAbs), ()))
def shF (x : FxT) : Prop := x.1.length ≤ 1000000000000 ∧ x.2.1.length ≤ 1000000000000
instance (x : FxT) : Decidable (shF x) := inferInstanceAs (Decidable (_ ∧ _))
noncomputable def ah0 : PlT × PlT × Unit → Option (RaT × Unit) := ac4 (fun x : Int × Int => (pl x.1, pl x.2, ())) (fun x => Bd 6 x.1.natAbs ∧ Bd 6 x.2.natAbs ∧ x.2 ≠ 0) (fun x => (ra (Rat.divInt x.1 x.2), ()))
noncomputable def ajS : Int × Int × Unit → Option (RaT × Unit) := ac4 (fun x : Int × Int => (x.1, x.2, ())) (fun x => aa8 x.1 ∧ aa8 x.2 ∧ x.2 ≠ 0) (fun x => (ra (Rat.divInt x.1 x.2), ()))
noncomputable def aeW (x : FxT × Unit) : Option (Bool × Unit) := if shF x.1 then some ((rdF x.1).isSome, ()) else none
noncomputable def as7 : FxT × Unit → Option (RaT × Unit) := ac4 (fun x : Rat => (fx x, ())) (fun x => adK x) (fun x => (ra x, ()))
noncomputable def aqW : RaT × Unit → Option (FxT × Int × Unit) := ac4 (fun x : Rat => (ra x, ())) (fun x => BdQ 6 x) (fun x => wrF x)
noncomputable def ayO : RaT × RaT × Unit → Option (RaT × Unit) := ac4 (fun x : Rat × Rat => (ra x.1, ra x.2, ())) (fun x => BdQ 3 x.1 ∧ BdQ 3 x.2) (fun x => (ra (x.1 + x.2), ()))
noncomputable def ajT : RaT × RaT × Unit → Option (Int × Unit) := ac4 (fun x : Rat × Rat => (ra x.1, ra x.2, ())) (fun x => BdQ 3 x.1 ∧ BdQ 3 x.2) (fun x => (auZ x.1 x.2, ()))
noncomputable def ayP (x : Int × Int × Unit) : Option (FxT × Int × Unit) := amI x
noncomputable def aIm (x : FxT × FxT × Unit) : Option (FxT × Int × Unit) := if shF x.1 ∧ shF x.2.1 then adU x else none
noncomputable def aSi (x : FxT × Int × Unit) : Option (FxT × Int × Unit) := if shF x.1 then some (match rdF x.1 with | some q => if x.2.1 < 0 ∨ x.2.1 > 40 then (([], [], ()), 2, ()) else wrF (q ^ x.2.1.toNat) | none => (([], [], ()), 20, ())) else none
def anF (x : BdT × Unit) : Option (Bool × Unit) := some (decide (okB x.1.1 x.1.2.1), ())
noncomputable def af0 (x : Int × Unit) : Option (RaT × Unit) := if aa8 x.1 then some (ra (mkRat x.1 1000000000000), ()) else none
noncomputable def aSx (b : BdT) (x : FxT) : Bool × Int × Unit := if okB b.1 b.2.1 then (match rdF x with | some q => (decide ((b.1 : Rat) ≤ q * acE ∧ q * acE ≤ (b.2.1 : Rat)), 0, ()) | none => (false, 20, ())) else (false, 30, ())
noncomputable def anG (x : BdT × FxT × Unit) : Option (Bool × Int × Unit) := if shF x.2.1 then some (aSx x.1 x.2.1) else none
def apA (n : Nat) : Rat := mkRat n 1000000000000
def shC (c : CvT) : Prop := c.2.1.length ≤ 1000000000000 ∧ c.2.2.1.length ≤ 1000000000000
instance (c : CvT) : Decidable (shC c) := inferInstanceAs (Decidable (_ ∧ _))
def abM (x : Int × Int × Unit) : Option (Bool × Unit) := if inR x.1 1 36 ∧ inR x.2.1 1 12 then some (!decide (Nat.gcd x.1.natAbs x.2.1.natAbs = 1), ()) else none
def aRt (x : Int × Int × Unit) : Option (FxT × Unit) := ab0 x
def anP (b : BdT) : BdT := (min (max b.1 0) 1000000000000, min (max b.2.1 0) 1000000000000, ())
def ae3 (a b : BdT) : BdT := (min a.1 b.1, max a.2.1 b.2.1, ())
noncomputable def acI (q : Rat) : Option Rat := if adK q then some q else none
def ay9 : Option Rat → FxT × Int × Unit
 | some q => (fx q, 0, ())
 | none => (([], [], ()), 6, ())
noncomputable def aB3 (m a : Int) (x : Rat) : Option Rat := (acI (mkRat m 1 * x)).bind fun u => (acI (u + mkRat a 1)).bind fun v => acI (v / mkRat 1000000 1)
noncomputable def adC (u : Rat) : Nat → Rat → Option Rat
 | 0, y => some y
 | n + 1, y => (acI (y * u)).bind (adC u n)
def aDL (u : Rat) : Rat := if u < 0 then 0 else u
noncomputable def aEs (s : adJ) (x : Rat) : Option Rat := (aB3 s.2.1 s.2.2.1 x).bind fun u => (adC (aDL u) (s.2.2.2.1 - 1).toNat (aDL u)).bind fun y => (acI (y + mkRat s.2.2.2.2.2.1 1000000)).map abU
def ae2 (x : Rat) (l : List adJ) : Nat := l.findIdx (fun s => decide (x ≤ mkRat s.1 1000000))
noncomputable def auP (l : List adJ) (x : Rat) : FxT × Int × Unit := if (l.getD (ae2 x l) (0, 0, 0, 0, 0, 0, ())).2.2.2.2.1 = 1 then ay9 (aEs (l.getD (ae2 x l) (0, 0, 0, 0, 0, 0, ())) x) else (([], [], ()), 5, ())
noncomputable def ajA (l : List Int) (p : Rat) : Nat := min p.floor.toNat (l.length - 2)
noncomputable def aOd (l : List Int) (x : Rat) : Option Rat := (acI (x * mkRat ((l.length - 1 : Nat) : Int) 1)).bind fun p =>
 (acI (p - mkRat (ajA l p : Int) 1)).bind fun r => (acI (r * mkRat (l.getD (ajA l p + 1) 0 - l.getD (ajA l p) 0) 1)).bind fun t =>
 (acI (mkRat (l.getD (ajA l p) 0) 1 + t)).bind fun y => acI (y / mkRat 65535 1)
noncomputable def aqC (c : CvT) (x : Rat) : FxT × Int × Unit := if c.1 = 1 then (fx x, 0, ()) else if c.1 = 2 then ay9 (aOd c.2.1 x) else auP c.2.2.1 x
noncomputable def aj4 : PcT × FxT × Unit → Option (FxT × Int × Unit) := ac4 (fun p : PcT × Rat => (p.1, fx p.2, ())) (fun p => adK p.2 ∧ agX p.1.1) (fun p => ay9 (aB3 p.1.1.2.1 p.1.1.2.2.1 p.2))
noncomputable def ag5 : (CvT × Unit) × FxT × Unit → Option (FxT × Int × Unit) := ac4 (fun p : CvT × Rat => ((p.1, ()), fx p.2, ())) (fun p => adK p.2) (fun p => (fx p.2, 0, ()))
noncomputable def af7 : (CvT × Unit) × FxT × Unit → Option (FxT × Int × Unit) := ac4 (fun p : CvT × Rat => ((p.1, ()), fx p.2, ())) (fun p => adK p.2 ∧ 0 ≤ p.2 ∧ p.2 ≤ 1 ∧ adZ p.1.2.1) (fun p => ay9 (aOd p.1.2.1 p.2))
noncomputable def aiP : (CvT × Unit) × FxT × Unit → Option (FxT × Int × Unit) := ac4 (fun p : CvT × Rat => ((p.1, ()), fx p.2, ())) (fun p => adK p.2 ∧ p.2 ≤ 1 ∧ ac0 p.1.2.2.1) (fun p => auP p.1.2.2.1 p.2)
noncomputable def acA (x : CvT × FxT × Unit) : Option (FxT × Int × Unit) := some (if ab1 x.1 then (match rdF x.2.1 with | some q => aqC x.1 (abU q) | none => (([], [], ()), 20, ())) else (([], [], ()), 90, ()))
def anT : List BdT → BdT
 | [] => (0, 0, ())
 | b :: l => l.foldl ae3 b
def okL (l : List BdT) : Prop := l ≠ [] ∧ l.length ≤ 1000000 ∧ ∀ b ∈ l, okB b.1 b.2.1
instance (l : List BdT) : Decidable (okL l) := inferInstanceAs (Decidable (_ ∧ _ ∧ _))
def aiQ (x : List BdT × Unit) : Option (BdT × Int × Unit) := if okL x.1 then some (anT x.1, 0, ()) else none
noncomputable def ae0 : List FxT × Unit → Option (BdT × Int × Unit) := ac4 (fun l : List Rat => (l.map (fun q => fx q), ())) (fun l => l ≠ [] ∧ l.length ≤ 1000000 ∧ ∀ q ∈ l, adK q ∧ (agJ q q).2.1 = 0) (fun l => (anT (l.map fun q => (agJ q q).1), 0, ()))
def ab2 (m a n : Int) : Int := m * n + a * 1000000000000
def anR (s : adJ) (lo hi : Int) : BdT :=
 (max (min (ab2 s.2.1 s.2.2.1 lo / 1000000) (ab2 s.2.1 s.2.2.1 hi / 1000000)) 0, max (max (-(-ab2 s.2.1 s.2.2.1 lo / 1000000)) (-(-ab2 s.2.1 s.2.2.1 hi / 1000000))) 0, ())
noncomputable def agT (s : adJ) (lo hi : Int) : BdT × Int × Unit :=
 if (auM (anR s lo hi) s.2.2.2.1 s.2.2.2.2.1).2.1 ≠ 0 then ((0, 0, ()), (auM (anR s lo hi) s.2.2.2.1 s.2.2.2.2.1).2.1, ())
 else if (aIj (auM (anR s lo hi) s.2.2.2.1 s.2.2.2.2.1).1 (s.2.2.2.2.2.1 * 1000000, s.2.2.2.2.2.1 * 1000000, ())).2.1 ≠ 0 then ((0, 0, ()), (aIj (auM (anR s lo hi) s.2.2.2.1 s.2.2.2.2.1).1 (s.2.2.2.2.2.1 * 1000000, s.2.2.2.2.2.1 * 1000000, ())).2.1, ())
 else (anP (aIj (auM (anR s lo hi) s.2.2.2.1 s.2.2.2.2.1).1 (s.2.2.2.2.2.1 * 1000000, s.2.2.2.2.2.1 * 1000000, ())).1, 0, ())
def inU (n : Int) : Prop := inR n 0 1000000000000
instance (n : Int) : Decidable (inU n) := inferInstanceAs (Decidable (_ ∧ _))
noncomputable def adV (x : PcT × Int × Int × Unit) : Option (BdT × Int × Unit) := if agX x.1.1 ∧ inU x.2.1 ∧ inU x.2.2.1 then some (agT x.1.1 x.2.1 x.2.2.1) else none
def af8 (x : (CvT × Unit) × BdT × Unit) : Option (BdT × Int × Unit) := some (x.2.1, 0, ())
def abD (l : List adJ) (k : Nat) : Int := if k = 0 then 0 else (l.getD (k - 1) (0, 0, 0, 0, 0, 0, ())).1
def aa2 (n : Int) (l : List adJ) : Nat := l.findIdx (fun s => decide (n ≤ s.1 * 1000000))
noncomputable def amR (l : List adJ) (lo hi : Int) (k : Nat) : BdT × Int × Unit := agT (l.getD k (0, 0, 0, 0, 0, 0, ())) (max lo (abD l k * 1000000)) (min hi ((l.getD k (0, 0, 0, 0, 0, 0, ())).1 * 1000000))
noncomputable def agV (l : List adJ) (lo hi : Int) : Nat → Nat → List BdT → BdT × Int × Unit
 | 0, _, acc => (anT acc, 0, ())
 | n + 1, k, acc => if (amR l lo hi k).2.1 ≠ 0 then ((0, 0, ()), (amR l lo hi k).2.1, ()) else agV l lo hi n (k + 1) (acc ++ [(amR l lo hi k).1])
noncomputable def afQ (l : List adJ) (lo hi : Int) : BdT × Int × Unit := agV l lo hi (aa2 hi l + 1 - aa2 lo l) (aa2 lo l) []
noncomputable def adA (x : (CvT × Unit) × BdT × Unit) : Option (BdT × Int × Unit) := if ac0 x.1.1.2.2.1 ∧ inU x.2.1.1 ∧ inU x.2.1.2.1 ∧ x.2.1.1 ≤ x.2.1.2.1 then some (afQ x.1.1.2.2.1 x.2.1.1 x.2.1.2.1) else none
def ak8 (l : List Int) (n : Int) : Nat := min (n * ((l.length - 1 : Nat) : Int) / 1000000000000).toNat (l.length - 2)
def ak7 (l : List Int) (n : Int) : Int := l.getD (ak8 l n) 0 * 1000000000000 + (n * ((l.length - 1 : Nat) : Int) - (ak8 l n : Int) * 1000000000000) * (l.getD (ak8 l n + 1) 0 - l.getD (ak8 l n) 0)
def ay8 (m : Int) : BdT := (m / 65535, -(-m / 65535), ())
def aGt (l : List Int) (lo hi : Int) (k : Nat) : Bool := decide (inR ((k : Int) * 1000000000000) (lo * ((l.length - 1 : Nat) : Int)) (hi * ((l.length - 1 : Nat) : Int)))
def avO (l : List Int) (lo hi : Int) (k : Nat) : List BdT := ay8 (ak7 l lo) :: ay8 (ak7 l hi) :: ((List.range k).filter (aGt l lo hi)).map (fun j => ay8 (l.getD j 0 * 1000000000000))
def alC (l : List Int) (lo hi : Int) : BdT := anT (avO l lo hi l.length)
def aeJ (x : (CvT × Unit) × BdT × Unit) : Option (BdT × Int × Unit) := if adZ x.1.1.2.1 ∧ inU x.2.1.1 ∧ inU x.2.1.2.1 ∧ x.2.1.1 ≤ x.2.1.2.1 then some (alC x.1.1.2.1 x.2.1.1 x.2.1.2.1, 0, ()) else none
noncomputable def ad5 (c : CvT) (b : BdT) : BdT × Int × Unit := if c.1 = 1 then (b, 0, ()) else if c.1 = 2 then (alC c.2.1 b.1 b.2.1, 0, ()) else afQ c.2.2.1 b.1 b.2.1
noncomputable def acH (x : CvT × BdT × Unit) : Option (BdT × Int × Unit) := some (if ab1 x.1 then (if okB x.2.1.1 x.2.1.2.1 then ad5 x.1 (anP x.2.1) else ((0, 0, ()), 30, ())) else ((0, 0, ()), 90, ()))
def arN : CvT := (2, [0, 65535, 0], [], ())
def stepsC : CvT := (3, [], [(500000, 1000000, 0, 1, 1, 0, ()), (1000000, 2000000, -1000000, 2, 1, 500000, ())], ())
def rootC : CvT := (3, [], [(1000000, 1000000, 0, 1, 2, 0, ())], ())
def acY (x : Int × Int × Unit) : Option (FxT × Unit) := ab0 x
def ajX (_ : Unit) : Option (CvT × Unit) := some (arN, ())
def anI (_ : Unit) : Option (CvT × Unit) := some (stepsC, ())
def aq2 (_ : Unit) : Option (CvT × Unit) := some (rootC, ())
noncomputable def ad4 (x : CvT × FxT × FxT × Unit) : Option (Bool × Unit) := (acA (x.1, x.2.1, ())).map (fun r => (eqb r (x.2.2.1, 0, ()), ()))
def as9 (_ : Unit) : Option (Bool × Unit) := some (true, ())
end Go.Vs
namespace Go.Vg
open Go
def opn (P : Program) : Nat → TypeId → Ty → Bool
 | 0, _, _ => false
 | n + 1, t, u => Nat.beq (P.cellsOf t) u.size && (match P.underlying t, u with
  | some (.int k), .int k' => decide (k = k')
  | some .bool, .bool => true
  | some .string, .str => true
  | some (.slice e), .sl v => opn P n e v && Nat.ble 1 v.size && Nat.ble 1 (P.bytesOf e)
  | some (.array m e), .arr m' v => Nat.beq m m' && opn P n e v
  | some (.struct fs), u => opFs (opn P n) fs.toList 0 u
  | _, _ => false)
where opFs (f : TypeId → Ty → Bool) : List Field → Nat → Ty → Bool
 | [], _, u => match u with | .unit => true | _ => false
 | x :: r, off, u => match u with
  | .pair t v => Nat.beq x.offset off && f x.type t && opFs f r (off + t.size) v
  | _ => false
theorem aLt {α : Type} {R : α → List Value → Prop} {n : Nat} : ∀ (len : Nat) (cs : List Value), cs.length = len * n → (∀ i, i < len → ∃ x, R x ((cs.drop (i * n)).take n)) → ∃ xs, xs.length = len ∧ RdL R xs cs
 | 0, cs, hl, _ => ⟨[], rfl, by rw [vL] at hl; exact yI hl⟩
 | len + 1, cs, hl, h => by
  obtain ⟨x, hx⟩ := h 0 (Nat.succ_pos _)
  rw [vL, yQ] at hx
  have hl' : (cs.drop n).length = len * n := by rw [yB, hl, yj]; omega
  obtain ⟨xs, h1, h2⟩ := aLt len (cs.drop n) hl' (fun i hi => by
   have := h (i + 1) (Nat.succ_lt_succ hi)
   rw [yb]
   rwa [yj, xe] at this)
  exact ⟨x :: xs, by rw [zL, h1], cs.take n, cs.drop n, (xB n cs).symm, hx, h2⟩
section
variable {H : Type} {enc : TypeId × Value → H} {P : Program} {w : World} {spare : Nat → Bool} {held : Bool}
abbrev anS (l : List Nat) : Prop := l.all (· ≤ reachBytes) = true
theorem al0 {a b : List Nat} (h : anS (a ++ b)) : anS a ∧ anS b := by
 simp only [anS, List.all_append, zy] at h
 exact h
theorem awR {e : TypeId} : ∀ {ds : List (DataW H)}, anS (DataW.weightsAll P e ds) → ∀ d ∈ ds, anS (d.weights P e)
 | [], _, _, h => by cases h
 | d :: r, h, x, hx => by
  rw [DataW.weightsAll] at h
  obtain ⟨h1, h2⟩ := al0 h
  rcases zx.1 hx with rfl | hx
  ·exact h1
  ·exact awR h2 x hx
theorem aAz : ∀ {ts : List TypeId} {ds : List (DataW H)}, anS (DataW.weightsEach P ts ds) → ∀ (i : Nat) t d, ts[i]? = some t → ds[i]? = some d → anS (d.weights P t)
 | [], _, _, i, t, d, h, _ => by simp at h
 | _ :: _, [], _, i, t, d, _, h => by simp at h
 | t :: ts, d :: ds, h, i, t', d', h1, h2 => by
  rw [DataW.weightsEach] at h
  obtain ⟨h3, h4⟩ := al0 h
  cases i with
  | zero => simp at h1 h2; subst h1; subst h2; exact h3
  | succ i => exact aAz h4 i t' d' (by simpa using h1) (by simpa using h2)
theorem anB {a : Addr} {n : Nat} {l : List Value} (h : w.cells? 0 a n = some l) : l.length = n ∧ ∀ i (hi : i < n), w.cell? (a.add i) = l[i]? := by
 unfold World.cells? at h
 rw [if_pos (yh _)] at h
 refine ⟨by simpa using mapM_some_length h, fun i hi => ?_⟩
 have := mapM_some_get h i i (by simp [hi])
 exact this
theorem aJ8 {a : Addr} {v : Value} (h : w.cell? a = some v) : ∃ c e fr, w.heap[a.block]? = some (.cells c e fr) ∧ a.spot = none ∧ c[a.off]? = some v := by
 unfold World.cell? at h
 split at h
 ·rename_i c e fr hc
  split at h
  ·cases h
  ·rename_i hs
   exact ⟨c, e, fr, hc, by simpa using hs, h⟩
 ·cases h
theorem aDn : reachBytes ≤ lim := zf
theorem aLQ {n : Nat} {f : TypeId → Ty → Bool} {cs : List Value} (hf : ∀ t u cs d ps, f t u = true → DataW.trod enc P w 0 spare held n t cs = some (d, ps) → anS (d.weights P t) → ∃ x, Rd (· < w.heap.size) w u x cs)
  (hsz : ∀ t u, f t u = true → P.cellsOf t = u.size) :
  ∀ (fs : List Field) (off : Nat) (u : Ty) (xs : List (DataW H × List MemPlace)), opn.opFs f fs off u = true → cs.length = off + u.size → xs.length = fs.length →
   (∀ (i : Nat) (g : Field), fs[i]? = some g → DataW.trod enc P w 0 spare held n g.type ((cs.drop g.offset).take (P.cellsOf g.type)) = xs[i]?) →
   (∀ (i : Nat) (g : Field) y, fs[i]? = some g → xs[i]? = some y → anS (y.1.weights P g.type)) → ∃ x, Rd (· < w.heap.size) w u x (cs.drop off)
 | [], off, u, xs, h, hl, _, _, _ => by
  cases u <;> first | (cases h; done) | skip
  exact ⟨(), by
   have : cs.length = off := by simpa [Ty.size] using hl
   show cs.drop off = []
   exact List.drop_eq_nil_of_le zc⟩
 | g :: r, off, u, xs, h, hl, hx, ht, hw => by
  cases u <;> first | (cases h; done) | skip
  rename_i t v
  simp only [opn.opFs, zy] at h
  obtain ⟨⟨h1, h2⟩, h3⟩ := h
  have h1 := Nat.eq_of_beq_eq_true h1
  subst h1
  have hs := hsz _ _ h2
  cases xs with
  | nil => simp at hx
  | cons y ys =>
   have h4 := ht 0 g rfl
   rw [hs] at h4
   obtain ⟨a, ha⟩ := hf _ _ _ y.1 y.2 h2 h4 (hw 0 g y rfl rfl)
   obtain ⟨b, hb⟩ := aLQ hf hsz r (g.offset + t.size) v ys h3 (by rw [hl]; simp only [Ty.size]; omega) (by simpa using hx) (fun i k hk => by have := ht (i + 1) k (by simpa using hk); simpa using this) (fun i k z hk hz => hw (i + 1) k z (by simpa using hk) (by simpa using hz))
   refine ⟨(a, b), _, _, (xB t.size (cs.drop g.offset)).symm, ha, ?_⟩
   rw [yb]
   exact hb
theorem au0 {n : Nat} {t : TypeId} {u : Ty} (h : opn P n t u = true) : P.cellsOf t = u.size := by
 cases n with
 | zero => cases h
 | succ n =>
  simp only [opn, zy] at h
  exact Nat.eq_of_beq_eq_true h.1
theorem apM : ∀ (n : Nat) (t : TypeId) (u : Ty) (fuel : Nat) (cs : List Value) (d : DataW H) (ps : List MemPlace), opn P n t u = true → DataW.trod enc P w 0 spare held fuel t cs = some (d, ps) → anS (d.weights P t) →
  ∃ x, Rd (· < w.heap.size) w u x cs
 | 0, _, _, _, _, _, _, h, _, _ => by cases h
 | n + 1, t, u, fuel, cs, d, ps, h, hd, hw => by
  have hsz := au0 h
  simp only [opn, zy] at h
  obtain ⟨-, h⟩ := h
  split at h
  ·rename_i k k' hu
   have := of_decide_eq_true h
   subst this
   obtain ⟨m, rfl, _, hwf⟩ := DataW.trod_int hu hd
   refine ⟨m, rfl, ?_⟩
   simpa [Lit.wf] using hwf
  ·rename_i hu
   obtain ⟨b, rfl, _⟩ := DataW.trod_bool hu hd
   exact ⟨b, rfl⟩
  ·rename_i hu
   obtain ⟨s, rfl, hx, _⟩ := DataW.trod_string hu hd
   injection hx with hx _
   subst hx
   have : s.data.toList.length ≤ reachBytes := by simpa [anS, DataW.weights] using hw
   exact ⟨s.data.toList, rfl, zC this aDn⟩
  ·rename_i e v hu
   simp only [zy] at h
   obtain ⟨⟨h1, h2⟩, h3⟩ := h
   have h2 := Nat.le_of_ble_eq_true h2
   have h3 := Nat.le_of_ble_eq_true h3
   have hse := au0 h1
   rcases DataW.trod_slice hu hd with ⟨rfl, hx⟩ | ⟨a, len, cap, elems, rest, m, rfl, rfl, hx, _, hlc, _, hle, hel, _, _⟩
   ·exact ⟨[], none, 0, rfl, zq _, yh _, Or.inl rfl⟩
   ·injection hx with hx _
    subst hx
    simp only [DataW.weights, hu, anS, List.all_cons, zy, yn, List.all_append] at hw
    obtain ⟨hw1, hw2, _⟩ := hw
    have hlim : len ≤ lim := by
     have : len * 1 ≤ (List.map (·.1) elems).length * P.bytesOf e := Nat.mul_le_mul (by simp [hle]) h3
     have h4 : (List.map (·.1) elems).length * P.bytesOf e ≤ ((List.map (·.1) elems).length + (List.map (·.1) rest).length) * P.bytesOf e := zJ _ (xk _ _)
     exact zC zc (zC hw1 aDn)
    rcases zE len with h0 | h0
    ·subst h0
     exact ⟨[], some a, cap, rfl, hlc, yh _, Or.inl rfl⟩
    ·-- the cells of an element
     have key : ∀ i, i < len → ∃ l y, w.cells? 0 (a.add (i * v.size)) v.size = some l ∧ DataW.trod enc P w 0 spare held m e l = some y ∧ elems[i]? = some y := by
      intro i hi
      have := hel i hi
      rw [zP zc, hse] at this
      obtain ⟨l, hl1, hl2⟩ := Option.bind_eq_some_iff.1 this
      exact ⟨l, _, hl1, hl2, by rw [zP zc]⟩
     obtain ⟨l0, y0, hl0, -, -⟩ := key 0 h0
     obtain ⟨hn0, hc0⟩ := anB hl0
     have hc00 := hc0 0 h2
     rw [zP zc] at hc00
     obtain ⟨c, et, fr, hb, hsp, _⟩ := aJ8 hc00
     have e0 : a.add (0 * v.size) = a := by simp [Addr.add]
     rw [e0] at hb hsp
     have e00 : a.add 0 = a := by simp [Addr.add]
     rw [e00] at hb hsp
     obtain ⟨b, o, sp⟩ := a
     dsimp only at hb hsp
     subst hsp
     -- each cell
     have cell : ∀ i, i < len → ∀ j, j < v.size → ∀ l, w.cells? 0 (Addr.add ⟨b, o, none⟩ (i * v.size)) v.size = some l → c[o + i * v.size + j]? = l[j]? := by
      intro i hi j hj l hl
      obtain ⟨q1, q2⟩ := anB hl
      have := q2 j hj
      rw [← this]
      have ea : ((Addr.add ⟨b, o, none⟩ (i * v.size)).add j) = ⟨b, o + i * v.size + j, none⟩ := by
       unfold Addr.add
       by_cases c1 : i * v.size = 0 <;> by_cases c2 : j = 0 <;> simp [c1, c2]
      rw [ea]
      unfold World.cell?
      dsimp only
      rw [hb]
      rfl
     have part : ∀ i, i < len → ∀ l, w.cells? 0 (Addr.add ⟨b, o, none⟩ (i * v.size)) v.size = some l → (c.toList.drop (o + i * v.size)).take v.size = l := by
      intro i hi l hl
      obtain ⟨q1, q2⟩ := anB hl
      apply List.ext_getElem?
      intro j
      rcases zr j v.size with hj | hj
      ·rw [List.getElem?_take_of_lt hj, yZ, ← cell i hi j hj l hl]
       simp
      ·rw [xU (by rw [yp]; omega), xU zc]
     have hlen : o + len * v.size ≤ c.size := by
      obtain ⟨l, y, hl, -, -⟩ := key (len - 1) zc
      obtain ⟨q1, q2⟩ := anB hl
      have := cell (len - 1) zc (v.size - 1) zc l hl
      rw [zP zc] at this
      have hlt := (xz.1 this).1
      have e1 : len * v.size = (len - 1) * v.size + v.size := by
       conv => lhs; rw [show len = (len - 1) + 1 by omega]
       rw [yj]
      omega
     obtain ⟨xs, hx1, hx2⟩ := aLt (R := Rd (· < w.heap.size) w v) (n := v.size) len ((c.toList.drop o).take (len * v.size)) (by rw [yp, yB]; simp; omega) (fun i hi => by
      obtain ⟨l, y, hl, hl2, hy⟩ := key i hi
      have hm : y.1 ∈ elems.map (·.1) := zG.2 ⟨y, List.mem_of_getElem? hy, rfl⟩
      obtain ⟨x, hx⟩ := apM n e v m l y.1 y.2 h1 hl2 (awR hw2 _ hm)
      refine ⟨x, ?_⟩
      have e2 : ((((c.toList.drop o).take (len * v.size)).drop (i * v.size)).take v.size) = l := by
       rw [← part i hi l hl, wJ, xh, yb]
       congr 1
       have : i * v.size + v.size ≤ len * v.size := by rw [← yj]; exact zJ _ hi
       omega
      rw [e2]
      exact hx)
     subst hx1
     exact ⟨xs, some ⟨b, o, none⟩, cap, rfl, hlc, hlim, Or.inr ⟨b, o, c, et, fr, rfl, (xz.1 hb).1, hb, hlen, hx2⟩⟩
  ·rename_i m e m' v hu
   simp only [zy] at h
   obtain ⟨h1, h2⟩ := h
   have h1 := Nat.eq_of_beq_eq_true h1
   subst h1
   have hse := au0 h2
   obtain ⟨xs, k, rfl, hx, hlen, hxl, hel⟩ := DataW.trod_array hu hd
   injection hx with hx _
   subst hx
   rw [hsz] at hlen
   have hlen' : cs.length = m * v.size := hlen
   simp only [DataW.weights, hu] at hw
   obtain ⟨ys, hy1, hy2⟩ := aLt (R := Rd (· < w.heap.size) w v) (n := v.size) m cs hlen' (fun i hi => by
    have := hel i hi
    rw [zP zc, hse] at this
    exact apM n e v k _ _ _ h2 this (awR hw _ (zG.2 ⟨_, yg zc, rfl⟩)))
   exact ⟨ys, hy1, hy2⟩
  ·rename_i _ fs hu
   obtain ⟨xs, k, rfl, hx, hlen, hxl, hel⟩ := DataW.trod_struct hu hd
   injection hx with hx _
   subst hx
   simp only [DataW.weights, hu] at hw
   obtain ⟨x, hx⟩ := aLQ (n := k) (f := opn P n) (cs := cs) (fun t u cs d ps h1 h2 h3 => apM n t u k cs d ps h1 h2 h3) (fun t u h => au0 h) fs.toList 0 _ xs h (by rw [hlen, hsz]; omega) (by simpa using hxl) (fun i g hg => hel i g (by simpa using hg))
    (fun i g y hg hy => aAz hw i g.type y.1 (by simp [hg]) (by simp [hy]))
   exact ⟨x, by simpa using hx⟩
  ·cases h
theorem aO0 {f : TypeId → Ty → Bool} : ∀ {fs : List Field} {off : Nat} {u : Ty}, opn.opFs f fs off u = true → u.agg = true
 | [], _, u, h => by cases u <;> first | rfl | (cases h; done)
 | _ :: _, _, u, h => by cases u <;> first | rfl | (cases h; done)
theorem aJf {n : Nat} {t : TypeId} {u : Ty} {r : _root_.Go.Reach} {b0 : Nat} {v : Value} {d : DataW H} {ps : List MemPlace} (ho : opn P n t u = true) (hne : u ≠ .unit) (hval : Value.okWide P w r b0 t v) (hd : DataW.Trod enc P w 0 spare held t v d ps) (hw : anS (d.weights P t)) :
  ∃ x, RdV (· < w.heap.size) w u x v := by
 obtain ⟨fuel, hf⟩ := hd
 obtain ⟨x, hx⟩ := apM n t u fuel _ _ _ ho hf hw
 refine ⟨x, _, hx, ?_⟩
 cases n with
 | zero => cases ho
 | succ n =>
  simp only [opn, zy] at ho
  obtain ⟨-, h⟩ := ho
  split at h
  ·rename_i k k' hu
   obtain ⟨m, rfl⟩ := WideShapes.okWide_int hu hval
   rfl
  ·rename_i hu
   obtain ⟨m, rfl⟩ := WideShapes.okWide_bool hu hval
   rfl
  ·rename_i hu
   obtain ⟨m, rfl⟩ := WideShapes.okWide_string hu hval
   rfl
  ·rename_i e v' hu
   obtain ⟨a, len, cap, rfl⟩ := WideShapes.okWide_slice hu hval
   rfl
  ·rename_i ha
   unfold Value.okWide at hval
   rw [ha] at hval
   obtain ⟨cs, rfl, _⟩ := hval
   rfl
  ·rename_i fs hu'
   obtain ⟨cs, rfl, _⟩ := WideShapes.okWide_struct hu' hval
   unfold vOf
   rw [if_pos (aO0 h)]
   rfl
  ·cases h
def aHO (P : Program) : List TypeId → Ty → Bool
 | [], u => match u with | .unit => true | _ => false
 | t :: ts, u => match u with
  | .pair a b => opn P 8 t a && (match a with | .unit => false | _ => true) && aHO P ts b
  | _ => false
theorem aHP : ∀ (ts : List TypeId) (u : Ty) (vs : List Value) (ds : List (DataW H)) (ps : List MemPlace) {r : _root_.Go.Reach} {b0 : Nat}, aHO P ts u = true → (∀ (j : Nat) t v, ts[j]? = some t → vs[j]? = some v → Value.okWide P w r b0 t v) →
  DataW.TrodAll enc P w 0 spare held ts vs ds ps → anS (DataW.weightsEach P ts ds) → ∃ x, RdVs (· < w.heap.size) w u x vs
 | [], u, vs, ds, ps, _, _, ho, _, hd, _ => by
  cases u <;> first | (cases ho; done) | skip
  cases vs with
  | nil => exact ⟨(), rfl⟩
  | cons v vs => cases ds <;> exact hd.elim
 | t :: ts, u, vs, ds, ps, r, b0, ho, hv, hd, hw => by
  cases u <;> first | (cases ho; done) | skip
  rename_i a b
  simp only [aHO, zy] at ho
  obtain ⟨⟨h1, h2⟩, h3⟩ := ho
  cases vs with
  | nil => exact hd.elim
  | cons v vs =>
   cases ds with
   | nil => exact hd.elim
   | cons d ds =>
    obtain ⟨p, q, hd1, hd2, _⟩ := hd
    rw [DataW.weightsEach] at hw
    obtain ⟨hw1, hw2⟩ := al0 hw
    obtain ⟨x, hx⟩ := aJf h1 (fun e => by subst e; cases h2) (hv 0 t v rfl rfl) hd1 hw1
    obtain ⟨y, hy⟩ := aHP ts b vs ds q h3 (fun j t' v' e1 e2 => hv (j + 1) t' v' (by simpa using e1) (by simpa using e2)) hd2 hw2
    exact ⟨(x, y), v, vs, rfl, hx, hy⟩
theorem aHx (hl : laidOutB P = true) {W W' : World} (hb : RowKit.Below W.heap.size W W') : ∀ (ts : List TypeId) (vs : List Value) (ds : List (DataW H)) (ps : List MemPlace), (ts.all fun t => P.readableRec t && decide (t < P.types.size)) = true →
  DataW.TrodAll enc P W 0 (fun _ => true) true ts vs ds ps → (∀ x ∈ ps, x.block < W.heap.size) → DataW.TrodAll enc P W' 0 (fun b => decide (b < W.heap.size)) true ts vs ds ps
 | [], [], [], _, _, hd, _ => hd
 | [], _ :: _, [], _, _, hd, _ | [], _, _ :: _, _, _, hd, _ => by cases ‹List Value› <;> exact hd.elim
 | t :: ts, [], ds, _, _, hd, _ => by cases ds <;> exact hd.elim
 | t :: ts, v :: vs, [], _, _, hd, _ => hd.elim
 | t :: ts, v :: vs, d :: ds, ps, hr, ⟨p, q, h1, h2, e⟩, hlt => by
  simp only [List.all_cons, zy, yn] at hr
  obtain ⟨⟨r1, r2⟩, r3⟩ := hr
  subst e
  exact ⟨p, q, RowKit.Below.trod hl r1 r2 h1 hb (fun x hx => hlt x (vM _ hx)), aHx hl hb ts vs ds q r3 h2 (fun x hx => hlt x (List.mem_append_right _ hx)), rfl⟩
end
end Go.Vg
