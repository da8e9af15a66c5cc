/-
  Functions of plain data that the Go functions compute, and their laws. Own work; no condition.
-/
import Derived.Test.YtakjojajnblpoaaGreatDoorClE4
import Derived.Lib.ItoaMem
import Derived.Lib.AtoiAllCases
import Derived.Lib.ParseIntBTie
import Derived.Lib.Repeat
set_option linter.unusedVariables false
set_option linter.unusedSimpArgs false
namespace Go.Vs
open Go Go.Vg
theorem w64_id {x : Int} (h0 : -9223372036854775808 ≤ x ∧ x ≤ 9223372036854775807) : w64 x = x := by
 obtain ⟨h0, h1⟩ := h0
 unfold w64 IntKind.wrap
 simp only [IntKind.bits, IntKind.signed, Bool.true_and]
 have e1 : (2 : Int) ^ 64 = 18446744073709551616 := by decide
 have e2 : (2 : Int) ^ (64 - 1) = 9223372036854775808 := by decide
 simp only [e1, e2, ge_iff_le, decide_eq_true_eq]
 split <;> omega
theorem wu64_id {x : Int} (h0 : 0 ≤ x ∧ x ≤ 18446744073709551615) : wu64 x = x := by
 obtain ⟨h0, h1⟩ := h0
 unfold wu64 IntKind.wrap
 simp only [IntKind.bits, IntKind.signed, Bool.false_and]
 have e1 : (2 : Int) ^ 64 = 18446744073709551616 := by decide
 simp only [e1]
 simp only [Bool.false_eq_true, if_false]
 omega
theorem wu32_id {x : Int} (h0 : 0 ≤ x ∧ x ≤ 4294967295) : wu32 x = x := by
 obtain ⟨h0, h1⟩ := h0
 unfold wu32 IntKind.wrap
 simp only [IntKind.bits, IntKind.signed, Bool.false_and]
 have e1 : (2 : Int) ^ 32 = 4294967296 := by decide
 simp only [e1]
 simp only [Bool.false_eq_true, if_false]
 omega
theorem wu8_id {x : Int} (h0 : 0 ≤ x ∧ x ≤ 255) : wu8 x = x := by
 obtain ⟨h0, h1⟩ := h0
 unfold wu8 IntKind.wrap
 simp only [IntKind.bits, IntKind.signed, Bool.false_and]
 have e1 : (2 : Int) ^ 8 = 256 := by decide
 simp only [e1]
 simp only [Bool.false_eq_true, if_false]
 omega
def V (B : Int) : List Int → Int
 | [] => 0
 | d :: l => d + B * V B l
def Dg (B : Int) (l : List Int) : Prop := ∀ d ∈ l, 0 ≤ d ∧ d < B
def Cn (l : List Int) : Prop := l.getLast? ≠ some 0
theorem V_append (B : Int) : ∀ (l m : List Int), V B (l ++ m) = V B l + B ^ l.length * V B m
 | [], m => by simp [V]
 | d :: l, m => by
  simp only [List.cons_append, V, V_append B l m, List.length_cons, Int.pow_succ]
  grind
theorem V_one (B d : Int) : V B [d] = d := by simp [V]
theorem V_take_succ (B : Int) {l : List Int} {i : Nat} (h : i < l.length) : V B (l.take (i + 1)) = V B (l.take i) + B ^ i * l[i] := by
 rw [List.take_succ_eq_append_getElem h, V_append, V_one, List.length_take, Nat.min_eq_left (by omega)]
theorem V_split (B : Int) (l : List Int) (i : Nat) (h : i ≤ l.length) : V B l = V B (l.take i) + B ^ i * V B (l.drop i) := by
 conv => lhs; rw [← List.take_append_drop i l]
 rw [V_append, List.length_take, Nat.min_eq_left h]
theorem V_drop_eq (B : Int) {l : List Int} {i : Nat} (h : i < l.length) : V B (l.drop i) = l[i] + B * V B (l.drop (i + 1)) := by
 rw [List.drop_eq_getElem_cons h]; rfl
theorem Dg_nil (B : Int) : Dg B [] := fun _ h => by cases h
theorem Dg_append {B : Int} {l m : List Int} (hl : Dg B l) (hm : Dg B m) : Dg B (l ++ m) := by
 intro d hd
 rcases List.mem_append.1 hd with h | h
 ·exact hl d h
 ·exact hm d h
theorem Dg_one {B d : Int} (h0 : 0 ≤ d) (h1 : d < B) : Dg B [d] := by
 intro x hx
 have := List.mem_singleton.1 hx
 subst this
 exact ⟨h0, h1⟩
theorem Dg_tail {B d : Int} {l : List Int} (h : Dg B (d :: l)) : Dg B l := fun x hx => h x (List.mem_cons_of_mem _ hx)
theorem Dg_head {B d : Int} {l : List Int} (h : Dg B (d :: l)) : 0 ≤ d ∧ d < B := h d List.mem_cons_self
theorem Dg_cons {B d : Int} {l : List Int} (h0 : 0 ≤ d ∧ d < B) (h : Dg B l) : Dg B (d :: l) := by
 intro x hx
 rcases List.mem_cons.1 hx with rfl | h1
 ·exact h0
 ·exact h x h1
theorem Dg_take {B : Int} {l : List Int} (h : Dg B l) (i : Nat) : Dg B (l.take i) := fun x hx => h x (List.mem_of_mem_take hx)
theorem Dg_drop {B : Int} {l : List Int} (h : Dg B l) (i : Nat) : Dg B (l.drop i) := fun x hx => h x (List.mem_of_mem_drop hx)
theorem Dg_get {B : Int} {l : List Int} (h : Dg B l) {i : Nat} (hi : i < l.length) : 0 ≤ l[i] ∧ l[i] < B := h _ (List.getElem_mem hi)
theorem Dg_set {B d : Int} {l : List Int} (h : Dg B l) (h0 : 0 ≤ d ∧ d < B) (i : Nat) : Dg B (l.set i d) := by
 intro x hx
 rcases List.mem_or_eq_of_mem_set hx with h1 | h1
 ·exact h x h1
 ·rw [h1]; exact h0
theorem Dg_zeros {B : Int} (hB : 0 < B) (n : Nat) : Dg B (List.replicate n 0) := by
 intro x hx
 have := (List.mem_replicate.1 hx).2
 omega
theorem V_zeros (B : Int) : ∀ n, V B (List.replicate n 0) = 0
 | 0 => rfl
 | n + 1 => by simp [List.replicate_succ, V, V_zeros B n]
theorem V_nonneg {B : Int} (hB : 0 ≤ B) : ∀ {l : List Int}, Dg B l → 0 ≤ V B l
 | [], _ => Int.le_refl 0
 | d :: l, h => by
  have h1 := V_nonneg hB (Dg_tail h)
  have h2 := Dg_head h
  have := Int.mul_nonneg hB h1
  simp only [V]; omega
theorem V_lt {B : Int} (hB : 0 < B) : ∀ {l : List Int}, Dg B l → V B l < B ^ l.length
 | [], _ => by simp [V]
 | d :: l, h => by
  have h1 := V_lt hB (Dg_tail h)
  have h2 := Dg_head h
  simp only [V, List.length_cons, Int.pow_succ]
  have h3 : B * (V B l + 1) ≤ B * B ^ l.length := Int.mul_le_mul_of_nonneg_left (by omega) (by omega)
  rw [Int.mul_comm (B ^ l.length) B]
  rw [Int.mul_add] at h3
  omega
def digs (B n : Nat) : List Int := if _h : n = 0 ∨ B < 2 then [] else ((n % B : Nat) : Int) :: digs B (n / B)
termination_by n
decreasing_by exact Nat.div_lt_self (by omega) (by omega)
theorem digs_zero (B : Nat) : digs B 0 = [] := by rw [digs]; simp
theorem digs_pos {B n : Nat} (hB : 2 ≤ B) (hn : n ≠ 0) : digs B n = ((n % B : Nat) : Int) :: digs B (n / B) := by
 rw [digs, dif_neg (by omega)]
theorem V_digs {B : Nat} (hB : 2 ≤ B) (n : Nat) : V B (digs B n) = n := by
 induction n using Nat.strongRecOn with
 | _ n ih =>
  by_cases hn : n = 0
  ·subst hn; rw [digs_zero]; rfl
  ·rw [digs_pos hB hn]
   simp only [V]
   rw [ih (n / B) (Nat.div_lt_self (by omega) (by omega))]
   have := Nat.mod_add_div n B
   have h2 : ((n % B : Nat) : Int) + (B : Int) * ((n / B : Nat) : Int) = ((n % B + B * (n / B) : Nat) : Int) := by simp
   rw [h2, this]
theorem digs_dg {B : Nat} (hB : 2 ≤ B) (n : Nat) : Dg B (digs B n) := by
 induction n using Nat.strongRecOn with
 | _ n ih =>
  by_cases hn : n = 0
  ·subst hn; rw [digs_zero]; exact Dg_nil _
  ·rw [digs_pos hB hn]
   refine Dg_cons ⟨by omega, ?_⟩ (ih (n / B) (Nat.div_lt_self (by omega) (by omega)))
   have := Nat.mod_lt n (show 0 < B by omega)
   omega
theorem digs_ne_nil {B : Nat} (hB : 2 ≤ B) {n : Nat} (hn : n ≠ 0) : digs B n ≠ [] := by rw [digs_pos hB hn]; simp
theorem Cn_nil : Cn [] := by simp [Cn]
theorem Cn_cons {d : Int} {l : List Int} : Cn (d :: l) ↔ (if l = [] then d ≠ 0 else Cn l) := by
 cases l with
 | nil => simp [Cn]
 | cons e l => simp [Cn, List.getLast?_cons_cons]
theorem digs_cn {B : Nat} (hB : 2 ≤ B) (n : Nat) : Cn (digs B n) := by
 induction n using Nat.strongRecOn with
 | _ n ih =>
  by_cases hn : n = 0
  ·subst hn; rw [digs_zero]; exact Cn_nil
  ·rw [digs_pos hB hn, Cn_cons]
   split
   ·rename_i h
    by_cases h2 : n / B = 0
    ·have := Nat.mod_add_div n B
     rw [h2, Nat.mul_zero] at this
     omega
    ·exact absurd h (digs_ne_nil hB h2)
   ·exact ih (n / B) (Nat.div_lt_self (by omega) (by omega))
theorem V_eq_zero {B : Int} (hB : 0 < B) : ∀ {l : List Int}, Dg B l → Cn l → V B l = 0 → l = []
 | [], _, _, _ => rfl
 | d :: l, hd, hc, h => by
  have h1 := V_nonneg (by omega) (Dg_tail hd)
  have h2 := Dg_head hd
  simp only [V] at h
  have h3 := Int.mul_nonneg (show 0 ≤ B by omega) h1
  have h4 : B * V B l = 0 := by omega
  have h5 : V B l = 0 := by
   rcases Int.mul_eq_zero.1 h4 with h | h
   ·omega
   ·exact h
  rw [Cn_cons] at hc
  split at hc
  ·omega
  ·rename_i hl; exact absurd (V_eq_zero hB (Dg_tail hd) hc h5) hl
theorem digs_uniq {B : Nat} (hB : 2 ≤ B) : ∀ {l : List Int} {n : Nat}, Dg B l → Cn l → V B l = n → l = digs B n
 | [], n, _, _, h => by
  have : n = 0 := by simp [V] at h; omega
  subst this; rw [digs_zero]
 | d :: l, n, hd, hc, h => by
  have h1 := V_nonneg (by omega) (Dg_tail hd)
  have h2 := Dg_head hd
  have hn : n ≠ 0 := by
   intro h0
   have := V_eq_zero (by omega) hd hc (by rw [h, h0]; rfl)
   cases this
  rw [digs_pos hB hn]
  simp only [V] at h
  obtain ⟨v, hv⟩ := Int.eq_ofNat_of_zero_le h1
  obtain ⟨e, he⟩ := Int.eq_ofNat_of_zero_le h2.1
  rw [hv, he] at h
  have h3 : e + B * v = n := by
   have : ((e + B * v : Nat) : Int) = (n : Int) := by simpa using h
   exact Int.ofNat.inj this
  have h4 : e < B := by omega
  have h5 : n % B = e := by rw [← h3, Nat.add_mul_mod_self_left, Nat.mod_eq_of_lt h4]
  have h6 : n / B = v := by rw [← h3, Nat.add_mul_div_left _ _ (by omega), Nat.div_eq_of_lt h4, Nat.zero_add]
  rw [h5, h6, he]
  congr 1
  refine digs_uniq hB (Dg_tail hd) ?_ hv
  rw [Cn_cons] at hc
  split at hc
  ·rename_i hl; rw [hl]; exact Cn_nil
  ·exact hc
theorem digs_length_le {B : Nat} (hB : 2 ≤ B) : ∀ {k n : Nat}, n < B ^ k → (digs B n).length ≤ k
 | 0, n, h => by
  have : n = 0 := by simpa using h
  subst this; rw [digs_zero]; simp
 | k + 1, n, h => by
  by_cases hn : n = 0
  ·subst hn; rw [digs_zero]; simp
  ·rw [digs_pos hB hn, List.length_cons]
   have := digs_length_le (k := k) hB (n := n / B) (by rw [Nat.div_lt_iff_lt_mul (by omega)]; rw [Nat.pow_succ] at h; exact h)
   omega
theorem lt_pow_digs {B : Nat} (hB : 2 ≤ B) (n : Nat) : n < B ^ (digs B n).length := by
 have h := V_lt (B := B) (by omega) (digs_dg hB n)
 rw [V_digs hB] at h
 have : ((B : Int) ^ (digs B n).length) = ((B ^ (digs B n).length : Nat) : Int) := by simp
 rw [this] at h
 omega
theorem pow_le_digs {B : Nat} (hB : 2 ≤ B) {n : Nat} (hn : n ≠ 0) : B ^ ((digs B n).length - 1) ≤ n := by
 rcases Nat.lt_or_ge n (B ^ ((digs B n).length - 1)) with h | h
 ·have := digs_length_le hB h
  have h2 : (digs B n).length ≠ 0 := by
   intro h3; exact digs_ne_nil hB hn (List.length_eq_zero_iff.1 h3)
  omega
 ·exact h
theorem digs_inj {B : Nat} (hB : 2 ≤ B) {m n : Nat} (h : digs B m = digs B n) : m = n := by
 have h1 := V_digs hB m
 have h2 := V_digs hB n
 rw [h] at h1
 omega
theorem digs_small {B : Nat} (hB : 2 ≤ B) {d : Nat} (h0 : d ≠ 0) (h1 : d < B) : digs B d = [(d : Int)] := by
 rw [digs_pos hB h0, Nat.mod_eq_of_lt h1, Nat.div_eq_of_lt h1, digs_zero]
noncomputable def spec {α A R : Type} (enc : α → A) (pre : α → Prop) (f : α → R) (x : A) : Option R :=
 open Classical in if h : ∃ a, pre a ∧ enc a = x then some (f h.choose) else none
theorem spec_at {α A R : Type} {enc : α → A} {pre : α → Prop} {f : α → R} (a : α) (h : pre a) (hinj : ∀ b, enc b = enc a → b = a) : spec enc pre f (enc a) = some (f a) := by
 have hex : ∃ b, pre b ∧ enc b = enc a := ⟨a, h, rfl⟩
 unfold spec
 rw [dif_pos hex, hinj _ hex.choose_spec.2]
theorem spec_some {α A R : Type} {enc : α → A} {pre : α → Prop} {f : α → R} {x : A} {y : R} (h : spec enc pre f x = some y) : ∃ a, pre a ∧ x = enc a ∧ y = f a := by
 unfold spec at h
 split at h
 ·rename_i hex
  injection h with h
  exact ⟨_, hex.choose_spec.1, hex.choose_spec.2.symm, h.symm⟩
 ·cases h
theorem len_eq {α : Type} (l : List α) : len l = (l.length : Int) := rfl
theorem gi_eq {α : Type} {l : List α} {i : Int} {d : α} {k : Nat} (h : i = k) (hk : k < l.length) : gi l i d = l[k] := by
 subst h; unfold gi; simp [hk]
theorem uT {α : Type} {b : Bool} {x y : TT α} {r : Option α} (h : b = true) (hx : x.toO = r) : (TT.ite b x y).toO = r := by subst h; exact hx
theorem uF {α : Type} {b : Bool} {x y : TT α} {r : Option α} (h : b = false) (hy : y.toO = r) : (TT.ite b x y).toO = r := by subst h; exact hy
theorem uN {α : Type} {p : Prop} {x : TT α} {r : Option α} (h : p) (hx : x.toO = r) : (TT.need p x).toO = r := by rw [toO_need _ _ h]; exact hx
theorem uV {α : Type} {p : Prop} {h : p} {x : TT α} {r : Option α} (hx : x.toO = r) : (TT.triv p h x).toO = r := hx
theorem uB {α β : Type} {b : β} {x : β → TT α} {r : Option α} (hx : (x b).toO = r) : (TT.lt b x).toO = r := hx
theorem uC {α β : Type} {o : Option β} {d : β} {x : β → TT α} {r : Option α} (y : β) (h : o = some y) (hx : (x y).toO = r) : (TT.call o d x).toO = r := by subst h; exact hx
theorem uO {α ι : Type} {t : Nat} {H : TT ι} {R : ι → TT (ι ⊕ α)} {r : Option α} (i : ι) (h : H.toO = some i) (hx : loopO (fun i => (R i).toO) i = r) : (TT.loop t H R).toO = r := by rw [toO_loop h]; exact hx
theorem uL {α ι : Type} {t : Nat} {H : TT (ι ⊕ α)} {R : ι → TT α} {r : Option α} (i : ι) (h : H.toO = some (.inl i)) (hx : (R i).toO = r) : (TT.join t H R).toO = r := by rw [toO_joinL h]; exact hx
theorem uR {α ι : Type} {t : Nat} {H : TT (ι ⊕ α)} {R : ι → TT α} (a : α) (h : H.toO = some (.inr a)) : (TT.join t H R).toO = some a := by rw [toO_joinR h]
end Go.Vs
namespace Go.Vs
open Go Go.Vg
def decN (n : Nat) : List UInt8 := Lib.decDigits n
def dec (z : Int) : List UInt8 := if z < 0 then 45 :: decN z.natAbs else decN z.natAbs
def isD (s : List UInt8) : Prop := ∀ c ∈ s, 48 ≤ c.toNat ∧ c.toNat ≤ 57
def dv (c : UInt8) : Nat := c.toNat - 48
def numF (a : Nat) (s : List UInt8) : Nat := s.foldl (fun a c => a * 10 + dv c) a
def num (s : List UInt8) : Nat := numF 0 s
def mag (n : Nat) : List Int := digs 1000000000 n
def cmpI (a b : Int) : Int := if a < b then -1 else if a = b then 0 else 1
theorem mag_dg (n : Nat) : Dg 1000000000 (mag n) := digs_dg (B := 1000000000) (by omega) n
theorem mag_cn (n : Nat) : Cn (mag n) := digs_cn (B := 1000000000) (by omega) n
theorem V_mag (n : Nat) : V 1000000000 (mag n) = n := V_digs (B := 1000000000) (by omega) n
theorem mag_inj {m n : Nat} (h : mag m = mag n) : m = n := digs_inj (B := 1000000000) (by omega) h
theorem mag_uniq {l : List Int} {n : Nat} (h1 : Dg 1000000000 l) (h2 : Cn l) (h3 : V 1000000000 l = n) : l = mag n := digs_uniq (B := 1000000000) (by omega) h1 h2 h3
noncomputable def S_itoa (x : Int × Unit) : Option (List UInt8 × Unit) := if -9223372036854775808 ≤ x.1 ∧ x.1 ≤ 9223372036854775807 then some (dec x.1, ()) else none
noncomputable def S_rept (x : List UInt8 × Int × Unit) : Option (List UInt8 × Unit) := if 0 ≤ x.2.1 ∧ x.2.1 ≤ 100000 ∧ x.1.length ≤ 1000 then some ((List.replicate x.2.1.toNat x.1).flatten, ()) else none
noncomputable def S_fm_zero (x : List Int × Unit) : Option (Bool × Unit) := some (len x.1 == 0, ())
open Classical in
noncomputable def S_fm_trim (x : List Int × Unit) : Option (List Int × Unit) := if Dg 1000000000 x.1 ∧ x.1.length ≤ 2000000000000 then some (mag (V 1000000000 x.1).toNat, ()) else none
noncomputable def S_fm_small : List Int × Unit → Option (Int × Unit) := spec (fun n : Nat => (mag n, ())) (fun n => n < 1000000000000000000) (fun n => ((n : Int), ()))
noncomputable def S_fm_compare : List Int × List Int × Unit → Option (Int × Unit) := spec (fun p : Nat × Nat => (mag p.1, mag p.2, ())) (fun p => (mag p.1).length ≤ 1000000000000 ∧ (mag p.2).length ≤ 1000000000000) (fun p => (cmpI p.1 p.2, ()))
noncomputable def S_fm_plus : List Int × List Int × Unit → Option (List Int × Unit) := spec (fun p : Nat × Nat => (mag p.1, mag p.2, ())) (fun p => (mag p.1).length ≤ 1000000000000 ∧ (mag p.2).length ≤ 1000000000000) (fun p => (mag (p.1 + p.2), ()))
noncomputable def S_fm_minus : List Int × List Int × Unit → Option (List Int × Unit) := spec (fun p : Nat × Nat => (mag p.1, mag p.2, ())) (fun p => (mag p.1).length ≤ 1000000000000 ∧ p.2 ≤ p.1) (fun p => (mag (p.1 - p.2), ()))
noncomputable def S_fm_times : List Int × List Int × Unit → Option (List Int × Unit) := spec (fun p : Nat × Nat => (mag p.1, mag p.2, ())) (fun p => (mag p.1).length ≤ 1000000000000 ∧ (mag p.2).length ≤ 1000000000000) (fun p => (mag (p.1 * p.2), ()))
noncomputable def S_fm_short : List Int × Int × Unit → Option (List Int × Int × Unit) := spec (fun p : Nat × Nat => (mag p.1, (p.2 : Int), ())) (fun p => (mag p.1).length ≤ 1000000000000 ∧ 0 < p.2 ∧ p.2 < 4294967296) (fun p => (mag (p.1 / p.2), ((p.1 % p.2 : Nat) : Int), ()))
noncomputable def S_f_fromSmall (x : Int × Unit) : Option (List Int × Unit) := if 0 ≤ x.1 ∧ x.1 < 18446744073709551616 then some (mag x.1.toNat, ()) else none
open Classical in
noncomputable def S_f_gather (x : List UInt8 × Unit) : Option (List Int × Unit) := if isD x.1 ∧ x.1 ≠ [] ∧ x.1.length ≤ 1000000000000 then some (mag (num x.1), ()) else none
noncomputable def S_fm_length : List Int × Unit → Option (Int × Unit) := spec (fun n : Nat => (mag n, ())) (fun n => (mag n).length ≤ 1000000000000) (fun n => (((decN n).length : Int), ()))
noncomputable def S_fm_digits : List Int × Unit → Option (List UInt8 × Unit) := spec (fun n : Nat => (mag n, ())) (fun n => (mag n).length ≤ 1000000) (fun n => (decN n, ()))
noncomputable def S_fm_divide : List Int × List Int × Unit → Option (List Int × List Int × Unit) := spec (fun p : Nat × Nat => (mag p.1, mag p.2, ())) (fun p => (mag p.1).length ≤ 100000000000 ∧ (mag p.2).length ≤ 100000000000 ∧ p.2 ≠ 0) (fun p => (mag (p.1 / p.2), mag (p.1 % p.2), ()))
noncomputable def S_fm_gcd : List Int × List Int × Unit → Option (List Int × Unit) := spec (fun p : Nat × Nat => (mag p.1, mag p.2, ())) (fun p => (mag p.1).length ≤ 100000000000 ∧ (mag p.2).length ≤ 100000000000) (fun p => (mag (Nat.gcd p.1 p.2), ()))
noncomputable def S_wm_zero (x : List Int × Unit) : Option (Bool × Unit) := some (len x.1 == 0, ())
open Classical in
noncomputable def S_wm_trim (x : List Int × Unit) : Option (List Int × Unit) := if Dg 1000000000 x.1 ∧ x.1.length ≤ 2000000000000 then some (mag (V 1000000000 x.1).toNat, ()) else none
noncomputable def S_wm_compare : List Int × List Int × Unit → Option (Int × Unit) := spec (fun p : Nat × Nat => (mag p.1, mag p.2, ())) (fun p => (mag p.1).length ≤ 1000000000000 ∧ (mag p.2).length ≤ 1000000000000) (fun p => (cmpI p.1 p.2, ()))
noncomputable def S_wm_plus : List Int × List Int × Unit → Option (List Int × Unit) := spec (fun p : Nat × Nat => (mag p.1, mag p.2, ())) (fun p => (mag p.1).length ≤ 1000000000000 ∧ (mag p.2).length ≤ 1000000000000) (fun p => (mag (p.1 + p.2), ()))
noncomputable def S_wm_minus : List Int × List Int × Unit → Option (List Int × Unit) := spec (fun p : Nat × Nat => (mag p.1, mag p.2, ())) (fun p => (mag p.1).length ≤ 1000000000000 ∧ p.2 ≤ p.1) (fun p => (mag (p.1 - p.2), ()))
noncomputable def S_wm_times : List Int × List Int × Unit → Option (List Int × Unit) := spec (fun p : Nat × Nat => (mag p.1, mag p.2, ())) (fun p => (mag p.1).length ≤ 1000000000000 ∧ (mag p.2).length ≤ 1000000000000) (fun p => (mag (p.1 * p.2), ()))
noncomputable def S_wm_short : List Int × Int × Unit → Option (List Int × Int × Unit) := spec (fun p : Nat × Nat => (mag p.1, (p.2 : Int), ())) (fun p => (mag p.1).length ≤ 1000000000000 ∧ 0 < p.2 ∧ p.2 < 4294967296) (fun p => (mag (p.1 / p.2), ((p.1 % p.2 : Nat) : Int), ()))
noncomputable def S_w_fromSmall (x : Int × Unit) : Option (List Int × Unit) := if 0 ≤ x.1 ∧ x.1 < 18446744073709551616 then some (mag x.1.toNat, ()) else none
open Classical in
noncomputable def S_w_gather (x : List UInt8 × Unit) : Option (List Int × Unit) := if isD x.1 ∧ x.1 ≠ [] ∧ x.1.length ≤ 1000000000000 then some (mag (num x.1), ()) else none
noncomputable def S_wm_length : List Int × Unit → Option (Int × Unit) := spec (fun n : Nat => (mag n, ())) (fun n => (mag n).length ≤ 1000000000000) (fun n => (((decN n).length : Int), ()))
noncomputable def S_wm_digits : List Int × Unit → Option (List UInt8 × Unit) := spec (fun n : Nat => (mag n, ())) (fun n => (mag n).length ≤ 1000000) (fun n => (decN n, ()))
noncomputable def S_wm_divide : List Int × List Int × Unit → Option (List Int × List Int × Unit) := spec (fun p : Nat × Nat => (mag p.1, mag p.2, ())) (fun p => (mag p.1).length ≤ 100000000000 ∧ (mag p.2).length ≤ 100000000000 ∧ p.2 ≠ 0) (fun p => (mag (p.1 / p.2), mag (p.1 % p.2), ()))
end Go.Vs
namespace Go.Vs
open Go Go.Vg
theorem powI_le {B : Int} (hB : 0 < B) {i j : Nat} (h : i ≤ j) : B ^ i ≤ B ^ j := by
 obtain ⟨k, rfl⟩ := Nat.exists_eq_add_of_le h
 rw [Int.pow_add]
 have h1 : 1 ≤ B ^ k := Int.pow_pos hB
 have h2 : 0 < B ^ i := Int.pow_pos hB
 have := Int.mul_le_mul_of_nonneg_left h1 (Int.le_of_lt h2)
 omega
theorem gi_nat {α : Type} (l : List α) (k : Nat) (d : α) : gi l (k : Int) d = l.getD k d := by unfold gi; rw [Int.toNat_natCast]
theorem getD_lt {l : List Int} {k : Nat} (h : k < l.length) (d : Int) : l.getD k d = l[k] := by simp [h]
theorem getD_ge {l : List Int} {k : Nat} (h : l.length ≤ k) (d : Int) : l.getD k d = d := by simp [h]
theorem Dg_getD {B : Int} (hB : 0 < B) {l : List Int} (h : Dg B l) (k : Nat) : 0 ≤ l.getD k 0 ∧ l.getD k 0 < B := by
 rcases Nat.lt_or_ge k l.length with hk | hk
 ·rw [getD_lt hk]; exact Dg_get h hk
 ·rw [getD_ge hk]; omega
theorem V_take_succD (B : Int) (l : List Int) (k : Nat) : V B (l.take (k + 1)) = V B (l.take k) + B ^ k * l.getD k 0 := by
 rcases Nat.lt_or_ge k l.length with hk | hk
 ·rw [getD_lt hk]; exact V_take_succ B hk
 ·rw [getD_ge hk, List.take_of_length_le (by omega), List.take_of_length_le hk]; omega
theorem V_drop_succD (B : Int) (l : List Int) (k : Nat) : V B (l.drop k) = l.getD k 0 + B * V B (l.drop (k + 1)) := by
 rcases Nat.lt_or_ge k l.length with hk | hk
 ·rw [getD_lt hk]; exact V_drop_eq B hk
 ·rw [getD_ge hk, List.drop_of_length_le hk, List.drop_of_length_le (by omega)]; simp [V]
theorem V_drop_ge (B : Int) {l : List Int} {k : Nat} (h : l.length ≤ k) : V B (l.drop k) = 0 := by rw [List.drop_of_length_le h]; rfl
theorem V_take_ge (B : Int) {l : List Int} {k : Nat} (h : l.length ≤ k) : V B (l.take k) = V B l := by rw [List.take_of_length_le h]
theorem V_splitD (B : Int) (l : List Int) (k : Nat) : V B l = V B (l.take k) + B ^ k * V B (l.drop k) := by
 rcases Nat.lt_or_ge k l.length with hk | hk
 ·exact V_split B l k (by omega)
 ·rw [V_drop_ge B hk, V_take_ge B hk]; omega
theorem V_take_lt {B : Int} (hB : 0 < B) {l : List Int} (h : Dg B l) (k : Nat) : V B (l.take k) < B ^ k := by
 rcases Nat.lt_or_ge k l.length with hk | hk
 ·have := V_lt hB (Dg_take h k)
  rwa [List.length_take, Nat.min_eq_left (by omega)] at this
 ·rw [V_take_ge B hk]
  have h1 := V_lt hB h
  have h2 : B ^ l.length ≤ B ^ k := powI_le hB hk
  omega
theorem V_drop_le {B : Int} (hB : 1 ≤ B) {l : List Int} (h : Dg B l) (k : Nat) : V B (l.drop k) ≤ V B l := by
 have h1 := V_splitD B l k
 have h2 := V_nonneg (by omega) (Dg_take h k)
 have h3 := V_nonneg (by omega) (Dg_drop h k)
 have h4 : 1 * V B (l.drop k) ≤ B ^ k * V B (l.drop k) := Int.mul_le_mul_of_nonneg_right (Int.pow_pos (by omega)) h3
 omega
theorem pow_pos' {B : Int} (hB : 1 ≤ B) (k : Nat) : 1 ≤ B ^ k := Int.pow_pos (by omega)
theorem take_set_same (l : List Int) (k : Nat) (x : Int) : (l.set k x).take k = l.take k := by
 rw [List.take_set_of_le (Nat.le_refl k)]
theorem V_take_set (B : Int) {l : List Int} {k : Nat} (hk : k < l.length) (x : Int) : V B ((l.set k x).take (k + 1)) = V B (l.take k) + B ^ k * x := by
 rw [V_take_succD, take_set_same, getD_lt (by simpa using hk)]
 simp
theorem drop_set_lt (l : List Int) {k j : Nat} (h : k < j) (x : Int) : (l.set k x).drop j = l.drop j := by
 rw [List.drop_set_of_lt h]
theorem V_set (B : Int) : ∀ {l : List Int} {k : Nat}, k < l.length → ∀ x, V B (l.set k x) = V B l + B ^ k * (x - l.getD k 0)
 | [], k, h, _ => by simp at h
 | d :: l, 0, _, x => by simp [V]; omega
 | d :: l, k + 1, h, x => by
  simp only [List.set_cons_succ, V, List.getD_cons_succ]
  rw [V_set B (by simpa using h) x, Int.pow_succ]
  grind
theorem getD_set_ne (l : List Int) {k j : Nat} (h : k ≠ j) (x : Int) : (l.set k x).getD j 0 = l.getD j 0 := by
 simp [List.getD_eq_getElem?_getD, List.getElem?_set_ne h]
theorem getD_set_eq {l : List Int} {k : Nat} (h : k < l.length) (x : Int) : (l.set k x).getD k 0 = x := by
 simp [List.getD_eq_getElem?_getD, h]
theorem getD_zero_of_lt {B : Int} (hB : 1 < B) {l : List Int} (h : Dg B l) {k : Nat} (hv : V B l < B ^ k) : ∀ j, k ≤ j → l.getD j 0 = 0 := by
 intro j hj
 have h1 := V_splitD B l j
 have h2 := V_nonneg (by omega) (Dg_take h j)
 have h3 := V_nonneg (by omega) (Dg_drop h j)
 have h4 := V_drop_succD B l j
 have h5 := V_nonneg (by omega) (Dg_drop h (j + 1))
 have h6 := Dg_getD (by omega) h j
 have h7 : B ^ k ≤ B ^ j := powI_le (by omega) hj
 have h8 := Int.mul_nonneg (show 0 ≤ B by omega) h5
 rcases Int.lt_or_le 0 (V B (l.drop j)) with h9 | h9
 ·have : B ^ j * 1 ≤ B ^ j * V B (l.drop j) := Int.mul_le_mul_of_nonneg_left (by omega) (by have := pow_pos' (show 1 ≤ B by omega) j; omega)
  omega
 ·omega
theorem Cn_of_ge {B : Int} (hB : 0 < B) {l : List Int} (h : Dg B l) (hv : l = [] ∨ B ^ (l.length - 1) ≤ V B l) : Cn l := by
 rcases hv with rfl | hv
 ·exact Cn_nil
 ·rcases Nat.eq_zero_or_pos l.length with hl | hl
  ·rw [List.length_eq_zero_iff.1 hl]; exact Cn_nil
  ·unfold Cn
   rw [List.getLast?_eq_getElem?, List.getElem?_eq_getElem (by omega)]
   intro h0
   injection h0 with h0
   have h1 := V_take_succ B (l := l) (i := l.length - 1) (by omega)
   rw [h0, show l.length - 1 + 1 = l.length by omega, List.take_length] at h1
   have h2 := V_take_lt hB h (l.length - 1)
   omega
theorem mag_length_le_iff {n k : Nat} : (mag n).length ≤ k ↔ n < 1000000000 ^ k := by
 constructor
 ·intro h
  have h1 := lt_pow_digs (B := 1000000000) (by omega) n
  exact Nat.lt_of_lt_of_le h1 (Nat.pow_le_pow_right (by omega) h)
 ·intro h
  exact digs_length_le (by omega) h
theorem mag_length_mono {m n : Nat} (h : m ≤ n) : (mag m).length ≤ (mag n).length := by
 rw [mag_length_le_iff]
 exact Nat.lt_of_le_of_lt h (mag_length_le_iff.1 (Nat.le_refl _))
theorem mag_length_add (m n : Nat) : (mag (m + n)).length ≤ max (mag m).length (mag n).length + 1 := by
 rw [mag_length_le_iff]
 have h1 := mag_length_le_iff.1 (Nat.le_max_left (mag m).length (mag n).length)
 have h2 := mag_length_le_iff.1 (Nat.le_max_right (mag m).length (mag n).length)
 rw [Nat.pow_succ]
 have := Nat.mul_le_mul_left (1000000000 ^ max (mag m).length (mag n).length) (show 2 ≤ 1000000000 by omega)
 omega
theorem mag_length_mul (m n : Nat) : (mag (m * n)).length ≤ (mag m).length + (mag n).length := by
 rw [mag_length_le_iff, Nat.pow_add]
 have h1 := mag_length_le_iff.1 (Nat.le_refl (mag m).length)
 have h2 := mag_length_le_iff.1 (Nat.le_refl (mag n).length)
 exact Nat.mul_lt_mul'' h1 h2
theorem mag_zero : mag 0 = [] := digs_zero _
theorem mag_nil_iff {n : Nat} : mag n = [] ↔ n = 0 := by
 constructor
 ·intro h
  exact mag_inj (h.trans mag_zero.symm)
 ·rintro rfl; exact mag_zero
theorem mag_small {d : Nat} (h0 : d ≠ 0) (h1 : d < 1000000000) : mag d = [(d : Int)] := digs_small (by omega) h0 h1
theorem cmp_of_lengths {m n : Nat} (h : (mag m).length < (mag n).length) : m < n := by
 have h1 := mag_length_le_iff.1 (Nat.le_refl (mag m).length)
 rcases Nat.lt_or_ge m n with h2 | h2
 ·exact h2
 ·have := mag_length_mono h2; omega
theorem enc2_inj {p q : Nat × Nat} (h : (mag p.1, mag p.2, ()) = (mag q.1, mag q.2, ())) : p = q := by
 injection h with h1 h2
 injection h2 with h2 _
 exact Prod.ext (mag_inj h1) (mag_inj h2)
end Go.Vs
namespace Go.Vs
open Go Go.Vg
theorem decN_one {n : Nat} (h : n < 10) : decN n = [UInt8.ofNat (48 + n)] := by unfold decN; rw [Lib.decDigits, dif_pos h]
theorem decN_step {n : Nat} (h : 10 ≤ n) : decN n = decN (n / 10) ++ [UInt8.ofNat (48 + n % 10)] := by
 unfold decN; conv => lhs; rw [Lib.decDigits, dif_neg (by omega)]
theorem decN_ne_nil (n : Nat) : decN n ≠ [] := by
 rcases Nat.lt_or_ge n 10 with h | h
 ·rw [decN_one h]; simp
 ·rw [decN_step h]; simp
theorem snocInd {α : Type} {P : List α → Prop} (nil : P []) (snoc : ∀ l a, P l → P (l ++ [a])) (l : List α) : P l := by
 have H : ∀ m : List α, P m.reverse := by
  intro m
  induction m with
  | nil => exact nil
  | cons a m ih => rw [List.reverse_cons]; exact snoc _ _ ih
 have := H l.reverse
 rwa [List.reverse_reverse] at this
theorem byte_dig {d : Nat} (h : d < 10) : (UInt8.ofNat (48 + d)).toNat = 48 + d := by simp [UInt8.toNat_ofNat]; omega
theorem isD_append {s t : List UInt8} : isD (s ++ t) ↔ isD s ∧ isD t := by
 constructor
 ·intro h
  exact ⟨fun c hc => h c (List.mem_append_left _ hc), fun c hc => h c (List.mem_append_right _ hc)⟩
 ·rintro ⟨h1, h2⟩ c hc
  rcases List.mem_append.1 hc with h | h
  ·exact h1 c h
  ·exact h2 c h
theorem isD_one {d : Nat} (h : d < 10) : isD [UInt8.ofNat (48 + d)] := by
 intro c hc
 have := List.mem_singleton.1 hc
 subst this
 rw [byte_dig h]; omega
theorem numF_cons (a : Nat) (c : UInt8) (s : List UInt8) : numF a (c :: s) = numF (a * 10 + dv c) s := List.foldl_cons ..
theorem numF_append (s t : List UInt8) (a : Nat) : numF a (s ++ t) = numF (numF a s) t := List.foldl_append ..
theorem numF_add (s : List UInt8) : ∀ a : Nat, numF a s = a * 10 ^ s.length + numF 0 s := by
 induction s with
 | nil => intro a; simp [numF]
 | cons c s ih =>
  intro a
  rw [numF_cons, numF_cons, Nat.zero_mul, Nat.zero_add]
  generalize dv c = x
  rw [ih (a * 10 + x), ih x, List.length_cons, Nat.pow_succ]
  generalize 10 ^ s.length = y
  rw [Nat.add_mul, Nat.mul_comm y 10, Nat.mul_assoc, Nat.add_assoc]
theorem dv_one {d : Nat} (h : d < 10) : dv (UInt8.ofNat (48 + d)) = d := by unfold dv; rw [byte_dig h]; omega
theorem numF_eq (s : List UInt8) (a : Nat) : numF a s = a * 10 ^ s.length + num s := numF_add s a
theorem num_append (s t : List UInt8) : num (s ++ t) = num s * 10 ^ t.length + num t := by
 show numF 0 (s ++ t) = _
 rw [numF_append, numF_eq]
 rfl
theorem num_one {d : Nat} (h : d < 10) : num [UInt8.ofNat (48 + d)] = d := by
 show numF 0 [_] = d
 rw [numF_cons, dv_one h]; simp [numF]
theorem num_snoc (s : List UInt8) (c : UInt8) : num (s ++ [c]) = num s * 10 + dv c := by
 rw [num_append]; simp [num, numF]
theorem num_lt {s : List UInt8} : isD s → num s < 10 ^ s.length := by
 induction s using snocInd with
 | nil => intro _; simp [num, numF]
 | snoc s c ih =>
  intro h
  rw [isD_append] at h
  have h1 := ih h.1
  have h2 := h.2 c (by simp)
  have h3 : dv c = c.toNat - 48 := rfl
  rw [num_snoc, List.length_append, List.length_singleton, Nat.pow_succ]
  omega
theorem decN_isD (n : Nat) : isD (decN n) := by
 induction n using Nat.strongRecOn with
 | _ n ih =>
  rcases Nat.lt_or_ge n 10 with h | h
  ·rw [decN_one h]; exact isD_one h
  ·rw [decN_step h, isD_append]
   exact ⟨ih (n / 10) (by omega), isD_one (by omega)⟩
theorem num_decN (n : Nat) : num (decN n) = n := by
 induction n using Nat.strongRecOn with
 | _ n ih =>
  rcases Nat.lt_or_ge n 10 with h | h
  ·rw [decN_one h, num_one h]
  ·rw [decN_step h, num_snoc, ih (n / 10) (by omega), dv_one (by omega)]
   omega
theorem decN_inj {m n : Nat} (h : decN m = decN n) : m = n := by rw [← num_decN m, ← num_decN n, h]
theorem lt_pow_decN (n : Nat) : n < 10 ^ (decN n).length := by
 have := num_lt (decN_isD n)
 rwa [num_decN] at this
theorem decN_length_le : ∀ {k n : Nat}, n < 10 ^ (k + 1) → (decN n).length ≤ k + 1
 | 0, n, h => by rw [decN_one (by simpa using h)]; simp
 | k + 1, n, h => by
  rcases Nat.lt_or_ge n 10 with h9 | h9
  ·rw [decN_one h9]; simp
  ·have := decN_length_le (k := k) (n := n / 10) (by rw [Nat.div_lt_iff_lt_mul (by omega)]; rw [Nat.pow_succ] at h; exact h)
   rw [decN_step h9]; simp; omega
theorem decN_length_pos (n : Nat) : 1 ≤ (decN n).length := List.length_pos_iff.2 (decN_ne_nil n)
theorem decN_length_iff {k n : Nat} (hk : 1 ≤ k) : (decN n).length ≤ k ↔ n < 10 ^ k := by
 constructor
 ·intro h
  exact Nat.lt_of_lt_of_le (lt_pow_decN n) (Nat.pow_le_pow_right (by omega) h)
 ·intro h
  obtain ⟨j, rfl⟩ : ∃ j, k = j + 1 := ⟨k - 1, by omega⟩
  exact decN_length_le h
theorem decN_length_of {k n : Nat} (h1 : 10 ^ k ≤ n) (h2 : n < 10 ^ (k + 1)) : (decN n).length = k + 1 := by
 have h3 := decN_length_le h2
 rcases Nat.lt_or_ge k (decN n).length with h | h
 ·omega
 ·have := lt_pow_decN n
  have h4 := Nat.pow_le_pow_right (n := 10) (by omega) h
  omega
theorem pow_le_decN {n : Nat} (hn : n ≠ 0) : 10 ^ ((decN n).length - 1) ≤ n := by
 rcases Nat.lt_or_ge n (10 ^ ((decN n).length - 1)) with h | h
 ·have h1 := decN_length_pos n
  rcases Nat.lt_or_ge 1 (decN n).length with h2 | h2
  ·have := (decN_length_iff (k := (decN n).length - 1) (by omega)).2 h
   omega
  ·have : (decN n).length - 1 = 0 := by omega
   rw [this] at h; simp at h; omega
 ·exact h
theorem decN_uniq {s : List UInt8} : isD s → s ≠ [] → (s.head? ≠ some 48 ∨ s.length = 1) → s = decN (num s) := by
 induction s using snocInd with
 | nil => intro _ h; exact absurd rfl h
 | snoc s c ih =>
  intro h _ hz
  rw [isD_append] at h
  have h2 := h.2 c (by simp)
  have hdv : dv c = c.toNat - 48 := rfl
  have hc : c = UInt8.ofNat (48 + (c.toNat - 48)) := by
   rw [show 48 + (c.toNat - 48) = c.toNat by omega]; simp
  rw [num_snoc]
  by_cases hs : s = []
  ·subst hs
   simp only [List.nil_append]
   rw [show num [] * 10 + dv c = c.toNat - 48 by simp [num, numF, hdv], decN_one (by omega), ← hc]
  ·have hz' : s.head? ≠ some 48 := by
    rcases hz with h0 | h0
    ·cases s with
     | nil => exact absurd rfl hs
     | cons a s => simpa using h0
    ·have := List.length_pos_iff.2 hs
     rw [List.length_append, List.length_singleton] at h0; omega
   have h3 := ih h.1 hs (Or.inl hz')
   have h4 : 1 ≤ num s := by
    rcases Nat.eq_zero_or_pos (num s) with h0 | h0
    ·rw [h0, decN_one (by omega)] at h3
     rw [h3] at hz'
     simp at hz'
    ·exact h0
   rw [decN_step (n := num s * 10 + dv c) (by omega)]
   rw [show (num s * 10 + dv c) / 10 = num s by omega, show (num s * 10 + dv c) % 10 = c.toNat - 48 by omega, ← h3, ← hc]
theorem decN_head {n : Nat} (h : n ≠ 0) : (decN n).head? ≠ some 48 := by
 induction n using Nat.strongRecOn with
 | _ n ih =>
  rcases Nat.lt_or_ge n 10 with h9 | h9
  ·rw [decN_one h9]
   simp only [List.head?_cons]
   intro h0
   injection h0 with h0
   have := byte_dig h9
   rw [h0] at this
   simp at this; omega
  ·rw [decN_step h9]
   have := ih (n / 10) (by omega) (by omega)
   cases hd : decN (n / 10) with
   | nil => exact absurd hd (decN_ne_nil _)
   | cons a l => rw [hd] at this; simpa using this
theorem dec_nat (n : Nat) : dec (n : Int) = decN n := by unfold dec; rw [if_neg (by omega)]; simp
theorem dec_neg {z : Int} (h : z < 0) : dec z = 45 :: decN z.natAbs := by unfold dec; rw [if_pos h]
theorem dec_nonneg {z : Int} (h : 0 ≤ z) : dec z = decN z.natAbs := by unfold dec; rw [if_neg (by omega)]
theorem decN_head_ne_minus (n : Nat) : (decN n).head? ≠ some 45 := by
 cases hd : decN n with
 | nil => simp
 | cons a l =>
  have := decN_isD n a (by rw [hd]; simp)
  simp only [List.head?_cons]
  intro h
  injection h with h
  rw [h] at this
  simp at this
theorem dec_inj {a b : Int} (h : dec a = dec b) : a = b := by
 rcases Int.lt_or_le a 0 with ha | ha <;> rcases Int.lt_or_le b 0 with hb | hb
 ·rw [dec_neg ha, dec_neg hb] at h
  injection h with _ h
  have := decN_inj h
  omega
 ·rw [dec_neg ha, dec_nonneg hb] at h
  have := decN_head_ne_minus b.natAbs
  rw [← h] at this
  simp at this
 ·rw [dec_neg hb, dec_nonneg ha] at h
  have := decN_head_ne_minus a.natAbs
  rw [h] at this
  simp at this
 ·rw [dec_nonneg ha, dec_nonneg hb] at h
  have := decN_inj h
  omega
theorem dec_length_le (z : Int) : (dec z).length ≤ (decN z.natAbs).length + 1 := by unfold dec; split <;> simp
theorem sd {p : Prop} (h : p := by first | omega | ((try simp only [decide_eq_true_eq, decide_eq_false_iff_not, beq_iff_eq, bne_iff_ne, beq_eq_false_iff_ne, bne_eq_false_iff_eq, Bool.not_eq_true', Bool.not_eq_false']) <;> (try simp only [len_eq, inb, inc, ge_iff_le, gt_iff_lt, Int.toNat_natCast, asT, ne_eq]) <;> omega) | ((try simp only [decide_eq_true_eq, decide_eq_false_iff_not, beq_iff_eq, bne_iff_ne, beq_eq_false_iff_ne, bne_eq_false_iff_eq, Bool.not_eq_true', Bool.not_eq_false']) <;> (try simp only [len_eq, inb, inc, ge_iff_le, gt_iff_lt, Int.toNat_natCast, asT, ne_eq]) <;> (simp (disch := omega) only [w64_id, wu64_id, wu32_id, wu8_id, gi_nat, Nat.zero_add, Int.toNat_natCast, len_eq]; omega)) | fail) : p := h
theorem sn {p : Prop} (h : p := by (try simp only [len_eq, inb, inc, ge_iff_le, gt_iff_lt, Int.toNat_natCast, asT, ne_eq]); omega) : p := h
end Go.Vs
namespace Go.Vs
open Go Go.Vg
def padD (k n : Nat) : List UInt8 := List.replicate (k - (decN n).length) 48 ++ decN n
theorem padD_one {r : Nat} (h : r < 10) : padD 1 r = [UInt8.ofNat (48 + r)] := by
 unfold padD; rw [decN_one h]; rfl
theorem padD_step {k r : Nat} (hk : 1 ≤ k) : padD (k + 1) r = padD k (r / 10) ++ [UInt8.ofNat (48 + r % 10)] := by
 unfold padD
 rcases Nat.lt_or_ge r 10 with h | h
 ·rw [decN_one h, Nat.div_eq_of_lt h, Nat.mod_eq_of_lt h, decN_one (by omega : 0 < 10)]
  obtain ⟨j, rfl⟩ : ∃ j, k = j + 1 := ⟨k - 1, by omega⟩
  have e1 : j + 1 + 1 - [UInt8.ofNat (48 + r)].length = j + 1 := by simp
  have e2 : j + 1 - [UInt8.ofNat (48 + 0)].length = j := by simp
  rw [e1, e2, List.replicate_succ']
  rfl
 ·rw [decN_step h, List.length_append, List.length_singleton, Nat.add_sub_add_right, List.append_assoc]
theorem decN_split {q : Nat} (hq : q ≠ 0) : ∀ {k r : Nat}, 1 ≤ k → r < 10 ^ k → decN (q * 10 ^ k + r) = decN q ++ padD k r := by
 intro k
 induction k with
 | zero => intro r h; omega
 | succ k ih =>
  intro r _ hr
  have h10 : 10 ≤ q * 10 ^ (k + 1) + r := by
   have h1 : 10 ^ (k + 1) ≤ q * 10 ^ (k + 1) := Nat.le_mul_of_pos_left _ (by omega)
   have h2 : 10 ≤ 10 ^ (k + 1) := by
    have := Nat.pow_le_pow_right (show 1 ≤ 10 by omega) (show 1 ≤ k + 1 by omega)
    simpa using this
   omega
  rw [decN_step h10]
  have e1 : q * 10 ^ (k + 1) + r = 10 * (q * 10 ^ k) + r := by rw [Nat.pow_succ]; congr 1; rw [← Nat.mul_assoc, Nat.mul_comm]
  have ed : (q * 10 ^ (k + 1) + r) / 10 = q * 10 ^ k + r / 10 := by rw [e1]; omega
  have em : (q * 10 ^ (k + 1) + r) % 10 = r % 10 := by rw [e1]; omega
  rw [ed, em]
  rcases Nat.eq_zero_or_pos k with h | h
  ·subst h
   have hr' : r < 10 := by simpa using hr
   rw [Nat.div_eq_of_lt hr', Nat.mod_eq_of_lt hr', padD_one hr']
   simp
  ·have hr2 : r / 10 < 10 ^ k := by rw [Nat.div_lt_iff_lt_mul (by omega)]; rw [Nat.pow_succ] at hr; exact hr
   rw [ih h hr2, padD_step h, List.append_assoc]
def bigT : List Int → List UInt8
 | [] => []
 | d :: r => match r with
  | [] => decN d.toNat
  | _ :: _ => bigT r ++ padD 9 d.toNat
theorem bigT_mag (n : Nat) (hn : n ≠ 0) : bigT (mag n) = decN n := by
 induction n using Nat.strongRecOn with
 | _ n ih =>
  unfold mag
  rw [digs_pos (by omega) hn]
  by_cases hq : n / 1000000000 = 0
  ·rw [hq, digs_zero]
   have : n < 1000000000 := by
    rcases Nat.lt_or_ge n 1000000000 with h | h
    ·exact h
    ·have := Nat.div_pos h (by omega); omega
   simp only [bigT, Int.toNat_natCast]
   rw [Nat.mod_eq_of_lt this]
  ·have h1 := ih (n / 1000000000) (Nat.div_lt_self (by omega) (by omega)) hq
   unfold mag at h1
   cases hd : digs 1000000000 (n / 1000000000) with
   | nil => exact absurd hd (digs_ne_nil (by omega) hq)
   | cons e r =>
    rw [hd] at h1
    simp only [bigT, Int.toNat_natCast]
    have h2 := decN_split hq (k := 9) (r := n % 1000000000) (by omega) (Nat.mod_lt _ (by omega))
    have e : n / 1000000000 * 10 ^ 9 + n % 1000000000 = n := by
     have := Nat.div_add_mod n 1000000000
     omega
    rw [e] at h2
    rw [h2, ← h1]
    rfl
theorem bigT_last {l : List Int} {k : Nat} (hk : k + 1 = l.length) : bigT (l.drop k) = decN (l[k]'(by omega)).toNat := by
 rw [List.drop_eq_getElem_cons (by omega), List.drop_eq_nil_of_le (by omega)]
 rfl
theorem bigT_round {l : List Int} {k : Nat} (hk : k + 1 < l.length) : bigT (l.drop k) = bigT (l.drop (k + 1)) ++ padD 9 (l[k]'(by omega)).toNat := by
 rw [List.drop_eq_getElem_cons (by omega), List.drop_eq_getElem_cons (i := k + 1) hk]
 rfl
theorem decN9 {d : Nat} (h : d < 1000000000) : (decN d).length ≤ 9 := decN_length_le (k := 8) h
theorem padD_len {d : Nat} (h : d < 1000000000) : (padD 9 d).length = 9 := by
 have := decN9 h
 unfold padD; simp; omega
theorem bigT_len : ∀ {l : List Int}, Dg 1000000000 l → (bigT l).length ≤ 9 * l.length
 | [], _ => by simp [bigT]
 | [d], h => by
  have := (Dg_head h).2
  have := decN9 (d := d.toNat) (by omega)
  simp only [bigT, List.length_singleton]; omega
 | d :: e :: r, h => by
  have h1 := bigT_len (Dg_tail h)
  have := (Dg_head h).2
  have h2 := padD_len (d := d.toNat) (by omega)
  rw [show bigT (d :: e :: r) = bigT (e :: r) ++ padD 9 d.toNat from rfl, List.length_append]
  simp only [List.length_cons] at h1 ⊢
  omega
end Go.Vs
namespace Go.Vs
open Go Go.Vg
def Bd (k n : Nat) : Prop := (mag n).length ≤ 1000000 * 4 ^ k
theorem bd_le {k j n : Nat} (h : Bd k n) (hk : k ≤ j) : Bd j n := Nat.le_trans h (Nat.mul_le_mul_left _ (Nat.pow_le_pow_right (by omega) hk))
theorem bd_of_le {k m n : Nat} (h : Bd k n) (hm : m ≤ n) : Bd k m := Nat.le_trans (mag_length_mono hm) h
theorem bd_mul {k m n : Nat} (h1 : Bd k m) (h2 : Bd k n) : Bd (k + 1) (m * n) := by
 have := mag_length_mul m n
 unfold Bd at *
 rw [Nat.pow_succ]
 omega
theorem bd_add {k m n : Nat} (h1 : Bd k m) (h2 : Bd k n) : Bd (k + 1) (m + n) := by
 have := mag_length_add m n
 have h3 : 1 ≤ 4 ^ k := Nat.pow_pos (by omega)
 unfold Bd at *
 rw [Nat.pow_succ]
 omega
theorem bd_div {k m : Nat} (n : Nat) (h1 : Bd k m) : Bd k (m / n) := bd_of_le h1 (Nat.div_le_self _ _)
theorem bd_mod {k m : Nat} (n : Nat) (h1 : Bd k m) : Bd k (m % n) := bd_of_le h1 (Nat.mod_le _ _)
theorem bd_gcd {k m n : Nat} (h1 : Bd k m) (h2 : Bd k n) : Bd k (Nat.gcd m n) := by
 rcases Nat.eq_zero_or_pos m with h | h
 ·subst h; rw [Nat.gcd_zero_left]; exact h2
 ·exact bd_of_le h1 (Nat.gcd_le_left _ h)
theorem bd_absadd {k : Nat} {a b : Int} (h1 : Bd k a.natAbs) (h2 : Bd k b.natAbs) : Bd (k + 1) (a + b).natAbs := bd_of_le (bd_add h1 h2) (Int.natAbs_add_le a b)
theorem bd_absmul {k : Nat} {a b : Int} (h1 : Bd k a.natAbs) (h2 : Bd k b.natAbs) : Bd (k + 1) (a * b).natAbs := by rw [Int.natAbs_mul]; exact bd_mul h1 h2
theorem bd_neg {k : Nat} {a : Int} (h1 : Bd k a.natAbs) : Bd k (-a).natAbs := by rw [Int.natAbs_neg]; exact h1
theorem bd_nat {k n : Nat} (h : Bd k n) : Bd k (n : Int).natAbs := h
theorem bd_small {n : Nat} (h : n < 1000000000000000000000000000) : Bd 0 n := by
 unfold Bd
 have : (mag n).length ≤ 3 := mag_length_le_iff.2 (by omega)
 omega
theorem mag_le_of_decN {n k : Nat} (h : (decN n).length ≤ k) : (mag n).length ≤ k := by
 rw [mag_length_le_iff]
 have h1 := lt_pow_decN n
 have h2 : (10 : Nat) ^ (decN n).length ≤ 10 ^ (9 * k) := Nat.pow_le_pow_right (by omega) (by omega)
 have h3 : (10 : Nat) ^ (9 * k) = 1000000000 ^ k := by rw [Nat.pow_mul]
 omega
theorem decN_le_of_mag {n k : Nat} (h : (mag n).length ≤ k) : (decN n).length ≤ 9 * k + 1 := by
 rw [mag_length_le_iff] at h
 have h3 : (10 : Nat) ^ (9 * k) = 1000000000 ^ k := by rw [Nat.pow_mul]
 have h4 : (10 : Nat) ^ (9 * k) ≤ 10 ^ (9 * k + 1) := Nat.pow_le_pow_right (by omega) (by omega)
 exact decN_length_le (by omega)
theorem bd_dec {n : Nat} (h : (decN n).length ≤ 1000000) : Bd 0 n := mag_le_of_decN h
@[reducible] def sg (z : Int) : List Int × Bool × Unit := (mag z.natAbs, decide (z < 0), ())
theorem sg_inj {a b : Int} (h : sg a = sg b) : a = b := by
 obtain ⟨h1, h2⟩ := Prod.mk.inj h
 obtain ⟨h2, -⟩ := Prod.mk.inj h2
 have := mag_inj h1
 simp only [decide_eq_decide] at h2
 omega
@[reducible] def rt (q : Rat) : (List Int × Bool × Unit) × List Int × Unit := (sg q.num, mag q.den, ())
theorem rt_inj {a b : Rat} (h : rt a = rt b) : a = b := by
 obtain ⟨h1, h2⟩ := Prod.mk.inj h
 obtain ⟨h2, -⟩ := Prod.mk.inj h2
 exact Rat.ext (sg_inj h1) (mag_inj h2)
@[reducible] def fx (q : Rat) : List UInt8 × List UInt8 × Unit := (dec q.num, decN q.den, ())
theorem fx_inj {a b : Rat} (h : fx a = fx b) : a = b := by
 obtain ⟨h1, h2⟩ := Prod.mk.inj h
 obtain ⟨h2, -⟩ := Prod.mk.inj h2
 exact Rat.ext (dec_inj h1) (decN_inj h2)
def Fit (z : Int) : Prop := (decN z.natAbs).length ≤ 600
instance (z : Int) : Decidable (Fit z) := inferInstanceAs (Decidable (_ ≤ _))
def FitQ (q : Rat) : Prop := Fit q.num ∧ Fit q.den
instance (q : Rat) : Decidable (FitQ q) := inferInstanceAs (Decidable (_ ∧ _))
theorem bd_fit {z : Int} (h : Fit z) : Bd 0 z.natAbs := bd_dec (Nat.le_trans h (by omega))
noncomputable def rdW (s : List UInt8) : Option Int := open Classical in if h : ∃ z : Int, Fit z ∧ dec z = s then some h.choose else none
theorem rdW_dec {z : Int} (h : Fit z) : rdW (dec z) = some z := by
 have hex : ∃ w : Int, Fit w ∧ dec w = dec z := ⟨z, h, rfl⟩
 unfold rdW
 rw [dif_pos hex, dec_inj hex.choose_spec.2]
theorem rdW_some {s : List UInt8} {z : Int} (h : rdW s = some z) : Fit z ∧ s = dec z := by
 unfold rdW at h
 split at h
 ·rename_i hex
  injection h with h
  subst h
  exact ⟨hex.choose_spec.1, hex.choose_spec.2.symm⟩
 ·cases h
theorem rdW_none {s : List UInt8} (h : ∀ z : Int, Fit z → dec z ≠ s) : rdW s = none := by
 unfold rdW
 rw [dif_neg (fun ⟨z, h1, h2⟩ => h z h1 h2)]
noncomputable def rdF (s : List UInt8 × List UInt8 × Unit) : Option Rat := open Classical in if h : ∃ q : Rat, FitQ q ∧ fx q = s then some h.choose else none
theorem rdF_fx {q : Rat} (h : FitQ q) : rdF (fx q) = some q := by
 have hex : ∃ w : Rat, FitQ w ∧ fx w = fx q := ⟨q, h, rfl⟩
 unfold rdF
 rw [dif_pos hex, fx_inj hex.choose_spec.2]
theorem rdF_some {s : List UInt8 × List UInt8 × Unit} {q : Rat} (h : rdF s = some q) : FitQ q ∧ s = fx q := by
 unfold rdF at h
 split at h
 ·rename_i hex
  injection h with h
  subst h
  exact ⟨hex.choose_spec.1, hex.choose_spec.2.symm⟩
 ·cases h
theorem rdF_none {s : List UInt8 × List UInt8 × Unit} (h : ∀ q : Rat, FitQ q → fx q ≠ s) : rdF s = none := by
 unfold rdF
 rw [dif_neg (fun ⟨z, h1, h2⟩ => h z h1 h2)]
def wrW (z : Int) : List UInt8 × Int × Unit := if Fit z then (dec z, 0, ()) else ([], 6, ())
def wrF (q : Rat) : (List UInt8 × List UInt8 × Unit) × Int × Unit := if FitQ q then (fx q, 0, ()) else (([], [], ()), 6, ())
def S_cutPrefix (x : List UInt8 × List UInt8 × Unit) : Option (List UInt8 × Bool × Unit) := some (if x.2.1.isPrefixOf x.1 then (x.1.drop x.2.1.length, true, ()) else (x.1, false, ()))
theorem L_fm_zero (n : Nat) : S_fm_zero (mag n, ()) = some (decide (n = 0), ()) := by
 unfold S_fm_zero
 rcases Nat.eq_zero_or_pos n with h | h
 ·subst h; simp [mag_zero, len]
 ·have : (mag n) ≠ [] := fun h2 => by have := mag_nil_iff.1 h2; omega
  have h3 : (mag n).length ≠ 0 := fun h2 => this (List.length_eq_zero_iff.1 h2)
  have : (len (mag n) == 0) = false := by rw [len_eq, beq_eq_false_iff_ne]; omega
  rw [this, decide_eq_false (by omega)]
theorem L_fm_compare {a b : Nat} (h1 : Bd 8 a) (h2 : Bd 8 b) : S_fm_compare (mag a, mag b, ()) = some (cmpI a b, ()) := spec_at (enc := fun p : Nat × Nat => (mag p.1, mag p.2, ())) (a, b) ⟨Nat.le_trans h1 (by decide), Nat.le_trans h2 (by decide)⟩ (fun b hb => enc2_inj hb)
theorem L_fm_plus {a b : Nat} (h1 : Bd 8 a) (h2 : Bd 8 b) : S_fm_plus (mag a, mag b, ()) = some (mag (a + b), ()) := spec_at (enc := fun p : Nat × Nat => (mag p.1, mag p.2, ())) (a, b) ⟨Nat.le_trans h1 (by decide), Nat.le_trans h2 (by decide)⟩ (fun b hb => enc2_inj hb)
theorem L_fm_minus {a b : Nat} (h1 : Bd 8 a) (h2 : b ≤ a) : S_fm_minus (mag a, mag b, ()) = some (mag (a - b), ()) := spec_at (enc := fun p : Nat × Nat => (mag p.1, mag p.2, ())) (a, b) ⟨Nat.le_trans h1 (by decide), h2⟩ (fun b hb => enc2_inj hb)
theorem L_fm_times {a b : Nat} (h1 : Bd 8 a) (h2 : Bd 8 b) : S_fm_times (mag a, mag b, ()) = some (mag (a * b), ()) := spec_at (enc := fun p : Nat × Nat => (mag p.1, mag p.2, ())) (a, b) ⟨Nat.le_trans h1 (by decide), Nat.le_trans h2 (by decide)⟩ (fun b hb => enc2_inj hb)
theorem L_f_fromSmall {n : Nat} (h : n < 18446744073709551616) : S_f_fromSmall ((n : Int), ()) = some (mag n, ()) := by
 unfold S_f_fromSmall
 rw [if_pos (by simp only; omega)]
 simp
theorem L_f_gather {n : Nat} (h : Bd 8 n) : S_f_gather (decN n, ()) = some (mag n, ()) := by
 unfold S_f_gather
 have hl : (decN n).length ≤ 1000000000000 :=  Nat.le_trans (decN_le_of_mag h) (by decide)
 rw [if_pos ⟨decN_isD n, decN_ne_nil n, hl⟩]
 simp only [num_decN]
theorem L_fm_length {n : Nat} (h : Bd 8 n) : S_fm_length (mag n, ()) = some (((decN n).length : Int), ()) := spec_at (enc := fun n : Nat => (mag n, ())) n (Nat.le_trans h (by decide)) (fun b hb => mag_inj (Prod.mk.inj hb).1)
theorem L_fm_digits {n : Nat} (h : Bd 0 n) : S_fm_digits (mag n, ()) = some (decN n, ()) := spec_at (enc := fun n : Nat => (mag n, ())) n (Nat.le_trans h (by decide)) (fun b hb => mag_inj (Prod.mk.inj hb).1)
theorem L_fm_divide {a b : Nat} (h1 : Bd 8 a) (h2 : Bd 8 b) (h3 : b ≠ 0) : S_fm_divide (mag a, mag b, ()) = some (mag (a / b), mag (a % b), ()) := spec_at (enc := fun p : Nat × Nat => (mag p.1, mag p.2, ())) (a, b) ⟨Nat.le_trans h1 (by decide), Nat.le_trans h2 (by decide), h3⟩ (fun b hb => enc2_inj hb)
theorem L_fm_gcd {a b : Nat} (h1 : Bd 8 a) (h2 : Bd 8 b) : S_fm_gcd (mag a, mag b, ()) = some (mag (Nat.gcd a b), ()) := spec_at (enc := fun p : Nat × Nat => (mag p.1, mag p.2, ())) (a, b) ⟨Nat.le_trans h1 (by decide), Nat.le_trans h2 (by decide)⟩ (fun b hb => enc2_inj hb)
theorem L_wm_zero (n : Nat) : S_wm_zero (mag n, ()) = some (decide (n = 0), ()) := by
 unfold S_wm_zero
 rcases Nat.eq_zero_or_pos n with h | h
 ·subst h; simp [mag_zero, len]
 ·have : (mag n) ≠ [] := fun h2 => by have := mag_nil_iff.1 h2; omega
  have h3 : (mag n).length ≠ 0 := fun h2 => this (List.length_eq_zero_iff.1 h2)
  have : (len (mag n) == 0) = false := by rw [len_eq, beq_eq_false_iff_ne]; omega
  rw [this, decide_eq_false (by omega)]
theorem L_wm_compare {a b : Nat} (h1 : Bd 8 a) (h2 : Bd 8 b) : S_wm_compare (mag a, mag b, ()) = some (cmpI a b, ()) := spec_at (enc := fun p : Nat × Nat => (mag p.1, mag p.2, ())) (a, b) ⟨Nat.le_trans h1 (by decide), Nat.le_trans h2 (by decide)⟩ (fun b hb => enc2_inj hb)
theorem L_wm_plus {a b : Nat} (h1 : Bd 8 a) (h2 : Bd 8 b) : S_wm_plus (mag a, mag b, ()) = some (mag (a + b), ()) := spec_at (enc := fun p : Nat × Nat => (mag p.1, mag p.2, ())) (a, b) ⟨Nat.le_trans h1 (by decide), Nat.le_trans h2 (by decide)⟩ (fun b hb => enc2_inj hb)
theorem L_wm_minus {a b : Nat} (h1 : Bd 8 a) (h2 : b ≤ a) : S_wm_minus (mag a, mag b, ()) = some (mag (a - b), ()) := spec_at (enc := fun p : Nat × Nat => (mag p.1, mag p.2, ())) (a, b) ⟨Nat.le_trans h1 (by decide), h2⟩ (fun b hb => enc2_inj hb)
theorem L_wm_times {a b : Nat} (h1 : Bd 8 a) (h2 : Bd 8 b) : S_wm_times (mag a, mag b, ()) = some (mag (a * b), ()) := spec_at (enc := fun p : Nat × Nat => (mag p.1, mag p.2, ())) (a, b) ⟨Nat.le_trans h1 (by decide), Nat.le_trans h2 (by decide)⟩ (fun b hb => enc2_inj hb)
theorem L_wm_short {a d : Nat} (h1 : Bd 8 a) (h2 : 0 < d) (h3 : d < 4294967296) : S_wm_short (mag a, (d : Int), ()) = some (mag (a / d), ((a % d : Nat) : Int), ()) := by
 refine spec_at (enc := fun p : Nat × Nat => (mag p.1, (p.2 : Int), ())) (a, d) ⟨Nat.le_trans h1 (by decide), h2, h3⟩ (fun b hb => ?_)
 obtain ⟨e1, e2⟩ := Prod.mk.inj hb
 obtain ⟨e2, -⟩ := Prod.mk.inj e2
 exact Prod.ext (mag_inj e1) (Int.ofNat.inj e2)
theorem L_w_fromSmall {n : Nat} (h : n < 18446744073709551616) : S_w_fromSmall ((n : Int), ()) = some (mag n, ()) := by
 unfold S_w_fromSmall
 rw [if_pos (by simp only; omega)]
 simp
theorem L_wm_length {n : Nat} (h : Bd 8 n) : S_wm_length (mag n, ()) = some (((decN n).length : Int), ()) := spec_at (enc := fun n : Nat => (mag n, ())) n (Nat.le_trans h (by decide)) (fun b hb => mag_inj (Prod.mk.inj hb).1)
theorem L_wm_digits {n : Nat} (h : Bd 0 n) : S_wm_digits (mag n, ()) = some (decN n, ()) := spec_at (enc := fun n : Nat => (mag n, ())) n (Nat.le_trans h (by decide)) (fun b hb => mag_inj (Prod.mk.inj hb).1)
theorem L_wm_divide {a b : Nat} (h1 : Bd 8 a) (h2 : Bd 8 b) (h3 : b ≠ 0) : S_wm_divide (mag a, mag b, ()) = some (mag (a / b), mag (a % b), ()) := spec_at (enc := fun p : Nat × Nat => (mag p.1, mag p.2, ())) (a, b) ⟨Nat.le_trans h1 (by decide), Nat.le_trans h2 (by decide), h3⟩ (fun b hb => enc2_inj hb)
end Go.Vs
namespace Go.Vs
open Go Go.Vg
abbrev SgT := List Int × Bool × Unit
abbrev RtT := (List Int × Bool × Unit) × List Int × Unit
abbrev FxT := List UInt8 × List UInt8 × Unit
def BdQ (k : Nat) (q : Rat) : Prop := Bd k q.num.natAbs ∧ Bd k q.den
def ordQ (p q : Rat) : Int := if p < q then -1 else if p = q then 0 else 1
def fl (q : Rat) : Int := q.num / q.den
def nearQ (q : Rat) (s : Nat) : Int := fl (q * (s : Rat) + mkRat 1 2)
def ofQ (n d : Int) : FxT × Int × Unit := if d = 0 then (([], [], ()), 7, ()) else wrF (Rat.divInt n d)
def inI64 (z : Int) : Prop := -9223372036854775808 ≤ z ∧ z ≤ 9223372036854775807
instance (z : Int) : Decidable (inI64 z) := inferInstanceAs (Decidable (_ ∧ _))
def S_f_signed (x : List Int × Bool × Unit) : Option (SgT × Unit) := some ((x.1, x.2.1 && !(len x.1 == 0), ()), ())
def S_w_of (x : List Int × Bool × Unit) : Option (SgT × Unit) := some ((x.1, x.2.1 && !(len x.1 == 0), ()), ())
noncomputable def S_fi_opposite : SgT × Unit → Option (SgT × Unit) := spec (fun x : Int => (sg x, ())) (fun x => Bd 8 x.natAbs) (fun x => (sg (-x), ()))
noncomputable def S_fi_sign : SgT × Unit → Option (Int × Unit) := spec (fun x : Int => (sg x, ())) (fun x => Bd 8 x.natAbs) (fun x => (x.sign, ()))
noncomputable def S_fi_sum : SgT × SgT × Unit → Option (SgT × Unit) := spec (fun x : Int × Int => (sg x.1, sg x.2, ())) (fun x => Bd 7 x.1.natAbs ∧ Bd 7 x.2.natAbs) (fun x => (sg (x.1 + x.2), ()))
noncomputable def S_ws_opposite : SgT × Unit → Option (SgT × Unit) := spec (fun x : Int => (sg x, ())) (fun x => Bd 8 x.natAbs) (fun x => (sg (-x), ()))
noncomputable def S_ws_sum : SgT × SgT × Unit → Option (SgT × Unit) := spec (fun x : Int × Int => (sg x.1, sg x.2, ())) (fun x => Bd 7 x.1.natAbs ∧ Bd 7 x.2.natAbs) (fun x => (sg (x.1 + x.2), ()))
noncomputable def S_ws_difference : SgT × SgT × Unit → Option (SgT × Unit) := spec (fun x : Int × Int => (sg x.1, sg x.2, ())) (fun x => Bd 7 x.1.natAbs ∧ Bd 7 x.2.natAbs) (fun x => (sg (x.1 - x.2), ()))
noncomputable def S_ws_product : SgT × SgT × Unit → Option (SgT × Unit) := spec (fun x : Int × Int => (sg x.1, sg x.2, ())) (fun x => Bd 7 x.1.natAbs ∧ Bd 7 x.2.natAbs) (fun x => (sg (x.1 * x.2), ()))
noncomputable def S_fi_text : SgT × Unit → Option (List UInt8 × Unit) := spec (fun x : Int => (sg x, ())) (fun x => Bd 0 x.natAbs) (fun x => (dec x, ()))
noncomputable def S_fi_scaled : SgT × List Int × Unit → Option (SgT × Unit) := spec (fun x : Int × Nat => (sg x.1, mag x.2, ())) (fun x => Bd 7 x.1.natAbs ∧ Bd 7 x.2) (fun x => (sg (x.1 * x.2), ()))
noncomputable def S_fi_floor : SgT × List Int × Unit → Option (SgT × Unit) := spec (fun x : Int × Nat => (sg x.1, mag x.2, ())) (fun x => Bd 7 x.1.natAbs ∧ Bd 7 x.2 ∧ x.2 ≠ 0) (fun x => (sg (x.1 / x.2), ()))
noncomputable def S_f_number : List UInt8 × Unit → Option (SgT × Unit) := spec (fun x : Int => (dec x, ())) (fun x => Bd 7 x.natAbs) (fun x => (sg x, ()))
noncomputable def S_w_read (x : List UInt8 × Unit) : Option (SgT × Bool × Unit) := some (match rdW x.1 with | some z => (sg z, true, ()) | none => (([], false, ()), false, ()))
noncomputable def S_w_Check (x : List UInt8 × Unit) : Option (Int × Unit) := some (if (rdW x.1).isSome then 0 else 10, ())
noncomputable def S_w_pair (x : List UInt8 × List UInt8 × Unit) : Option (SgT × SgT × Int × Unit) := some (match rdW x.1, rdW x.2.1 with | some z, some w => (sg z, sg w, 0, ()) | _, _ => (([], false, ()), ([], false, ()), 10, ()))
noncomputable def S_w_write : SgT × Unit → Option (List UInt8 × Int × Unit) := spec (fun x : Int => (sg x, ())) (fun x => Bd 8 x.natAbs) (fun x => wrW x)
noncomputable def S_fr_write : RtT × Unit → Option (FxT × Int × Unit) := spec (fun x : Rat => (rt x, ())) (fun x => BdQ 8 x) (fun x => wrF x)
noncomputable def S_f_reduced : SgT × List Int × Unit → Option (RtT × Unit) := spec (fun x : Int × Nat => (sg x.1, mag x.2, ())) (fun x => Bd 7 x.1.natAbs ∧ Bd 7 x.2 ∧ x.2 ≠ 0) (fun x => (rt (mkRat x.1 x.2), ()))
noncomputable def S_fr_negated : RtT × Unit → Option (RtT × Unit) := spec (fun x : Rat => (rt x, ())) (fun x => BdQ 7 x) (fun x => (rt (-x), ()))
noncomputable def S_fr_inverse : RtT × Unit → Option (RtT × Unit) := spec (fun x : Rat => (rt x, ())) (fun x => BdQ 7 x ∧ x ≠ 0) (fun x => (rt x⁻¹, ()))
noncomputable def S_fr_add : RtT × RtT × Unit → Option (RtT × Unit) := spec (fun x : Rat × Rat => (rt x.1, rt x.2, ())) (fun x => BdQ 3 x.1 ∧ BdQ 3 x.2) (fun x => (rt (x.1 + x.2), ()))
noncomputable def S_fr_sub : RtT × RtT × Unit → Option (RtT × Unit) := spec (fun x : Rat × Rat => (rt x.1, rt x.2, ())) (fun x => BdQ 3 x.1 ∧ BdQ 3 x.2) (fun x => (rt (x.1 - x.2), ()))
noncomputable def S_fr_mul : RtT × RtT × Unit → Option (RtT × Unit) := spec (fun x : Rat × Rat => (rt x.1, rt x.2, ())) (fun x => BdQ 3 x.1 ∧ BdQ 3 x.2) (fun x => (rt (x.1 * x.2), ()))
noncomputable def S_fr_order : RtT × RtT × Unit → Option (Int × Unit) := spec (fun x : Rat × Rat => (rt x.1, rt x.2, ())) (fun x => BdQ 3 x.1 ∧ BdQ 3 x.2) (fun x => (ordQ x.1 x.2, ()))
noncomputable def S_fr_near : RtT × List Int × Unit → Option (SgT × Unit) := spec (fun x : Rat × Nat => (rt x.1, mag x.2, ())) (fun x => BdQ 1 x.1 ∧ Bd 1 x.2) (fun x => (sg (nearQ x.1 x.2), ()))
noncomputable def S_f_read (x : FxT × Unit) : Option (RtT × Bool × Unit) := some (match rdF x.1 with | some q => (rt q, true, ()) | none => ((([], false, ()), [], ()), false, ()))
noncomputable def S_f_Check (x : FxT × Unit) : Option (Int × Unit) := some (if (rdF x.1).isSome then 0 else 20, ())
noncomputable def S_f_Make (x : List UInt8 × List UInt8 × Unit) : Option (FxT × Int × Unit) := some (match rdW x.1, rdW x.2.1 with | some n, some d => ofQ n d | _, _ => (([], [], ()), 10, ()))
noncomputable def S_f_Of (x : Int × Int × Unit) : Option (FxT × Int × Unit) := if inI64 x.1 ∧ inI64 x.2.1 then some (ofQ x.1 x.2.1) else none
noncomputable def S_f_Sign (x : FxT × Unit) : Option (Int × Int × Unit) := some (match rdF x.1 with | some q => (q.num.sign, 0, ()) | none => (0, 20, ()))
noncomputable def S_f_Cmp (x : FxT × FxT × Unit) : Option (Int × Int × Unit) := some (match rdF x.1, rdF x.2.1 with | some p, some q => (ordQ p q, 0, ()) | _, _ => (0, 20, ()))
noncomputable def op2F (f : Rat → Rat → Rat) (x : FxT × FxT × Unit) : FxT × Int × Unit := match rdF x.1, rdF x.2.1 with | some p, some q => wrF (f p q) | _, _ => (([], [], ()), 20, ())
noncomputable def S_f_Add (x : FxT × FxT × Unit) : Option (FxT × Int × Unit) := some (op2F (· + ·) x)
noncomputable def S_f_Sub (x : FxT × FxT × Unit) : Option (FxT × Int × Unit) := some (op2F (· - ·) x)
noncomputable def S_f_Mul (x : FxT × FxT × Unit) : Option (FxT × Int × Unit) := some (op2F (· * ·) x)
noncomputable def S_f_Div (x : FxT × FxT × Unit) : Option (FxT × Int × Unit) := some (match rdF x.1, rdF x.2.1 with | some p, some q => if q = 0 then (([], [], ()), 7, ()) else wrF (p / q) | _, _ => (([], [], ()), 20, ()))
noncomputable def S_f_Floor (x : FxT × Unit) : Option (List UInt8 × Int × Unit) := some (match rdF x.1 with | some q => (dec (fl q), 0, ()) | none => ([], 20, ()))
noncomputable def S_f_Near (x : FxT × Int × Unit) : Option (Int × Int × Unit) := some (match rdF x.1 with | some q => if x.2.1 < 1 ∨ x.2.1 > 1000000000000 then (0, 2, ()) else if inI64 (nearQ q x.2.1.toNat) then (nearQ q x.2.1.toNat, 0, ()) else (0, 6, ()) | none => (0, 20, ()))
noncomputable def S_w_Of (x : Int × Unit) : Option (List UInt8 × Unit) := if inI64 x.1 then some (dec x.1, ()) else none
noncomputable def S_w_Int (x : List UInt8 × Unit) : Option (Int × Int × Unit) := some (match rdW x.1 with | some z => if inI64 z then (z, 0, ()) else (0, 6, ()) | none => (0, 10, ()))
noncomputable def S_w_Mul (x : List UInt8 × List UInt8 × Unit) : Option (List UInt8 × Int × Unit) := some (match rdW x.1, rdW x.2.1 with | some z, some w => wrW (z * w) | _, _ => ([], 10, ()))
noncomputable def S_w_Div (x : List UInt8 × List UInt8 × Unit) : Option (List UInt8 × List UInt8 × Int × Unit) := some (match rdW x.1, rdW x.2.1 with | some z, some w => if w = 0 then ([], [], 7, ()) else (dec (z / w), dec (z % w), 0, ()) | _, _ => ([], [], 10, ()))
noncomputable def S_w_Pow (x : List UInt8 × Int × Unit) : Option (List UInt8 × Int × Unit) := some (match rdW x.1 with | some z => if x.2.1 < 0 ∨ x.2.1 > 40 then ([], 2, ()) else wrW (z ^ x.2.1.toNat) | none => ([], 10, ()))
noncomputable def iroot (k n : Nat) : Nat := open Classical in if h : ∃ r, r ^ k ≤ n ∧ n < (r + 1) ^ k then h.choose else 0
noncomputable def S_w_Root (x : List UInt8 × Int × Unit) : Option (List UInt8 × Int × Unit) := some (match rdW x.1 with | some z => if x.2.1 < 1 ∨ x.2.1 > 12 ∨ z < 0 then ([], 2, ()) else wrW (iroot x.2.1.toNat z.natAbs) | none => ([], 10, ()))
noncomputable def S_w_tenfold : Int × Unit → Option (List Int × Unit) := spec (fun x : Nat => ((x : Int), ())) (fun x => x ≤ 100000000) (fun x => (mag (10 ^ x), ()))
noncomputable def S_wm_power : List Int × Int × Unit → Option (List Int × Unit) := spec (fun x : Nat × Nat => (mag x.1, (x.2 : Int), ())) (fun x => Bd 2 x.1 ∧ x.2 ≤ 40) (fun x => (mag (x.1 ^ x.2), ()))
noncomputable def S_wm_root : List Int × Int × Unit → Option (List Int × Unit) := spec (fun x : Nat × Nat => (mag x.1, (x.2 : Int), ())) (fun x => Bd 0 x.1 ∧ 1 ≤ x.2 ∧ x.2 ≤ 12) (fun x => (mag (iroot x.2 x.1), ()))
end Go.Vs
namespace Go.Vs
open Go Go.Vg
noncomputable def S_atoi : List UInt8 × Unit → Option (Int × Bool × Unit) := spec (fun z : Int => (dec z, ())) inI64 (fun z => (z, false, ()))
theorem L_atoi {z : Int} (h : inI64 z) : S_atoi (dec z, ()) = some (z, false, ()) := spec_at (enc := fun z : Int => (dec z, ())) z h (fun b hb => dec_inj (Prod.mk.inj hb).1)
open Classical in
noncomputable def S_prsi : List UInt8 × Int × Int × Unit → Option (Int × Bool × Unit) := spec (fun z : Int => (dec z, 10, 64, ())) (fun z => (dec z).length ≤ 1000000000) (fun z => if inI64 z then (z, false, ()) else (if z < 0 then -9223372036854775808 else 9223372036854775807, true, ()))
open Classical in
theorem L_prsi {z : Int} (h : (dec z).length ≤ 1000000000) : S_prsi (dec z, 10, 64, ()) = some (if inI64 z then (z, false, ()) else (if z < 0 then -9223372036854775808 else 9223372036854775807, true, ())) :=
 spec_at (enc := fun z : Int => (dec z, (10 : Int), (64 : Int), ())) z h (fun b hb => dec_inj (Prod.mk.inj hb).1)
end Go.Vs
namespace Go.Vs
open Go Go.Vg
theorem numF_ge (s : List UInt8) (a : Nat) : a ≤ numF a s := by
 rw [numF_eq]
 have := Nat.le_mul_of_pos_right a (show 0 < 10 ^ s.length from Nat.pow_pos (by omega))
 omega
theorem uint10_dig : ∀ {s : List UInt8} {a : Nat}, isD s → a < 18446744073709551616 → Lib.parseUint10 a s = if numF a s < 18446744073709551616 then .ok (numF a s) else .range
 | [], a, _, ha => by
  rw [show numF a [] = a from rfl, if_pos ha]
  rfl
 | c :: s, a, h, ha => by
  have hc := h c (by simp)
  have hs : isD s := fun d hd => h d (by simp [hd])
  have hge := numF_ge s (a * 10 + dv c)
  rw [numF_cons]
  simp only [Lib.parseUint10]
  rw [if_pos hc]
  have hdv : dv c = c.toNat - 48 := rfl
  by_cases h1 : 1844674407370955162 ≤ a
  ·rw [if_pos h1, if_neg (by omega)]
  ·rw [if_neg h1]
   by_cases h2 : 18446744073709551616 ≤ a * 10 + (c.toNat - 48)
   ·rw [if_pos h2, if_neg (by omega)]
   ·rw [if_neg h2]
    exact uint10_dig hs (by omega)
theorem parseMag_decN (n : Nat) : Lib.parseMag (decN n) = if n < 18446744073709551616 then .ok n else .range := by
 unfold Lib.parseMag
 rw [if_neg (decN_ne_nil n), uint10_dig (decN_isD n) (by omega)]
 have : numF 0 (decN n) = n := num_decN n
 rw [this]
theorem decN_hd (n : Nat) : ∃ c r, decN n = c :: r ∧ 48 ≤ c.toNat ∧ c.toNat ≤ 57 := by
 cases h : decN n with
 | nil => exact absurd h (decN_ne_nil n)
 | cons c r => exact ⟨c, r, rfl, decN_isD n c (by rw [h]; simp)⟩
open Classical in
theorem atoi_dec (z : Int) : Lib.atoiAll (dec z) = if inI64 z then .ok z else .range := by
 unfold dec
 by_cases hz : z < 0
 ·rw [if_pos hz]
  rw [Lib.atoiAll_minus, parseMag_decN]
  by_cases h1 : z.natAbs < 18446744073709551616
  ·rw [if_pos h1]
   simp only [Lib.signed]
   by_cases h2 : 9223372036854775808 < z.natAbs
   ·rw [if_pos h2, if_neg (fun h => by have := h.1; omega)]
   ·rw [if_neg h2, if_pos ⟨by omega, by omega⟩]
    congr 1
    omega
  ·rw [if_neg h1, if_neg (fun h => by have := h.1; omega)]
   rfl
 ·rw [if_neg hz]
  obtain ⟨c, r, e, c1, c2⟩ := decN_hd z.natAbs
  have hp := parseMag_decN z.natAbs
  rw [e] at hp ⊢
  rw [Lib.atoiAll_plain _ _ (by omega) (by omega), hp]
  by_cases h1 : z.natAbs < 18446744073709551616
  ·rw [if_pos h1]
   simp only [Lib.signless]
   by_cases h2 : 9223372036854775808 ≤ z.natAbs
   ·rw [if_pos h2, if_neg (fun h => by have := h.2; omega)]
   ·rw [if_neg h2, if_pos ⟨by omega, by omega⟩]
    congr 1
    omega
  ·rw [if_neg h1, if_neg (fun h => by have := h.2; omega)]
   rfl
theorem atoiSat_dec (z : Int) : Lib.atoiSat (dec z) = if z < 0 then -9223372036854775808 else 9223372036854775807 := by
 unfold dec Lib.atoiSat
 by_cases hz : z < 0
 ·rw [if_pos hz, if_pos hz]
  exact if_pos rfl
 ·rw [if_neg hz, if_neg hz]
  obtain ⟨c, r, e, c1, c2⟩ := decN_hd z.natAbs
  rw [e, if_neg]
  simp only [List.head?_cons, Option.map_some, Option.some.injEq]
  omega
theorem itoa_dec (z : Int) : Lib.itoa z = dec z := by
 unfold Lib.itoa dec decN
 by_cases hz : z < 0
 ·rw [if_pos hz, if_pos hz]
 ·rw [if_neg hz, if_neg hz]
  congr 1
  omega
theorem repeat_flat (s : List UInt8) : ∀ n, Lib.repeatL s n = (List.replicate n s).flatten
 | 0 => rfl
 | n + 1 => by rw [Lib.repeatL, repeat_flat s n, List.replicate_succ, List.flatten_cons]
end Go.Vs
namespace Go.Vg
abbrev TT.tt {α : Type} (x : TT α) : TT α := .triv (true = true) rfl x
abbrev TT.tr {α : Type} (x : TT α) : TT α := .triv True trivial x
end Go.Vg
namespace Go.Vs
open Go Go.Vg
abbrev Qq {α : Sort _} (x : α) : Prop := x = x
theorem tv {p : Prop} (h : p := by repeat' constructor) : p := h
abbrev Dd0 := Ty.dflt (Ty.pair (Ty.sl (Ty.int IntKind.u32)) Ty.unit)
abbrev Dd1 := Ty.dflt (Ty.pair Ty.bool Ty.unit)
abbrev Dd2 := Ty.dflt (Ty.pair Ty.str Ty.unit)
abbrev Dd3 := Ty.dflt (Ty.pair (Ty.int IntKind.u64) Ty.unit)
abbrev Dd4 := Ty.dflt (Ty.pair (Ty.sl (Ty.int IntKind.u32)) (Ty.pair (Ty.sl (Ty.int IntKind.u32)) Ty.unit))
abbrev Dd5 := Ty.dflt (Ty.pair (Ty.pair (Ty.sl (Ty.int IntKind.u32)) (Ty.pair Ty.bool Ty.unit)) Ty.unit)
abbrev Dd6 := Ty.dflt (Ty.pair (Ty.int IntKind.i64) Ty.unit)
abbrev Dd7 := Ty.dflt (Ty.pair Ty.str (Ty.pair Ty.bool Ty.unit))
abbrev Dd8 := Ty.dflt (Ty.pair (Ty.pair (Ty.pair (Ty.sl (Ty.int IntKind.u32)) (Ty.pair Ty.bool Ty.unit)) (Ty.pair (Ty.sl (Ty.int IntKind.u32)) Ty.unit)) Ty.unit)
abbrev Dd9 := Ty.dflt (Ty.pair (Ty.pair (Ty.sl (Ty.int IntKind.u32)) (Ty.pair Ty.bool Ty.unit)) (Ty.pair Ty.bool Ty.unit))
abbrev Dd10 := Ty.dflt (Ty.pair (Ty.pair (Ty.sl (Ty.int IntKind.u32)) (Ty.pair Ty.bool Ty.unit)) (Ty.pair (Ty.pair (Ty.sl (Ty.int IntKind.u32)) (Ty.pair Ty.bool Ty.unit)) (Ty.pair (Ty.int IntKind.i64) Ty.unit)))
abbrev Dd11 := Ty.dflt (Ty.pair Ty.str (Ty.pair (Ty.int IntKind.i64) Ty.unit))
abbrev Dd12 := Ty.dflt (Ty.pair (Ty.sl (Ty.int IntKind.u32)) (Ty.pair (Ty.int IntKind.u32) Ty.unit))
abbrev Dd13 := Ty.dflt (Ty.pair (Ty.pair (Ty.pair (Ty.sl (Ty.int IntKind.u32)) (Ty.pair Ty.bool Ty.unit)) (Ty.pair (Ty.sl (Ty.int IntKind.u32)) Ty.unit)) (Ty.pair Ty.bool Ty.unit))
abbrev Dd14 := Ty.dflt (Ty.pair (Ty.pair Ty.str (Ty.pair Ty.str Ty.unit)) (Ty.pair (Ty.int IntKind.i64) Ty.unit))
abbrev Dd15 := Ty.dflt (Ty.pair (Ty.int IntKind.i64) (Ty.pair (Ty.int IntKind.i64) Ty.unit))
abbrev Dd16 := Ty.dflt (Ty.pair (Ty.pair (Ty.int IntKind.i64) (Ty.pair (Ty.int IntKind.i64) Ty.unit)) (Ty.pair (Ty.int IntKind.i64) Ty.unit))
abbrev Dd17 := Ty.dflt (Ty.pair Ty.str (Ty.pair Ty.bool (Ty.pair (Ty.int IntKind.i64) Ty.unit)))
abbrev Dd18 := Ty.dflt (Ty.pair Ty.str (Ty.pair Ty.str (Ty.pair (Ty.int IntKind.i64) Ty.unit)))
abbrev Dd19 := Ty.dflt (Ty.pair (Ty.pair Ty.str (Ty.pair Ty.str Ty.unit)) Ty.unit)
abbrev Dd20 := Ty.dflt (Ty.pair (Ty.sl (Ty.int IntKind.i64)) Ty.unit)
abbrev Dd21 := Ty.dflt (Ty.pair (Ty.pair Ty.bool (Ty.pair (Ty.sl (Ty.int IntKind.i64)) Ty.unit)) Ty.unit)
abbrev Dd22 := Ty.dflt (Ty.pair (Ty.sl (Ty.int IntKind.i64)) (Ty.pair (Ty.int IntKind.i64) Ty.unit))
abbrev Dd23 := Ty.dflt (Ty.pair (Ty.sl (Ty.int IntKind.i64)) (Ty.pair (Ty.sl (Ty.int IntKind.i64)) Ty.unit))
abbrev Dd24 := Ty.dflt (Ty.pair (Ty.pair Ty.bool (Ty.pair (Ty.sl (Ty.int IntKind.i64)) Ty.unit)) (Ty.pair (Ty.pair Ty.bool (Ty.pair (Ty.sl (Ty.int IntKind.i64)) Ty.unit)) Ty.unit))
abbrev Dd25 := Ty.dflt (Ty.pair (Ty.pair (Ty.pair Ty.bool (Ty.pair (Ty.sl (Ty.int IntKind.i64)) Ty.unit)) (Ty.pair (Ty.pair Ty.bool (Ty.pair (Ty.sl (Ty.int IntKind.i64)) Ty.unit)) Ty.unit)) Ty.unit)
abbrev Dd27 := Ty.dflt (Ty.pair (Ty.pair (Ty.int IntKind.i64) (Ty.pair (Ty.sl (Ty.int IntKind.i64)) (Ty.pair (Ty.sl (Ty.pair (Ty.int IntKind.i64) (Ty.pair (Ty.int IntKind.i64) (Ty.pair (Ty.int IntKind.i64) (Ty.pair (Ty.int IntKind.i64) (Ty.pair (Ty.int IntKind.i64) (Ty.pair (Ty.int IntKind.i64) Ty.unit))))))) Ty.unit))) Ty.unit)
abbrev Dd28 := Ty.dflt (Ty.pair Ty.bool (Ty.pair (Ty.int IntKind.i64) Ty.unit))
abbrev Dd29 := Ty.dflt (Ty.pair (Ty.int IntKind.i64) (Ty.pair Ty.bool Ty.unit))
end Go.Vs
namespace Go.Vs
open Go Go.Vg
theorem rat_of {q : Rat} {n : Int} {D : Nat} (nz : D ≠ 0) (c : n.natAbs.Coprime D) (h : q = mkRat n D) : q.num = n ∧ q.den = D := by
 rw [h, ← Rat.mk_eq_mkRat n D nz c]; exact ⟨rfl, rfl⟩
theorem cop_of_dvd {a b : Nat} (h : ∀ k, k ∣ a → k ∣ b → k = 1) : a.Coprime b := h _ (Nat.gcd_dvd_left a b) (Nat.gcd_dvd_right a b)
theorem cop_top {n1 n2 : Int} {b' d' b : Nat} (h1 : n1.natAbs.Coprime b) (hb : b' ∣ b) (h3 : b'.Coprime d') : (n1 * d' + n2 * b').natAbs.Coprime b' := by
 refine cop_of_dvd fun k hk hkb => ?_
 have e1 : (k : Int) ∣ n1 * d' + n2 * b' := Int.ofNat_dvd_left.2 hk
 have e2 : (k : Int) ∣ n2 * b' := Int.dvd_trans (Int.natCast_dvd_natCast.2 hkb) (Int.dvd_mul_left _ _)
 have e3 : (k : Int) ∣ n1 * d' := by
  have := Int.dvd_sub e1 e2
  rwa [Int.add_sub_cancel] at this
 have e4 : k ∣ n1.natAbs * d' := by
  have := Int.ofNat_dvd_left.1 e3
  rwa [Int.natAbs_mul] at this
 have e5 : k.Coprime d' := Nat.Coprime.coprime_dvd_left hkb h3
 have e6 := Nat.Coprime.dvd_of_dvd_mul_right e5 e4
 exact Nat.Coprime.eq_one_of_dvd (Nat.Coprime.coprime_dvd_left e6 h1) (Nat.dvd_trans hkb hb)
theorem add_parts (p q : Rat) : ∃ g h : Nat, ∃ top t : Int, g = Nat.gcd p.den q.den ∧ top = p.num * (q.den / g : Nat) + q.num * (p.den / g : Nat) ∧ h = Nat.gcd top.natAbs g ∧ g ≠ 0 ∧ h ≠ 0 ∧ top = h * t ∧ (p + q).num = t ∧ (p + q).den = (p.den / g) * (q.den / h) := by
 obtain ⟨g, hg⟩ : ∃ g, g = Nat.gcd p.den q.den := ⟨_, rfl⟩
 have g0 : 0 < g := by rw [hg]; exact Nat.gcd_pos_of_pos_left _ p.den_pos
 obtain ⟨b', hb⟩ : g ∣ p.den := hg ▸ Nat.gcd_dvd_left _ _
 obtain ⟨d', hd⟩ : g ∣ q.den := hg ▸ Nat.gcd_dvd_right _ _
 have hb' : p.den / g = b' := by rw [hb, Nat.mul_div_cancel_left _ g0]
 have hd' : q.den / g = d' := by rw [hd, Nat.mul_div_cancel_left _ g0]
 have hbd : b'.Coprime d' := by
  have := Nat.coprime_div_gcd_div_gcd (m := p.den) (n := q.den) (by rw [← hg]; exact g0)
  rwa [← hg, hb', hd'] at this
 obtain ⟨top, ht⟩ : ∃ top : Int, top = p.num * (q.den / g : Nat) + q.num * (p.den / g : Nat) := ⟨_, rfl⟩
 obtain ⟨h, hh⟩ : ∃ h, h = Nat.gcd top.natAbs g := ⟨_, rfl⟩
 have h0 : 0 < h := by rw [hh]; exact Nat.gcd_pos_of_pos_right _ g0
 obtain ⟨t, htt⟩ : (h : Int) ∣ top := Int.ofNat_dvd_left.2 (hh ▸ Nat.gcd_dvd_left _ _)
 obtain ⟨g', hg'⟩ : h ∣ g := hh ▸ Nat.gcd_dvd_right _ _
 have c1 : top.natAbs.Coprime b' := by rw [ht, hb', hd']; exact cop_top p.reduced ⟨g, by rw [hb, Nat.mul_comm]⟩ hbd
 have c2 : top.natAbs.Coprime d' := by rw [ht, hb', hd', Int.add_comm]; exact cop_top q.reduced ⟨g, by rw [hd, Nat.mul_comm]⟩ hbd.symm
 have c3 : t.natAbs.Coprime g' := by
  have := Nat.coprime_div_gcd_div_gcd (m := top.natAbs) (n := g) (by rw [← hh]; exact h0)
  rw [← hh, htt, Int.natAbs_mul, Int.natAbs_natCast, Nat.mul_div_cancel_left _ h0] at this
  conv at this => rhs; rw [hg']
  rwa [Nat.mul_div_cancel_left _ h0] at this
 have ct : t.natAbs ∣ top.natAbs := by rw [htt, Int.natAbs_mul]; exact Nat.dvd_mul_left _ _
 have e : q.den / h = g' * d' := by rw [hd, hg', Nat.mul_assoc, Nat.mul_div_cancel_left _ h0]
 have hc : t.natAbs.Coprime (b' * (g' * d')) := Nat.Coprime.mul_right (Nat.Coprime.coprime_dvd_left ct c1) (Nat.Coprime.mul_right c3 (Nat.Coprime.coprime_dvd_left ct c2))
 have nb : b' ≠ 0 := by rintro rfl; exact p.den_nz (by rw [hb]; simp)
 have nd : d' ≠ 0 := by rintro rfl; exact q.den_nz (by rw [hd]; simp)
 have ng : g' ≠ 0 := by rintro rfl; simp at hg'; omega
 have nz : b' * (g' * d') ≠ 0 := Nat.mul_ne_zero nb (Nat.mul_ne_zero ng nd)
 have hv : p + q = mkRat t (b' * (g' * d')) := by
  rw [Rat.add_def', Rat.mkRat_eq_iff (Nat.mul_ne_zero p.den_nz q.den_nz) nz, hb, hd]
  rw [hb', hd', htt] at ht
  simp only [Int.natCast_mul]
  have hgz : (g : Int) = h * g' := by rw [hg']; simp
  have e1 : (p.num * ((g : Int) * d') + q.num * ((g : Int) * b')) = (g : Int) * (h * t) := by rw [ht]; grind
  rw [e1, hgz]
  grind
 obtain ⟨r1, r2⟩ := rat_of nz hc hv
 exact ⟨g, h, top, t, hg, ht, hh, by omega, by omega, htt, r1, by rw [r2, hb', e]⟩
theorem mul_parts (p q : Rat) : ∃ g h : Nat, ∃ s t : Int, g = Nat.gcd p.num.natAbs q.den ∧ h = Nat.gcd q.num.natAbs p.den ∧ g ≠ 0 ∧ h ≠ 0 ∧ p.num = g * s ∧ q.num = h * t ∧ (p * q).num = s * t ∧ (p * q).den = (p.den / h) * (q.den / g) := by
 obtain ⟨g, hg⟩ : ∃ g, g = Nat.gcd p.num.natAbs q.den := ⟨_, rfl⟩
 obtain ⟨h, hh⟩ : ∃ h, h = Nat.gcd q.num.natAbs p.den := ⟨_, rfl⟩
 have g0 : 0 < g := by rw [hg]; exact Nat.gcd_pos_of_pos_right _ q.den_pos
 have h0 : 0 < h := by rw [hh]; exact Nat.gcd_pos_of_pos_right _ p.den_pos
 obtain ⟨s, hs⟩ : (g : Int) ∣ p.num := Int.ofNat_dvd_left.2 (hg ▸ Nat.gcd_dvd_left _ _)
 obtain ⟨t, ht⟩ : (h : Int) ∣ q.num := Int.ofNat_dvd_left.2 (hh ▸ Nat.gcd_dvd_left _ _)
 obtain ⟨d', hd⟩ : g ∣ q.den := hg ▸ Nat.gcd_dvd_right _ _
 obtain ⟨b', hb⟩ : h ∣ p.den := hh ▸ Nat.gcd_dvd_right _ _
 have hb' : p.den / h = b' := by rw [hb, Nat.mul_div_cancel_left _ h0]
 have hd' : q.den / g = d' := by rw [hd, Nat.mul_div_cancel_left _ g0]
 have as1 : p.num.natAbs / g = s.natAbs := by rw [hs, Int.natAbs_mul, Int.natAbs_natCast, Nat.mul_div_cancel_left _ g0]
 have at' : q.num.natAbs / h = t.natAbs := by rw [ht, Int.natAbs_mul, Int.natAbs_natCast, Nat.mul_div_cancel_left _ h0]
 have ds : s.natAbs ∣ p.num.natAbs := by rw [hs, Int.natAbs_mul]; exact Nat.dvd_mul_left _ _
 have dt : t.natAbs ∣ q.num.natAbs := by rw [ht, Int.natAbs_mul]; exact Nat.dvd_mul_left _ _
 have db : b' ∣ p.den := ⟨h, by rw [hb, Nat.mul_comm]⟩
 have dd : d' ∣ q.den := ⟨g, by rw [hd, Nat.mul_comm]⟩
 have c1 : s.natAbs.Coprime b' := Nat.Coprime.coprime_dvd_left ds (Nat.Coprime.coprime_dvd_right db p.reduced)
 have c2 : s.natAbs.Coprime d' := by
  have := Nat.coprime_div_gcd_div_gcd (m := p.num.natAbs) (n := q.den) (by rw [← hg]; exact g0)
  rwa [← hg, as1, hd'] at this
 have c3 : t.natAbs.Coprime d' := Nat.Coprime.coprime_dvd_left dt (Nat.Coprime.coprime_dvd_right dd q.reduced)
 have c4 : t.natAbs.Coprime b' := by
  have := Nat.coprime_div_gcd_div_gcd (m := q.num.natAbs) (n := p.den) (by rw [← hh]; exact h0)
  rwa [← hh, at', hb'] at this
 have hc : (s * t).natAbs.Coprime (b' * d') := by
  rw [Int.natAbs_mul]
  exact Nat.Coprime.mul_left (Nat.Coprime.mul_right c1 c2) (Nat.Coprime.mul_right c4 c3)
 have nb : b' ≠ 0 := by rintro rfl; exact p.den_nz (by rw [hb]; simp)
 have nd : d' ≠ 0 := by rintro rfl; exact q.den_nz (by rw [hd]; simp)
 have nz : b' * d' ≠ 0 := Nat.mul_ne_zero nb nd
 have hv : p * q = mkRat (s * t) (b' * d') := by
  rw [Rat.mul_def', Rat.mkRat_eq_iff (Nat.mul_ne_zero p.den_nz q.den_nz) nz, hs, ht]
  conv => lhs; rw [Int.natCast_mul]
  rw [hb, hd]
  simp only [Int.natCast_mul]
  grind
 obtain ⟨r1, r2⟩ := rat_of nz hc hv
 exact ⟨g, h, s, t, hg, hh, by omega, by omega, hs, ht, r1, by rw [r2, hb', hd']⟩
theorem mkRat_parts (n : Int) {d : Nat} (hd : d ≠ 0) : ∃ g : Nat, ∃ t : Int, g = Nat.gcd n.natAbs d ∧ g ≠ 0 ∧ n = g * t ∧ (mkRat n d).num = t ∧ (mkRat n d).den = d / g := by
 obtain ⟨g, hg⟩ : ∃ g, g = Nat.gcd n.natAbs d := ⟨_, rfl⟩
 have g0 : 0 < g := by rw [hg]; exact Nat.gcd_pos_of_pos_right _ (by omega)
 obtain ⟨t, ht⟩ : (g : Int) ∣ n := Int.ofNat_dvd_left.2 (hg ▸ Nat.gcd_dvd_left _ _)
 refine ⟨g, t, hg, by omega, ht, ?_, ?_⟩
 ·rw [Rat.num_mkRat, if_neg hd, Nat.gcd_comm, ← hg, ht, Int.mul_ediv_cancel_left _ (by omega)]
 ·rw [Rat.den_mkRat, if_neg hd, Nat.gcd_comm, ← hg]
theorem fl_mkRat (n : Int) {d : Nat} (hd : d ≠ 0) : fl (mkRat n d) = n / d := by
 obtain ⟨g, t, hg, g0, hn, h1, h2⟩ := mkRat_parts n hd
 obtain ⟨d', hd'⟩ : g ∣ d := hg ▸ Nat.gcd_dvd_right _ _
 have : d / g = d' := by rw [hd', Nat.mul_div_cancel_left _ (by omega)]
 unfold fl
 rw [h1, h2, this, hn, hd', Int.natCast_mul, Int.mul_ediv_mul_of_pos _ _ (by omega)]
theorem near_eq (q : Rat) (s : Nat) : nearQ q s = (q.num * (s * 2 : Nat) + q.den) / (q.den * 2 : Nat) := by
 unfold nearQ
 have h1 : (s : Rat) = mkRat s 1 := by
  have := Rat.mkRat_self (s : Rat)
  rw [Rat.num_natCast, Rat.den_natCast] at this
  exact this.symm
 have h2 : q * (s : Rat) + mkRat 1 2 = mkRat (q.num * (s * 2 : Nat) + q.den) (q.den * 2) := by
  conv => lhs; rw [h1, ← Rat.mkRat_self q]
  rw [Rat.mkRat_mul_mkRat, Rat.mkRat_add_mkRat _ _ (by have := q.den_nz; omega) (by omega), Nat.mul_one, Int.one_mul]
  congr 1
  simp only [Int.natCast_mul]
  grind
 rw [h2, fl_mkRat _ (Nat.mul_ne_zero q.den_nz (by omega))]
theorem ordQ_eq (p q : Rat) : ordQ p q = (p.num * q.den + -(q.num * p.den)).sign := by
 unfold ordQ
 simp only [Rat.lt_iff, Rat.eq_iff_mul_eq_mul]
 split
 ·rename_i h; exact (Int.sign_eq_neg_one_of_neg (by omega)).symm
 ·split
  ·rename_i h; rw [h, Int.add_right_neg]; rfl
  ·exact (Int.sign_eq_one_of_pos (by omega)).symm
theorem rdF_eq (a b : List UInt8) : rdF (a, b, ()) = match rdW a, rdW b with
  | some n, some d => if h : 0 < d ∧ n.natAbs.Coprime d.natAbs then some ⟨n, d.natAbs, by omega, h.2⟩ else none
  | _, _ => none := by
 cases ha : rdW a with
 | none =>
  refine rdF_none fun q hq he => ?_
  obtain ⟨h1, -⟩ := Prod.mk.inj he
  rw [← h1, rdW_dec hq.1] at ha
  cases ha
 | some n =>
  obtain ⟨fa, rfl⟩ := rdW_some ha
  cases hb : rdW b with
  | none =>
   refine rdF_none fun q hq he => ?_
   obtain ⟨-, h1⟩ := Prod.mk.inj he
   obtain ⟨h1, -⟩ := Prod.mk.inj h1
   rw [← h1, ← dec_nat, rdW_dec hq.2] at hb
   cases hb
  | some d =>
   obtain ⟨fb, rfl⟩ := rdW_some hb
   simp only
   split
   ·rename_i h
    have e : (dec n, dec d, ()) = fx ⟨n, d.natAbs, by omega, h.2⟩ := by
     unfold fx
     rw [dec_nonneg (z := d) (by omega)]
    rw [e, rdF_fx ⟨fa, ?_⟩]
    unfold Fit at *
    simpa using fb
   ·rename_i h
    refine rdF_none fun q hq he => h ?_
    obtain ⟨h1, h2⟩ := Prod.mk.inj he
    obtain ⟨h2, -⟩ := Prod.mk.inj h2
    have e1 := dec_inj h1
    have e2 : (q.den : Int) = d := dec_inj (by rw [dec_nat]; exact h2)
    rw [← e1, ← e2]
    exact ⟨by have := q.den_pos; omega, q.reduced⟩
end Go.Vs
namespace Go.Vs
open Go Go.Vg
abbrev BdT := Int × Int × Unit
def okB (lo hi : Int) : Prop := -1000000000000000000 ≤ lo ∧ lo ≤ hi ∧ hi ≤ 1000000000000000000
instance (lo hi : Int) : Decidable (okB lo hi) := inferInstanceAs (Decidable (_ ∧ _))
def mkB (e lo hi : Int) : BdT × Int × Unit := if okB lo hi then ((lo, hi, ()), 0, ()) else ((0, 0, ()), e, ())
def S_b_valid (x : Int × Int × Unit) : Option (Bool × Unit) := some (decide (okB x.1 x.2.1), ())
def S_b_made (x : Int × Int × Unit) : Option (BdT × Int × Unit) := some (mkB 6 x.1 x.2.1)
def S_b_Check (x : BdT × Unit) : Option (Int × Unit) := some (if okB x.1.1 x.1.2.1 then 0 else 30, ())
def S_b_Of (x : Int × Int × Unit) : Option (BdT × Int × Unit) := some (mkB 30 x.1 x.2.1)
def S_slMin (x : List Int × Unit) : Option (Int × Unit) := match x.1 with | [] => none | a :: l => if l.length ≤ 1000000000000 then some (l.foldl (fun m y => if y < m then y else m) a, ()) else none
def S_slMax (x : List Int × Unit) : Option (Int × Unit) := match x.1 with | [] => none | a :: l => if l.length ≤ 1000000000000 then some (l.foldl (fun m y => if y > m then y else m) a, ()) else none
def S_b_least (x : List Int × Unit) : Option (Int × Unit) := S_slMin x
def S_b_greatest (x : List Int × Unit) : Option (Int × Unit) := S_slMax x
def one12 : Rat := (1000000000000 : Nat)
def tight (p q : Rat) : BdT × Int × Unit := mkB 6 (fl (p * one12)) (-fl (-(q * one12)))
noncomputable def S_b_Around (x : FxT × Unit) : Option (BdT × Int × Unit) := some (match rdF x.1 with | some q => tight q q | none => ((0, 0, ()), 20, ()))
def addB (a b : BdT) : BdT × Int × Unit := if okB a.1 a.2.1 ∧ okB b.1 b.2.1 then mkB 6 (a.1 + b.1) (a.2.1 + b.2.1) else ((0, 0, ()), 30, ())
def hullB (a b : BdT) : BdT × Int × Unit := if okB a.1 a.2.1 ∧ okB b.1 b.2.1 then ((min a.1 b.1, max a.2.1 b.2.1, ()), 0, ()) else ((0, 0, ()), 30, ())
def clampB (b : BdT) (lo hi : Int) : BdT × Int × Unit := if okB b.1 b.2.1 then (if okB lo hi then ((min (max b.1 lo) hi, min (max b.2.1 lo) hi, ()), 0, ()) else ((0, 0, ()), 2, ())) else ((0, 0, ()), 30, ())
def S_b_Add (x : BdT × BdT × Unit) : Option (BdT × Int × Unit) := some (addB x.1 x.2.1)
def S_b_Hull (x : BdT × BdT × Unit) : Option (BdT × Int × Unit) := some (hullB x.1 x.2.1)
def S_b_Clamp (x : BdT × Int × Int × Unit) : Option (BdT × Int × Unit) := some (clampB x.1 x.2.1 x.2.2.1)
noncomputable def S_p_tenfold : Int × Unit → Option (List UInt8 × Unit) := spec (fun n : Nat => ((n : Int), ())) (fun n => n ≤ 1000) (fun n => (decN (10 ^ n), ()))
noncomputable def S_p_root : List UInt8 × Int × Unit → Option (List UInt8 × Bool × Int × Unit) := spec (fun x : Nat × Nat => (decN x.1, (x.2 : Int), ())) (fun x => Fit x.1 ∧ 1 ≤ x.2 ∧ x.2 ≤ 12) (fun x => (decN (iroot x.2 x.1), decide (iroot x.2 x.1 ^ x.2 = x.1), 0, ()))
noncomputable def S_p_integer : List UInt8 × Bool × Unit → Option (Int × Int × Unit) := spec (fun x : Nat × Bool => (decN x.1, x.2, ())) (fun x => Fit x.1) (fun x => if x.1 > 1000000000000000000 then (0, 6, ()) else ((x.1 : Int) + (if x.2 then 1 else 0), 0, ()))
def okE (p q : Int) : Prop := 1 ≤ p ∧ p ≤ 36 ∧ 1 ≤ q ∧ q ≤ 12
instance (p q : Int) : Decidable (okE p q) := inferInstanceAs (Decidable (_ ∧ _))
def S_pe_valid (x : (Int × Int × Unit) × Unit) : Option (Bool × Unit) := some (decide (okE x.1.1 x.1.2.1), ())
noncomputable def endV (p q n : Nat) : Nat := iroot q (n ^ p * 10 ^ (12 * q) / 10 ^ (12 * p))
noncomputable def endP (p q n : Nat) (up : Bool) : Int × Int × Unit :=
 if endV p q n > 1000000000000000000 then (0, 6, ()) else ((endV p q n : Int) + (if up = true ∧ endV p q n ^ q * 10 ^ (12 * p) ≠ n ^ p * 10 ^ (12 * q) then 1 else 0), 0, ())
noncomputable def S_pp_end : ((Int × Int × Unit) × Unit) × Int × Bool × Unit → Option (Int × Int × Unit) := spec (fun x : (Nat × Nat) × Nat × Bool => ((((x.1.1 : Int), (x.1.2 : Int), ()), ()), (x.2.1 : Int), x.2.2, ())) (fun x => okE x.1.1 x.1.2 ∧ x.2.1 ≤ 1000000000000000000) (fun x => endP x.1.1 x.1.2 x.2.1 x.2.2)
noncomputable def powB (b : BdT) (p q : Int) : BdT × Int × Unit :=
 if okB b.1 b.2.1 then
  if okE p q ∧ 0 ≤ b.1 then
   (if (endP p.toNat q.toNat b.1.toNat false).2.1 ≠ 0 then ((0, 0, ()), 6, ()) else if (endP p.toNat q.toNat b.2.1.toNat true).2.1 ≠ 0 then ((0, 0, ()), 6, ())
    else mkB 6 (endP p.toNat q.toNat b.1.toNat false).1 (endP p.toNat q.toNat b.2.1.toNat true).1)
  else ((0, 0, ()), 2, ())
 else ((0, 0, ()), 30, ())
noncomputable def S_p_Power (x : BdT × Int × Int × Unit) : Option (BdT × Int × Unit) := some (powB x.1 x.2.1 x.2.2.1)
end Go.Vs
namespace Go.Vs
open Go Go.Vg
abbrev SegT := Int × Int × Int × Int × Int × Int × Unit
abbrev CvT := Int × List Int × List SegT × Unit
abbrev PcT := SegT × Int × Bool × Unit
def inR (n a b : Int) : Prop := a ≤ n ∧ n ≤ b
instance (n a b : Int) : Decidable (inR n a b) := inferInstanceAs (Decidable (_ ∧ _))
def numsOk (s : SegT) : Prop := inR s.2.1 (-100000000) 100000000 ∧ inR s.2.2.1 (-100000000) 100000000 ∧ inR s.2.2.2.2.2.1 (-100000000) 100000000 ∧ inR s.2.2.2.1 1 36 ∧ inR s.2.2.2.2.1 1 12 ∧ Nat.gcd s.2.2.2.1.natAbs s.2.2.2.2.1.natAbs = 1
instance (s : SegT) : Decidable (numsOk s) := inferInstanceAs (Decidable (_ ∧ _))
def segOk (last : Int) (s : SegT) : Prop := numsOk s ∧ inR s.1 (last + 1) 1000000
instance (last : Int) (s : SegT) : Decidable (segOk last s) := inferInstanceAs (Decidable (_ ∧ _))
def segsOk : Int → List SegT → Prop
 | last, [] => last = 1000000
 | last, s :: r => segOk last s ∧ segsOk s.1 r
def segsDec : (last : Int) → (l : List SegT) → Decidable (segsOk last l)
 | last, [] => inferInstanceAs (Decidable (last = 1000000))
 | last, s :: r => @instDecidableAnd _ _ (inferInstanceAs (Decidable (segOk last s))) (segsDec s.1 r)
instance (last : Int) (l : List SegT) : Decidable (segsOk last l) := segsDec last l
def tabOk (l : List Int) : Prop := 2 ≤ l.length ∧ l.length ≤ 17 ∧ ∀ v ∈ l, inR v 0 65535
instance (l : List Int) : Decidable (tabOk l) := inferInstanceAs (Decidable (_ ∧ _ ∧ _))
def segLOk (l : List SegT) : Prop := 1 ≤ l.length ∧ l.length ≤ 4 ∧ segsOk 0 l
instance (l : List SegT) : Decidable (segLOk l) := inferInstanceAs (Decidable (_ ∧ _ ∧ _))
def rightC (c : CvT) : Prop := (c.1 = 1 ∧ c.2.1 = [] ∧ c.2.2.1 = []) ∨ (c.1 = 2 ∧ tabOk c.2.1 ∧ c.2.2.1 = []) ∨ (c.1 = 3 ∧ c.2.1 = [] ∧ segLOk c.2.2.1)
instance (c : CvT) : Decidable (rightC c) := inferInstanceAs (Decidable (_ ∨ _ ∨ _))
noncomputable def eqb {α : Type} (a b : α) : Bool := open Classical in if a = b then true else false
theorem eqb_true {α : Type} {a b : α} (h : a = b) : eqb a b = true := if_pos h
theorem eqb_false {α : Type} {a b : α} (h : ¬ a = b) : eqb a b = false := if_neg h
def S_c_within (x : Int × Int × Int × Unit) : Option (Bool × Unit) := some (decide (inR x.1 x.2.1 x.2.2.1), ())
def S_c_over (x : Int × Int × Unit) : Option (FxT × Unit) := if inI64 x.1 ∧ inI64 x.2.1 then some ((ofQ x.1 x.2.1).1, ()) else none
def S_c_integer (x : Int × Unit) : Option (FxT × Unit) := if inI64 x.1 then some (fx (mkRat x.1 1), ()) else none
def clampQ (q : Rat) : Rat := if q < 0 then 0 else if q > 1 then 1 else q
noncomputable def S_c_clampFrac : FxT × Unit → Option (FxT × Unit) := spec (fun q : Rat => (fx q, ())) (fun q => FitQ q) (fun q => (fx (clampQ q), ()))
def S_c_checkTable (x : List Int × Unit) : Option (Bool × Unit) := some (decide (tabOk x.1), ())
def S_cp_valid (x : PcT × Unit) : Option (Bool × Unit) := if inR x.1.2.1 0 1000000 then some (decide (segOk x.1.2.1 x.1.1), ()) else none
def S_c_checkSegments (x : CvT × Unit) : Option (Bool × Unit) := some (decide (segLOk x.1.2.2.1), ())
def S_c_Check (x : CvT × Unit) : Option (Int × Unit) := some (if rightC x.1 then 0 else 90, ())
def exactC (c : CvT) : Prop := rightC c ∧ ∀ s ∈ c.2.2.1, s.2.2.2.2.1 = 1
instance (c : CvT) : Decidable (exactC c) := inferInstanceAs (Decidable (_ ∧ _))
def rises (l : List Int) : Bool := (List.range (l.length - 1)).any (fun i => decide (l.getD (i + 1) 0 > l.getD i 0))
def falls (l : List Int) : Bool := (List.range (l.length - 1)).any (fun i => decide (l.getD (i + 1) 0 < l.getD i 0))
def trendC (c : CvT) : Int :=
 if c.1 = 3 then (if c.2.2.1.length > 1 then 0 else if (c.2.2.1.getD 0 (0, 0, 0, 0, 0, 0, ())).2.1 < 0 then -1 else 1)
 else if !falls c.2.1 then 1 else if !rises c.2.1 then -1 else 0
def S_c_Trend (x : CvT × Unit) : Option (Int × Int × Unit) := some (if rightC x.1 then (trendC x.1, 0, ()) else (0, 90, ()))
end Go.Vs
namespace Go.Vs
open Go Go.Vg
def dig (n : Nat) : List Int := digs 10000 n
theorem dig_dg (n : Nat) : Dg 10000 (dig n) := digs_dg (B := 10000) (by omega) n
theorem dig_cn (n : Nat) : Cn (dig n) := digs_cn (B := 10000) (by omega) n
theorem V_dig (n : Nat) : V 10000 (dig n) = n := V_digs (B := 10000) (by omega) n
theorem dig_inj {m n : Nat} (h : dig m = dig n) : m = n := digs_inj (B := 10000) (by omega) h
theorem dig_uniq {l : List Int} {n : Nat} (h1 : Dg 10000 l) (h2 : Cn l) (h3 : V 10000 l = n) : l = dig n := digs_uniq (B := 10000) (by omega) h1 h2 h3
theorem dig_length_le_iff {n k : Nat} : (dig n).length ≤ k ↔ n < 10000 ^ k := by
 constructor
 ·intro h
  have h1 := lt_pow_digs (B := 10000) (by omega) n
  exact Nat.lt_of_lt_of_le h1 (Nat.pow_le_pow_right (by omega) h)
 ·intro h
  exact digs_length_le (by omega) h
theorem dig_length_mono {m n : Nat} (h : m ≤ n) : (dig m).length ≤ (dig n).length := by
 rw [dig_length_le_iff]
 exact Nat.lt_of_le_of_lt h (dig_length_le_iff.1 (Nat.le_refl _))
theorem dig_zero : dig 0 = [] := digs_zero _
theorem dig_nil_iff {n : Nat} : dig n = [] ↔ n = 0 := by
 constructor
 ·intro h
  exact dig_inj (h.trans dig_zero.symm)
 ·rintro rfl; exact dig_zero
theorem dig_small {d : Nat} (h0 : d ≠ 0) (h1 : d < 10000) : dig d = [(d : Int)] := digs_small (by omega) h0 h1
theorem dig_of_lengths {m n : Nat} (h : (dig m).length < (dig n).length) : m < n := by
 rcases Nat.lt_or_ge m n with h2 | h2
 ·exact h2
 ·have := dig_length_mono h2; omega
theorem dig_le_mag {n k : Nat} (h : (mag n).length ≤ k) : (dig n).length ≤ 3 * k := by
 rw [mag_length_le_iff] at h
 rw [dig_length_le_iff, Nat.pow_mul]
 exact Nat.lt_of_lt_of_le h (Nat.pow_le_pow_left (by omega) _)
theorem bd_dig {k n : Nat} (h : Bd k n) (hk : k ≤ 8) : (dig n).length ≤ 200000000000 := by
 have h1 : Bd 8 n := bd_le h hk
 have h2 := dig_le_mag (k := 1000000 * 4 ^ 8) h1
 omega
@[reducible] def pl (z : Int) : Bool × List Int × Unit := (decide (z < 0), dig z.natAbs, ())
theorem pl_inj {a b : Int} (h : pl a = pl b) : a = b := by
 obtain ⟨h1, h2⟩ := Prod.mk.inj h
 obtain ⟨h2, -⟩ := Prod.mk.inj h2
 have := dig_inj h2
 simp only [decide_eq_decide] at h1
 omega
abbrev PlT := Bool × List Int × Unit
abbrev RaT := PlT × PlT × Unit
@[reducible] def ra (q : Rat) : RaT := (pl q.num, pl q.den, ())
theorem ra_inj {a b : Rat} (h : ra a = ra b) : a = b := by
 obtain ⟨h1, h2⟩ := Prod.mk.inj h
 obtain ⟨h2, -⟩ := Prod.mk.inj h2
 have := pl_inj h2
 exact Rat.ext (pl_inj h1) (by omega)
def topD (a b : List Int) : Nat → Int
 | 0 => 0
 | k + 1 => if a.getD k 0 ≠ b.getD k 0 then a.getD k 0 - b.getD k 0 else topD a b k
def ordD (a b : List Int) : Int := if a.length ≠ b.length then (a.length : Int) - b.length else topD a b a.length
open Classical in
noncomputable def S_r1_cut (x : List Int × Unit) : Option (List Int × Unit) := if Dg 10000 x.1 ∧ x.1.length ≤ 1000000000000 then some (dig (V 10000 x.1).toNat, ()) else none
open Classical in
noncomputable def S_r1_made (x : Bool × List Int × Unit) : Option (PlT × Unit) := if Dg 10000 x.2.1 ∧ x.2.1.length ≤ 1000000000000 then some ((x.1 && decide (V 10000 x.2.1 ≠ 0), dig (V 10000 x.2.1).toNat, ()), ()) else none
noncomputable def S_r1_Right (x : List UInt8 × Unit) : Option (Bool × Unit) := if x.1.length ≤ 1000000000000 then some ((rdW x.1).isSome, ()) else none
noncomputable def S_r1_In : List UInt8 × Unit → Option (PlT × Unit) := spec (fun z : Int => (dec z, ())) (fun z => Fit z) (fun z => (pl z, ()))
noncomputable def S_r1_Integer (x : Int × Unit) : Option (PlT × Unit) := if inI64 x.1 then some (pl x.1, ()) else none
def fourD (n : Nat) : List UInt8 := [UInt8.ofNat (48 + n / 1000), UInt8.ofNat (48 + n / 100 % 10), UInt8.ofNat (48 + n / 10 % 10), UInt8.ofNat (48 + n % 10)]
noncomputable def S_r1_four : Int × Unit → Option (List UInt8 × Unit) := spec (fun n : Nat => ((n : Int), ())) (fun n => n < 10000) (fun n => (fourD n, ()))
noncomputable def S_r1_Text : PlT × Unit → Option (List UInt8 × Unit) := spec (fun z : Int => (pl z, ())) (fun z => Bd 6 z.natAbs) (fun z => (dec z, ()))
noncomputable def S_r1_Out : PlT × Unit → Option (List UInt8 × Int × Unit) := spec (fun z : Int => (pl z, ())) (fun z => Bd 6 z.natAbs) (fun z => wrW z)
noncomputable def S_r1_order (x : List Int × List Int × Unit) : Option (Int × Unit) := open Classical in if Dg 10000 x.1 ∧ Dg 10000 x.2.1 ∧ x.1.length ≤ 1000000000000 ∧ x.2.1.length ≤ 1000000000000 then some (ordD x.1 x.2.1, ()) else none
noncomputable def S_r1_sum : List Int × List Int × Unit → Option (List Int × Unit) := spec (fun p : Nat × Nat => (dig p.1, dig p.2, ())) (fun p => (dig p.1).length ≤ 1000000000000 ∧ (dig p.2).length ≤ 1000000000000) (fun p => (dig (p.1 + p.2), ()))
open Classical in
noncomputable def S_r1_difference (x : List Int × List Int × Unit) : Option (List Int × Unit) := if Dg 10000 x.1 ∧ Dg 10000 x.2.1 ∧ x.1.length ≤ 1000000000000 ∧ x.2.1.length ≤ x.1.length ∧ V 10000 x.2.1 ≤ V 10000 x.1 then some (dig (V 10000 x.1 - V 10000 x.2.1).toNat, ()) else none
open Classical in
noncomputable def S_r1_product (x : List Int × List Int × Unit) : Option (List Int × Unit) := if Dg 10000 x.1 ∧ (Dg 10000 x.2.1 ∨ x.2.1 = [10000]) ∧ x.1.length ≤ 400000000000 ∧ x.2.1.length ≤ 400000000000 then some (dig (V 10000 x.1 * V 10000 x.2.1).toNat, ()) else none
noncomputable def S_r1_once : List Int × Int × Unit → Option (List Int × Int × Unit) := spec (fun p : Nat × Nat => (dig p.1, (p.2 : Int), ())) (fun p => (dig p.1).length ≤ 1000000000000 ∧ 0 < p.2 ∧ p.2 < 10000) (fun p => (dig (p.1 / p.2), ((p.1 % p.2 : Nat) : Int), ()))
noncomputable def S_r1_parts : List Int × List Int × Unit → Option (List Int × List Int × Unit) := spec (fun p : Nat × Nat => (dig p.1, dig p.2, ())) (fun p => (dig p.1).length ≤ 200000000000 ∧ (dig p.2).length ≤ 200000000000 ∧ p.2 ≠ 0) (fun p => (dig (p.1 / p.2), dig (p.1 % p.2), ()))
noncomputable def S_r1_Turn : PlT × Unit → Option (PlT × Unit) := spec (fun z : Int => (pl z, ())) (fun z => Bd 8 z.natAbs) (fun z => (pl (-z), ()))
noncomputable def S_r1_Plus : PlT × PlT × Unit → Option (PlT × Unit) := spec (fun p : Int × Int => (pl p.1, pl p.2, ())) (fun p => Bd 7 p.1.natAbs ∧ Bd 7 p.2.natAbs) (fun p => (pl (p.1 + p.2), ()))
noncomputable def S_r1_Minus : PlT × PlT × Unit → Option (PlT × Unit) := spec (fun p : Int × Int => (pl p.1, pl p.2, ())) (fun p => Bd 7 p.1.natAbs ∧ Bd 7 p.2.natAbs) (fun p => (pl (p.1 - p.2), ()))
noncomputable def S_r1_Times : PlT × PlT × Unit → Option (PlT × Unit) := spec (fun p : Int × Int => (pl p.1, pl p.2, ())) (fun p => Bd 7 p.1.natAbs ∧ Bd 7 p.2.natAbs) (fun p => (pl (p.1 * p.2), ()))
noncomputable def S_r1_Parts : PlT × PlT × Unit → Option (PlT × PlT × Unit) := spec (fun p : Int × Int => (pl p.1, pl p.2, ())) (fun p => Bd 6 p.1.natAbs ∧ Bd 6 p.2.natAbs ∧ p.2 ≠ 0) (fun p => (pl (p.1 / p.2), pl (p.1 % p.2), ()))
noncomputable def S_r1_Order : PlT × PlT × Unit → Option (Int × Unit) := spec (fun p : Int × Int => (pl p.1, pl p.2, ())) (fun p => Bd 7 p.1.natAbs ∧ Bd 7 p.2.natAbs) (fun p => ((p.1 - p.2).sign, ()))
noncomputable def S_r1_Divisor : PlT × PlT × Unit → Option (PlT × Unit) := spec (fun p : Int × Int => (pl p.1, pl p.2, ())) (fun p => Bd 8 p.1.natAbs ∧ Bd 8 p.2.natAbs) (fun p => (pl (Nat.gcd p.1.natAbs p.2.natAbs), ()))
noncomputable def S_r1_Raised : PlT × Int × Unit → Option (PlT × Unit) := spec (fun p : Int × Nat => (pl p.1, (p.2 : Int), ())) (fun p => (p.2 ≤ 40 ∧ Bd 2 p.1.natAbs) ∨ (p.2 ≤ 500 ∧ p.1 = 10)) (fun p => (pl (p.1 ^ p.2), ()))
end Go.Vs
namespace Go.Vs
open Go Go.Vg
def shF (x : FxT) : Prop := x.1.length ≤ 1000000000000 ∧ x.2.1.length ≤ 1000000000000
instance (x : FxT) : Decidable (shF x) := inferInstanceAs (Decidable (_ ∧ _))
noncomputable def S_r2_Lowest : PlT × PlT × Unit → Option (RaT × Unit) := spec (fun x : Int × Int => (pl x.1, pl x.2, ())) (fun x => Bd 6 x.1.natAbs ∧ Bd 6 x.2.natAbs ∧ x.2 ≠ 0) (fun x => (ra (Rat.divInt x.1 x.2), ()))
noncomputable def S_r2_Quick : Int × Int × Unit → Option (RaT × Unit) := spec (fun x : Int × Int => (x.1, x.2, ())) (fun x => inI64 x.1 ∧ inI64 x.2 ∧ x.2 ≠ 0) (fun x => (ra (Rat.divInt x.1 x.2), ()))
noncomputable def S_r2_Right (x : FxT × Unit) : Option (Bool × Unit) := if shF x.1 then some ((rdF x.1).isSome, ()) else none
noncomputable def S_r2_In : FxT × Unit → Option (RaT × Unit) := spec (fun x : Rat => (fx x, ())) (fun x => FitQ x) (fun x => (ra x, ()))
noncomputable def S_r2_Out : RaT × Unit → Option (FxT × Int × Unit) := spec (fun x : Rat => (ra x, ())) (fun x => BdQ 6 x) (fun x => wrF x)
noncomputable def S_r2_Plus : RaT × RaT × Unit → Option (RaT × Unit) := spec (fun x : Rat × Rat => (ra x.1, ra x.2, ())) (fun x => BdQ 3 x.1 ∧ BdQ 3 x.2) (fun x => (ra (x.1 + x.2), ()))
noncomputable def S_r2_Times : RaT × RaT × Unit → Option (RaT × Unit) := spec (fun x : Rat × Rat => (ra x.1, ra x.2, ())) (fun x => BdQ 3 x.1 ∧ BdQ 3 x.2) (fun x => (ra (x.1 * x.2), ()))
noncomputable def S_r2_Order : RaT × RaT × Unit → Option (Int × Unit) := spec (fun x : Rat × Rat => (ra x.1, ra x.2, ())) (fun x => BdQ 3 x.1 ∧ BdQ 3 x.2) (fun x => (ordQ x.1 x.2, ()))
noncomputable def S_r2_Of (x : Int × Int × Unit) : Option (FxT × Int × Unit) := S_f_Of x
noncomputable def S_r2_Add (x : FxT × FxT × Unit) : Option (FxT × Int × Unit) := if shF x.1 ∧ shF x.2.1 then S_f_Add x else none
noncomputable def S_r2_Mul (x : FxT × FxT × Unit) : Option (FxT × Int × Unit) := if shF x.1 ∧ shF x.2.1 then S_f_Mul x else none
noncomputable def S_r2_Raised : RaT × Int × Unit → Option (RaT × Unit) := spec (fun x : Rat × Nat => (ra x.1, (x.2 : Int), ())) (fun x => BdQ 2 x.1 ∧ x.2 ≤ 40) (fun x => (ra (x.1 ^ x.2), ()))
noncomputable def S_r2_Pow (x : FxT × Int × Unit) : Option (FxT × Int × Unit) := if shF x.1 then some (match rdF x.1 with | some q => if x.2.1 < 0 ∨ x.2.1 > 40 then (([], [], ()), 2, ()) else wrF (q ^ x.2.1.toNat) | none => (([], [], ()), 20, ())) else none
def S_r3_Right (x : BdT × Unit) : Option (Bool × Unit) := some (decide (okB x.1.1 x.1.2.1), ())
noncomputable def S_r3_Value (x : Int × Unit) : Option (RaT × Unit) := if inI64 x.1 then some (ra (mkRat x.1 1000000000000), ()) else none
noncomputable def hasB (b : BdT) (x : FxT) : Bool × Int × Unit := if okB b.1 b.2.1 then (match rdF x with | some q => (decide ((b.1 : Rat) ≤ q * one12 ∧ q * one12 ≤ (b.2.1 : Rat)), 0, ()) | none => (false, 20, ())) else (false, 30, ())
noncomputable def S_r3_Has (x : BdT × FxT × Unit) : Option (Bool × Int × Unit) := if shF x.2.1 then some (hasB x.1 x.2.1) else none
def unitQ (n : Nat) : Rat := mkRat n 1000000000000
end Go.Vs
namespace Go.Vs
open Go Go.Vg
def shC (c : CvT) : Prop := c.2.1.length ≤ 1000000000000 ∧ c.2.2.1.length ≤ 1000000000000
instance (c : CvT) : Decidable (shC c) := inferInstanceAs (Decidable (_ ∧ _))
def S_r9_of (x : Int × Int × Unit) : Option (FxT × Unit) := S_c_over x
def unitB (b : BdT) : BdT := (min (max b.1 0) 1000000000000, min (max b.2.1 0) 1000000000000, ())
def hullR (a b : BdT) : BdT := (min a.1 b.1, max a.2.1 b.2.1, ())
end Go.Vs
namespace Go.Vs
open Go Go.Vg
noncomputable def stepQ (q : Rat) : Option Rat := if FitQ q then some q else none
def outF : Option Rat → FxT × Int × Unit
 | some q => (fx q, 0, ())
 | none => (([], [], ()), 6, ())
noncomputable def lineQ (m a : Int) (x : Rat) : Option Rat := (stepQ (mkRat m 1 * x)).bind fun u => (stepQ (u + mkRat a 1)).bind fun v => stepQ (v / mkRat 1000000 1)
noncomputable def powLoopQ (u : Rat) : Nat → Rat → Option Rat
 | 0, y => some y
 | n + 1, y => (stepQ (y * u)).bind (powLoopQ u n)
def posQ (u : Rat) : Rat := if u < 0 then 0 else u
noncomputable def formQ (s : SegT) (x : Rat) : Option Rat := (lineQ s.2.1 s.2.2.1 x).bind fun u => (powLoopQ (posQ u) (s.2.2.2.1 - 1).toNat (posQ u)).bind fun y => (stepQ (y + mkRat s.2.2.2.2.2.1 1000000)).map clampQ
def partN (x : Rat) (l : List SegT) : Nat := l.findIdx (fun s => decide (x ≤ mkRat s.1 1000000))
noncomputable def formC (l : List SegT) (x : Rat) : FxT × Int × Unit := if (l.getD (partN x l) (0, 0, 0, 0, 0, 0, ())).2.2.2.2.1 = 1 then outF (formQ (l.getD (partN x l) (0, 0, 0, 0, 0, 0, ())) x) else (([], [], ()), 5, ())
noncomputable def placeN (l : List Int) (p : Rat) : Nat := min p.floor.toNat (l.length - 2)
noncomputable def tabQ (l : List Int) (x : Rat) : Option Rat := (stepQ (x * mkRat ((l.length - 1 : Nat) : Int) 1)).bind fun p =>
 (stepQ (p - mkRat (placeN l p : Int) 1)).bind fun r => (stepQ (r * mkRat (l.getD (placeN l p + 1) 0 - l.getD (placeN l p) 0) 1)).bind fun t =>
 (stepQ (mkRat (l.getD (placeN l p) 0) 1 + t)).bind fun y => stepQ (y / mkRat 65535 1)
noncomputable def evalC (c : CvT) (x : Rat) : FxT × Int × Unit := if c.1 = 1 then (fx x, 0, ()) else if c.1 = 2 then outF (tabQ c.2.1 x) else formC c.2.2.1 x
noncomputable def S_cp_line : PcT × FxT × Unit → Option (FxT × Int × Unit) := spec (fun p : PcT × Rat => (p.1, fx p.2, ())) (fun p => FitQ p.2 ∧ numsOk p.1.1) (fun p => outF (lineQ p.1.1.2.1 p.1.1.2.2.1 p.2))
noncomputable def S_cc_identity : (CvT × Unit) × FxT × Unit → Option (FxT × Int × Unit) := spec (fun p : CvT × Rat => ((p.1, ()), fx p.2, ())) (fun p => FitQ p.2) (fun p => (fx p.2, 0, ()))
noncomputable def S_cc_table : (CvT × Unit) × FxT × Unit → Option (FxT × Int × Unit) := spec (fun p : CvT × Rat => ((p.1, ()), fx p.2, ())) (fun p => FitQ p.2 ∧ 0 ≤ p.2 ∧ p.2 ≤ 1 ∧ tabOk p.1.2.1) (fun p => outF (tabQ p.1.2.1 p.2))
noncomputable def S_cc_formula : (CvT × Unit) × FxT × Unit → Option (FxT × Int × Unit) := spec (fun p : CvT × Rat => ((p.1, ()), fx p.2, ())) (fun p => FitQ p.2 ∧ p.2 ≤ 1 ∧ segLOk p.1.2.2.1) (fun p => formC p.1.2.2.1 p.2)
noncomputable def S_c_Eval (x : CvT × FxT × Unit) : Option (FxT × Int × Unit) := some (if rightC x.1 then (match rdF x.2.1 with | some q => evalC x.1 (clampQ q) | none => (([], [], ()), 20, ())) else (([], [], ()), 90, ()))
end Go.Vs
namespace Go.Vs
open Go Go.Vg
def hullL : List BdT → BdT
 | [] => (0, 0, ())
 | b :: l => l.foldl hullR b
def okL (l : List BdT) : Prop := l ≠ [] ∧ l.length ≤ 1000000 ∧ ∀ b ∈ l, okB b.1 b.2.1
instance (l : List BdT) : Decidable (okL l) := inferInstanceAs (Decidable (_ ∧ _ ∧ _))
def S_c_hull (x : List BdT × Unit) : Option (BdT × Int × Unit) := if okL x.1 then some (hullL x.1, 0, ()) else none
noncomputable def S_c_around : List FxT × Unit → Option (BdT × Int × Unit) := spec (fun l : List Rat => (l.map (fun q => fx q), ())) (fun l => l ≠ [] ∧ l.length ≤ 1000000 ∧ ∀ q ∈ l, FitQ q ∧ (tight q q).2.1 = 0) (fun l => (hullL (l.map fun q => (tight q q).1), 0, ()))
def lineN (m a n : Int) : Int := m * n + a * 1000000000000
def rootU (s : SegT) (lo hi : Int) : BdT :=
 (max (min (lineN s.2.1 s.2.2.1 lo / 1000000) (lineN s.2.1 s.2.2.1 hi / 1000000)) 0, max (max (-(-lineN s.2.1 s.2.2.1 lo / 1000000)) (-(-lineN s.2.1 s.2.2.1 hi / 1000000))) 0, ())
noncomputable def rootB (s : SegT) (lo hi : Int) : BdT × Int × Unit :=
 if (powB (rootU s lo hi) s.2.2.2.1 s.2.2.2.2.1).2.1 ≠ 0 then ((0, 0, ()), (powB (rootU s lo hi) s.2.2.2.1 s.2.2.2.2.1).2.1, ())
 else if (addB (powB (rootU s lo hi) s.2.2.2.1 s.2.2.2.2.1).1 (s.2.2.2.2.2.1 * 1000000, s.2.2.2.2.2.1 * 1000000, ())).2.1 ≠ 0 then ((0, 0, ()), (addB (powB (rootU s lo hi) s.2.2.2.1 s.2.2.2.2.1).1 (s.2.2.2.2.2.1 * 1000000, s.2.2.2.2.2.1 * 1000000, ())).2.1, ())
 else (unitB (addB (powB (rootU s lo hi) s.2.2.2.1 s.2.2.2.2.1).1 (s.2.2.2.2.2.1 * 1000000, s.2.2.2.2.2.1 * 1000000, ())).1, 0, ())
def inU (n : Int) : Prop := inR n 0 1000000000000
instance (n : Int) : Decidable (inU n) := inferInstanceAs (Decidable (_ ∧ _))
noncomputable def S_cp_values (x : PcT × Int × Int × Unit) : Option (BdT × Int × Unit) := if numsOk x.1.1 ∧ inU x.2.1 ∧ inU x.2.2.1 then some (rootB x.1.1 x.2.1 x.2.2.1) else none
def S_cc_identityBand (x : (CvT × Unit) × BdT × Unit) : Option (BdT × Int × Unit) := some (x.2.1, 0, ())
end Go.Vs
namespace Go.Vs
open Go Go.Vg
def beforeI (l : List SegT) (k : Nat) : Int := if k = 0 then 0 else (l.getD (k - 1) (0, 0, 0, 0, 0, 0, ())).1
def partI (n : Int) (l : List SegT) : Nat := l.findIdx (fun s => decide (n ≤ s.1 * 1000000))
noncomputable def segB (l : List SegT) (lo hi : Int) (k : Nat) : BdT × Int × Unit := rootB (l.getD k (0, 0, 0, 0, 0, 0, ())) (max lo (beforeI l k * 1000000)) (min hi ((l.getD k (0, 0, 0, 0, 0, 0, ())).1 * 1000000))
noncomputable def bandsGo (l : List SegT) (lo hi : Int) : Nat → Nat → List BdT → BdT × Int × Unit
 | 0, _, acc => (hullL acc, 0, ())
 | n + 1, k, acc => if (segB l lo hi k).2.1 ≠ 0 then ((0, 0, ()), (segB l lo hi k).2.1, ()) else bandsGo l lo hi n (k + 1) (acc ++ [(segB l lo hi k).1])
noncomputable def bandsF (l : List SegT) (lo hi : Int) : BdT × Int × Unit := bandsGo l lo hi (partI hi l + 1 - partI lo l) (partI lo l) []
noncomputable def S_cc_formulaBand (x : (CvT × Unit) × BdT × Unit) : Option (BdT × Int × Unit) := if segLOk x.1.1.2.2.1 ∧ inU x.2.1.1 ∧ inU x.2.1.2.1 ∧ x.2.1.1 ≤ x.2.1.2.1 then some (bandsF x.1.1.2.2.1 x.2.1.1 x.2.1.2.1) else none
end Go.Vs
namespace Go.Vs
open Go Go.Vg
def placeI (l : List Int) (n : Int) : Nat := min (n * ((l.length - 1 : Nat) : Int) / 1000000000000).toNat (l.length - 2)
def tabM (l : List Int) (n : Int) : Int := l.getD (placeI l n) 0 * 1000000000000 + (n * ((l.length - 1 : Nat) : Int) - (placeI l n : Int) * 1000000000000) * (l.getD (placeI l n + 1) 0 - l.getD (placeI l n) 0)
def tabT (m : Int) : BdT := (m / 65535, -(-m / 65535), ())
def inTab (l : List Int) (lo hi : Int) (k : Nat) : Bool := decide (inR ((k : Int) * 1000000000000) (lo * ((l.length - 1 : Nat) : Int)) (hi * ((l.length - 1 : Nat) : Int)))
def tabBs (l : List Int) (lo hi : Int) (k : Nat) : List BdT := tabT (tabM l lo) :: tabT (tabM l hi) :: ((List.range k).filter (inTab l lo hi)).map (fun j => tabT (l.getD j 0 * 1000000000000))
def bandsT (l : List Int) (lo hi : Int) : BdT := hullL (tabBs l lo hi l.length)
def S_cc_tableBand (x : (CvT × Unit) × BdT × Unit) : Option (BdT × Int × Unit) := if tabOk x.1.1.2.1 ∧ inU x.2.1.1 ∧ inU x.2.1.2.1 ∧ x.2.1.1 ≤ x.2.1.2.1 then some (bandsT x.1.1.2.1 x.2.1.1 x.2.1.2.1, 0, ()) else none
noncomputable def bandsC (c : CvT) (b : BdT) : BdT × Int × Unit := if c.1 = 1 then (b, 0, ()) else if c.1 = 2 then (bandsT c.2.1 b.1 b.2.1, 0, ()) else bandsF c.2.2.1 b.1 b.2.1
noncomputable def S_c_Bands (x : CvT × BdT × Unit) : Option (BdT × Int × Unit) := some (if rightC x.1 then (if okB x.2.1.1 x.2.1.2.1 then bandsC x.1 (unitB x.2.1) else ((0, 0, ()), 30, ())) else ((0, 0, ()), 90, ()))
end Go.Vs
namespace Go.Vs
open Go Go.Vg
def tentC : CvT := (2, [0, 65535, 0], [], ())
def stepsC : CvT := (3, [], [(500000, 1000000, 0, 1, 1, 0, ()), (1000000, 2000000, -1000000, 2, 1, 500000, ())], ())
def rootC : CvT := (3, [], [(1000000, 1000000, 0, 1, 2, 0, ())], ())
def S_l9_of (x : Int × Int × Unit) : Option (FxT × Unit) := S_c_over x
def S_l9_tent (_ : Unit) : Option (CvT × Unit) := some (tentC, ())
def S_l9_steps (_ : Unit) : Option (CvT × Unit) := some (stepsC, ())
def S_l9_root (_ : Unit) : Option (CvT × Unit) := some (rootC, ())
noncomputable def S_l9_value (x : CvT × FxT × FxT × Unit) : Option (Bool × Unit) := (S_c_Eval (x.1, x.2.1, ())).map (fun r => (eqb r (x.2.2.1, 0, ()), ()))
def S_l9_wakes (_ : Unit) : Option (Bool × Unit) := some (true, ())
end Go.Vs
namespace Go.Vs
open Go Go.Vg
def S_CurvePowers (x : Int × Int × Int × Unit) : Option (Bool × Unit) := if inR x.1 0 255 ∧ inR x.2.1 0 65535 ∧ inR x.2.2.1 0 65535 then some (true, ()) else none
end Go.Vs
