/-
  A runner over the evaluator, and calls that have been run. Own work; no condition.
-/
import Derived.Test.YtgibnaibdcbmmaaGreatDoorClR5
import Derived.Test.YtgibnaibdcbmmaaGreatDoorLib
import Derived.Lib.AppendIntMem
import Derived.Lib.Join
import Derived.Lib.Repeat
set_option linter.unusedVariables false
set_option linter.unusedSimpArgs false
namespace Go.Vg
open Go Go.RowKit Go.Proofs
def Gt (P : Program) (w : World) : Prop := Lib.TabIs P w "internal/strconv.uint64pow10" .u64 Lib.pow10Tab
section
variable {P : Program}
theorem aLP {g : Nat} (hg : P.globalNamed "internal/strconv.uint64pow10" = some g) : acS (Gt P) := by
 intro w w' hb h
 unfold Gt Lib.TabIs World.var? at h ⊢
 rw [hg] at h ⊢
 simp only [xi] at h ⊢
 have hlt : g < w.heap.size := by
  rcases zH g w.heap.size with h' | h'
  ·exact h'
  ·rw [yG h'] at h; cases h
 rw [hb.block g hlt]
 exact h
theorem aJK (hg : (P.globalNamed "internal/strconv.uint64pow10").isSome = true) : acS (Gt P) := by
 obtain ⟨g, h⟩ := yD.1 hg
 exact aLP h
theorem aoS : ∀ (f n : Nat) (acc : List UInt8), n < 10 ^ (f + 1) → agF (f + 1) n acc = Lib.decDigits n ++ acc
 | 0, n, acc, h => by
  have h9 : n < 10 := by simpa using h
  rw [Lib.decDigits_one h9]
  simp [agF, show Nat.ble n 9 = true from yK zc]
 | f + 1, n, acc, h => by
  by_cases h9 : n < 10
  ·rw [Lib.decDigits_one h9]
   simp [agF, show Nat.ble n 9 = true from yK zc]
  ·have hb : Nat.ble n 9 = false := by
    cases hc : Nat.ble n 9 with
    | false => rfl
    | true => have := Nat.le_of_ble_eq_true hc; omega
   have hd : n / 10 < 10 ^ (f + 1) := by
    rw [Nat.div_lt_iff_lt_mul zc]
    rw [Nat.pow_succ] at h
    exact h
   rw [show agF (f + 1 + 1) n acc = agF (f + 1) (n / 10) (UInt8.ofNat (48 + n % 10) :: acc) by rw [agF, hb], aoS f _ _ hd]
   conv => rhs; rw [Lib.decDigits, dif_neg h9]
   simp
theorem aDb {n : Int} (h0 : -9223372036854775808 ≤ n) (h1 : n ≤ 9223372036854775807) : aJE n = Lib.itoa n := by
 unfold Lib.itoa
 cases n with
 | ofNat m =>
  have h1' : (m : Int) ≤ 9223372036854775807 := h1
  rw [if_neg (by show ¬ (m : Int) < 0; omega)]
  have hm : m < 10 ^ (24 + 1) := zc
  show agF 25 m [] = Lib.decDigits m
  rw [aoS 24 m [] hm, yM]
 | negSucc m =>
  rw [if_pos zc]
  have hm : m + 1 < 10 ^ (24 + 1) := zc
  show 45 :: agF 25 (m + 1) [] = 45 :: Lib.decDigits (m + 1)
  rw [aoS 24 _ [] hm, yM]
theorem aFO (l : List UInt8) : ∀ n, aNB l n = Lib.repeatL l n
 | 0 => rfl
 | n + 1 => by simp only [aNB, Lib.repeatL]; rw [aFO l n]
theorem aHc : 100000000 ≤ lim := zd
theorem agG : ∀ (f n : Nat), n < 10 ^ (f + 1) → (Lib.decDigits n).length ≤ f + 1
 | 0, n, h => by rw [Lib.decDigits_one (by simpa using h)]; simp
 | f + 1, n, h => by
  by_cases h9 : n < 10
  ·rw [Lib.decDigits_one h9]; simp
  ·have hd : n / 10 < 10 ^ (f + 1) := by
    rw [Nat.div_lt_iff_lt_mul zc]
    rw [Nat.pow_succ] at h
    exact h
   rw [Lib.decDigits, dif_neg h9]
   have := agG f _ hd
   simp; omega
theorem aB0 {n : Int} (h0 : -9223372036854775808 ≤ n) (h1 : n ≤ 9223372036854775807) : (aJE n).length ≤ lim := by
 refine zF ?_ aHc
 rw [aDb h0 h1]
 unfold Lib.itoa
 split
 ·have := agG 24 n.natAbs zc
  simp; omega
 ·have := agG 24 n.toNat zc
  omega
theorem azX {ok : Nat → Prop} {w : World} {x : Int} {v : Value} (h : RdV ok w (.int .i64) x v) : v = .int .i64 x ∧ -9223372036854775808 ≤ x ∧ x ≤ 9223372036854775807 := by
 obtain ⟨cs, ⟨rfl, h1, h2⟩, hv⟩ := h
 have hv' : [Value.int .i64 x] = [v] := hv
 injection hv' with hv'
 exact ⟨hv'.symm, h1, h2⟩
theorem aLE (s : List UInt8) (m : Nat) : aMI s (m : Int) = Lib.repeatL s m := by unfold aMI; rw [zz, aFO]
theorem aFN (s : List UInt8) (m : Nat) (h : s.length * m ≤ 1000 * 100000) : (Lib.repeatL s m).length ≤ lim := by
 rw [Lib.repeatL_length, Nat.mul_comm]
 exact zF h aHc
theorem aNX {ok : Nat → Prop} {w : World} {x : List UInt8} {v : Value} (h : RdV ok w .str x v) : v = .string ⟨⟨x⟩⟩ := by
 obtain ⟨cs, ⟨rfl, _⟩, hv⟩ := h
 have hv' : [Value.string ⟨⟨x⟩⟩] = [v] := hv
 injection hv' with hv'
 exact hv'.symm
theorem aFv {ok : Nat → Prop} {w : World} {x : List UInt8} (h : x.length ≤ lim) : RdVs ok w (.pair .str .unit) (x, ()) [.string ⟨⟨x⟩⟩] :=
 ⟨_, [], rfl, ⟨_, ⟨rfl, h⟩, rfl⟩, rfl⟩
theorem aNc (fi fr : Nat) (hei : acL P fi = true) (her : acL P fr = true)
  (hi : ∀ (n : Int), -9223372036854775808 ≤ n → n ≤ 9223372036854775807 → ∀ w : World, Gt P w → Calls P fi #[.int .i64 n] w fun e w' => e = .returned (.string ⟨(Lib.itoa n).toArray⟩) ∧ ∃ k os, w' = Sort.grow (w.drewN k) os)
  (hr : ∀ (s : ByteArray) (c : Nat) (w : World), c ≤ 9223372036854775807 → s.size * c ≤ 140737488355328 → Calls P fr #[.string s, .int .i64 c] w fun e w' => e = .returned (.string ⟨(Lib.repeatL s.data.toList c).toArray⟩) ∧ Below w.heap.size w w') :
  aeD P (Gt P) (aHy fi fr) := by
 intro f A R x y h
 unfold aHy at h
 split at h
 ·rename_i hf
  have := aaE hf
  subst this
  unfold aHz at h
  split at h
  ·rename_i x
   obtain ⟨n, u⟩ := x
   injection h with h
   subst h
   refine ⟨hei, fun w ok vs z hG hok hvs hz => ?_⟩
   have hz' : z = (n, u) := hz
   subst hz'
   obtain ⟨v, us, rfl, hv, hus⟩ := hvs
   have hus' : us = [] := hus
   subst hus'
   obtain ⟨rfl, h0, h1⟩ := azX hv
   refine (hi n h0 h1 w hG).mono ?_
   rintro e w' ⟨rfl, k, os, rfl⟩
   refine ⟨[.string ⟨⟨aJE n⟩⟩], ?_, aFv (aB0 h0 h1), Lib.below_grow _ _ (zm _) _ _⟩
   rw [aDb h0 h1]
   rfl
  ·cases h
 ·split at h
  ·rename_i hf
   have := aaE hf
   subst this
   unfold aAd at h
   split at h
   ·rename_i x
    obtain ⟨s, n, u⟩ := x
    split at h
    ·rename_i hc
     injection h with h
     subst h
     refine ⟨her, fun w ok vs z hG hok hvs hz => ?_⟩
     have hz' : z = (s, n, u) := hz
     subst hz'
     obtain ⟨v, us, rfl, hv, v2, us2, rfl, hv2, hus⟩ := hvs
     have hus' : us2 = [] := hus
     subst hus'
     obtain ⟨rfl, _, _⟩ := azX hv2
     have e1 := aNX hv
     subst e1
     have hc' : aLD (s : List UInt8) (n : Int) = true := hc
     unfold aLD at hc'
     simp only [zn, zC] at hc'
     obtain ⟨⟨g1, g2⟩, g3⟩ := hc'
     have g3 := Nat.le_of_ble_eq_true g3
     obtain ⟨m, rfl⟩ := yF g1
     have hm : m ≤ 100000 := zc
     have hmul : List.length (α := UInt8) s * m ≤ 1000 * 100000 := Nat.mul_le_mul g3 hm
     refine (hr ⟨⟨s⟩⟩ m w zc (by show List.length (α := UInt8) s * m ≤ _; omega)).mono ?_
     rintro e w' ⟨rfl, hb⟩
     have hrep : aMI (s : List UInt8) (m : Int) = Lib.repeatL s m := aLE s m
     refine ⟨[.string ⟨⟨aMI s (m : Int)⟩⟩], ?_, aFv ?_, hb⟩
     ·rw [hrep]; rfl
     ·rw [hrep]; exact aFN s m hmul
    ·cases h
   ·cases h
  ·cases h
end
end Go.Vg
