/-
  A runner over the evaluator, and calls that have been run. Own work; no condition.
-/
import Derived.Test.YteidbklnpgfldaaGreatDoorClR5
import Derived.Test.YteidbklnpgfldaaGreatDoorLib
import Derived.Lib.AppendIntMem
import Derived.Lib.Join
import Derived.Lib.Repeat
set_option linter.unusedVariables false
set_option linter.unusedSimpArgs false
namespace Go.Vg
open Go Go.RowKit Go.Proofs
def Gt (P : Program) (w : World) : Prop := Lib.TabIs P w "internal/strconv.uint64pow10" .u64 Lib.pow10Tab
section
variable {P : Program}
theorem aOq {g : Nat} (hg : P.globalNamed "internal/strconv.uint64pow10" = some g) : acS (Gt P) := by
 intro w w' hb h
 unfold Gt Lib.TabIs World.var? at h ⊢
 rw [hg] at h ⊢
 simp only [wi] at h ⊢
 have hlt : g < w.heap.size := by
  rcases zD g w.heap.size with h' | h'
  ·exact h'
  ·rw [yZ h'] at h; cases h
 rw [hb.block g hlt]
 exact h
theorem aLI (hg : (P.globalNamed "internal/strconv.uint64pow10").isSome = true) : acS (Gt P) := by
 obtain ⟨g, h⟩ := xo.1 hg
 exact aOq h
theorem aoG : ∀ (f n : Nat) (acc : List UInt8), n < 10 ^ (f + 1) → af2 (f + 1) n acc = Lib.decDigits n ++ acc
 | 0, n, acc, h => by
  have h9 : n < 10 := by simpa using h
  rw [Lib.decDigits_one h9]
  simp [af2, show Nat.ble n 9 = true from xw zb]
 | f + 1, n, acc, h => by
  by_cases h9 : n < 10
  ·rw [Lib.decDigits_one h9]
   simp [af2, show Nat.ble n 9 = true from xw zb]
  ·have hb : Nat.ble n 9 = false := by
    cases hc : Nat.ble n 9 with
    | false => rfl
    | true => have := Nat.le_of_ble_eq_true hc; omega
   have hd : n / 10 < 10 ^ (f + 1) := by
    rw [yQ zb]
    rw [yL] at h
    exact h
   rw [show af2 (f + 1 + 1) n acc = af2 (f + 1) (n / 10) (UInt8.ofNat (48 + n % 10) :: acc) by rw [af2, hb], aoG f _ _ hd]
   conv => rhs; rw [Lib.decDigits, dif_neg h9]
   simp
theorem aDT {n : Int} (h0 : -9223372036854775808 ≤ n) (h1 : n ≤ 9223372036854775807) : aLD n = Lib.itoa n := by
 unfold Lib.itoa
 cases n with
 | ofNat m =>
  have h1' : (m : Int) ≤ 9223372036854775807 := h1
  rw [if_neg (by show ¬ (m : Int) < 0; omega)]
  have hm : m < 10 ^ (24 + 1) := zb
  show af2 25 m [] = Lib.decDigits m
  rw [aoG 24 m [] hm, yK]
 | negSucc m =>
  rw [if_pos zb]
  have hm : m + 1 < 10 ^ (24 + 1) := zb
  show 45 :: af2 25 (m + 1) [] = 45 :: Lib.decDigits (m + 1)
  rw [aoG 24 _ [] hm, yK]
theorem aGx (l : List UInt8) : ∀ n, aQI l n = Lib.repeatL l n
 | 0 => rfl
 | n + 1 => by simp only [aQI, Lib.repeatL]; rw [aGx l n]
theorem aAj : 100000000 ≤ lim := zc
theorem af3 : ∀ (f n : Nat), n < 10 ^ (f + 1) → (Lib.decDigits n).length ≤ f + 1
 | 0, n, h => by rw [Lib.decDigits_one (by simpa using h)]; simp
 | f + 1, n, h => by
  by_cases h9 : n < 10
  ·rw [Lib.decDigits_one h9]; simp
  ·have hd : n / 10 < 10 ^ (f + 1) := by
    rw [yQ zb]
    rw [yL] at h
    exact h
   rw [Lib.decDigits, dif_neg h9]
   have := af3 f _ hd
   simp; omega
theorem aCA {n : Int} (h0 : -9223372036854775808 ≤ n) (h1 : n ≤ 9223372036854775807) : (aLD n).length ≤ lim := by
 refine zt ?_ aAj
 rw [aDT h0 h1]
 unfold Lib.itoa
 split
 ·have := af3 24 n.natAbs zb
  simp; omega
 ·have := af3 24 n.toNat zb
  omega
theorem aAn {ok : Nat → Prop} {w : World} {x : Int} {v : Value} (h : RdV ok w (.int .i64) x v) : v = .int .i64 x ∧ -9223372036854775808 ≤ x ∧ x ≤ 9223372036854775807 := by
 obtain ⟨cs, ⟨rfl, h1, h2⟩, hv⟩ := h
 have hv' : [Value.int .i64 x] = [v] := hv
 injection hv' with hv'
 exact ⟨hv'.symm, h1, h2⟩
theorem aN1 (s : List UInt8) (m : Nat) : aPk s (m : Int) = Lib.repeatL s m := by unfold aPk; rw [zn, aGx]
theorem aGw (s : List UInt8) (m : Nat) (h : s.length * m ≤ 1000 * 100000) : (Lib.repeatL s m).length ≤ lim := by
 rw [Lib.repeatL_length, xv]
 exact zt h aAj
theorem aQ5 {ok : Nat → Prop} {w : World} {x : List UInt8} {v : Value} (h : RdV ok w .str x v) : v = .string ⟨⟨x⟩⟩ := by
 obtain ⟨cs, ⟨rfl, _⟩, hv⟩ := h
 have hv' : [Value.string ⟨⟨x⟩⟩] = [v] := hv
 injection hv' with hv'
 exact hv'.symm
theorem aGh {ok : Nat → Prop} {w : World} {x : List UInt8} (h : x.length ≤ lim) : RdVs ok w (.pair .str .unit) (x, ()) [.string ⟨⟨x⟩⟩] :=
 ⟨_, [], rfl, ⟨_, ⟨rfl, h⟩, rfl⟩, rfl⟩
theorem aQl (fi fr : Nat) (hei : acM P fi = true) (her : acM P fr = true)
  (hi : ∀ (n : Int), -9223372036854775808 ≤ n → n ≤ 9223372036854775807 → ∀ w : World, Gt P w → Calls P fi #[.int .i64 n] w fun e w' => e = .returned (.string ⟨(Lib.itoa n).toArray⟩) ∧ ∃ k os, w' = Sort.grow (w.drewN k) os)
  (hr : ∀ (s : ByteArray) (c : Nat) (w : World), c ≤ 9223372036854775807 → s.size * c ≤ 140737488355328 → Calls P fr #[.string s, .int .i64 c] w fun e w' => e = .returned (.string ⟨(Lib.repeatL s.data.toList c).toArray⟩) ∧ Below w.heap.size w w') :
  adP P (Gt P) (aIN fi fr) := by
 intro f A R x y h
 unfold aIN at h
 split at h
 ·rename_i hf
  have := aaD hf
  subst this
  unfold aIO at h
  split at h
  ·rename_i x
   obtain ⟨n, u⟩ := x
   injection h with h
   subst h
   refine ⟨hei, fun w ok vs z hG hok hvs hz => ?_⟩
   have hz' : z = (n, u) := hz
   subst hz'
   obtain ⟨v, us, rfl, hv, hus⟩ := hvs
   have hus' : us = [] := hus
   subst hus'
   obtain ⟨rfl, h0, h1⟩ := aAn hv
   refine (hi n h0 h1 w hG).mono ?_
   rintro e w' ⟨rfl, k, os, rfl⟩
   refine ⟨[.string ⟨⟨aLD n⟩⟩], ?_, aGh (aCA h0 h1), Lib.below_grow _ _ (zj _) _ _⟩
   rw [aDT h0 h1]
   rfl
  ·cases h
 ·split at h
  ·rename_i hf
   have := aaD hf
   subst this
   unfold aAN at h
   split at h
   ·rename_i x
    obtain ⟨s, n, u⟩ := x
    split at h
    ·rename_i hc
     injection h with h
     subst h
     refine ⟨her, fun w ok vs z hG hok hvs hz => ?_⟩
     have hz' : z = (s, n, u) := hz
     subst hz'
     obtain ⟨v, us, rfl, hv, v2, us2, rfl, hv2, hus⟩ := hvs
     have hus' : us2 = [] := hus
     subst hus'
     obtain ⟨rfl, _, _⟩ := aAn hv2
     have e1 := aQ5 hv
     subst e1
     have hc' : aN0 (s : List UInt8) (n : Int) = true := hc
     unfold aN0 at hc'
     simp only [zl, zz] at hc'
     obtain ⟨⟨g1, g2⟩, g3⟩ := hc'
     have g3 := Nat.le_of_ble_eq_true g3
     obtain ⟨m, rfl⟩ := zM g1
     have hm : m ≤ 100000 := zb
     have hmul : List.length (α := UInt8) s * m ≤ 1000 * 100000 := Nat.mul_le_mul g3 hm
     refine (hr ⟨⟨s⟩⟩ m w zb (by show List.length (α := UInt8) s * m ≤ _; omega)).mono ?_
     rintro e w' ⟨rfl, hb⟩
     have hrep : aPk (s : List UInt8) (m : Int) = Lib.repeatL s m := aN1 s m
     refine ⟨[.string ⟨⟨aPk s (m : Int)⟩⟩], ?_, aGh ?_, hb⟩
     ·rw [hrep]; rfl
     ·rw [hrep]; exact aGw s m hmul
    ·cases h
   ·cases h
  ·cases h
end
end Go.Vg
