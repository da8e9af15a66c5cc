/-
  Trees of what the functions compute, and their laws. Own work; no condition.
-/
import Derived.Test.YtebeijpmpjpgcaaGreatDoorClL3
import Derived.Test.YtebeijpmpjpgcaaGreatDoorProg
import Derived.KernelRfl
set_option linter.unusedVariables false
set_option linter.unusedSimpArgs false
namespace Go.Vs
open Go Go.Vg
theorem aHh {H v1 V P U Q : Int} (hP : 0 < P) (h1 : 0 < v1) (hV : v1 * P ≤ V) (hU : U < (H + 1) * P) (hQ : Q * V ≤ U) (hQ0 : 0 ≤ Q) : Q ≤ H / v1 := by
 rw [wC h1]
 have a1 : Q * (v1 * P) ≤ Q * V := zy hV hQ0
 have a2 : Q * v1 * P < (H + 1) * P := by rw [Int.mul_assoc]; omega
 have := zT a2 zc
 omega
theorem aJ2 {q r H v1 v2 V P U Q u2 B : Int} (hV0 : 0 ≤ V) (hP : 0 < P) (hinv : q * v1 + r = H) (hV : (v1 * B + v2) * P ≤ V) (hU : U < (H * B + u2 + 1) * P) (hQ : Q * V ≤ U) (hq : 0 ≤ q) (h : q * v2 > r * B + u2) : Q ≤ q - 1 := by
 have a1 : H * B + u2 + 1 ≤ q * (v1 * B + v2) := by
  have : q * (v1 * B + v2) = (q * v1 + r) * B - r * B + q * v2 := by grind
  rw [this, hinv]; omega
 have a2 : (H * B + u2 + 1) * P ≤ (q * (v1 * B + v2)) * P := zD a1 zc
 have a3 : q * ((v1 * B + v2) * P) ≤ q * V := zy hV hq
 rw [Int.mul_assoc] at a2
 have a4 : Q * V < q * V := zc
 have := zT a4 hV0
 omega
theorem aCR {q r H v1 v2 V V3 P U u2 B Q : Int} (hP : 0 < P) (hinv : q * v1 + r = H) (hVe : V = (v1 * B + v2) * P + V3) (hV3 : V3 < P) (hV30 : 0 ≤ V3) (hU : (H * B + u2) * P ≤ U) (hq : 0 ≤ q) (hqB : q < B) (hVB : B * P ≤ V) (hUQ : U < (Q + 1) * V) (h : q * v2 ≤ r * B + u2) : q ≤ Q + 1 := by
 have a1 : q * (v1 * B + v2) ≤ H * B + u2 := by
  have : q * (v1 * B + v2) = (q * v1 + r) * B - r * B + q * v2 := by grind
  rw [this, hinv]; omega
 have a2 : (q * (v1 * B + v2)) * P ≤ (H * B + u2) * P := zD a1 zc
 have a3 : q * V3 ≤ B * P := by
  have b1 : q * V3 ≤ q * P := zy zc hq
  have b2 : q * P ≤ B * P := zD zc zc
  omega
 have a4 : q * V = (q * (v1 * B + v2)) * P + q * V3 := by rw [hVe]; grind
 have a5 : q * V < (Q + 2) * V := by
  have : (Q + 2) * V = (Q + 1) * V + V := by grind
  omega
 have hVpos : 0 < V := by
  have : 0 < B * P := Int.mul_pos zc hP
  omega
 have := zT a5 zc
 omega
theorem aBq {u w : List Int} {j n : Nat} {Q Vv e U : Int} (hlen : w.length = u.length) (hjn : j + n < u.length) (hw : Dg 1000000000 w)
  (htk : w.take j = u.take j) (hdr : w.drop (j + n) = u.drop (j + n)) (hz : V 1000000000 (u.drop (j + n + 1)) = 0) (hU : U = V 1000000000 (u.drop j)) (hX0 : 0 ≤ U - Q * Vv) (hX1 : U - Q * Vv < 1000000000 ^ n)
  (hV : V 1000000000 w = V 1000000000 u - 1000000000 ^ j * (Q * Vv) + 1000000000 ^ (j + n) * e) :
  V 1000000000 (w.set (j + n) 0) = V 1000000000 u - 1000000000 ^ j * (Q * Vv) ∧ V 1000000000 ((w.set (j + n) 0).drop j) = U - Q * Vv ∧ e = u.getD (j + n) 0 := by
 have sw := acH 1000000000 w j
 have su := acH 1000000000 u j
 rw [htk] at sw
 have hPj : (0 : Int) < 1000000000 ^ j := yx zc
 have hPn : (0 : Int) < 1000000000 ^ n := yx zc
 have e1 : V 1000000000 (w.drop j) = U - Q * Vv + 1000000000 ^ n * e := by
  have : 1000000000 ^ j * V 1000000000 (w.drop j) = 1000000000 ^ j * (U - Q * Vv + 1000000000 ^ n * e) := by
   rw [xy] at hV
   rw [hU]
   have : (1000000000 : Int) ^ j * (V 1000000000 (u.drop j) - Q * Vv + 1000000000 ^ n * e) = 1000000000 ^ j * V 1000000000 (u.drop j) - 1000000000 ^ j * (Q * Vv) + 1000000000 ^ j * 1000000000 ^ n * e := by grind
   omega
  exact Int.eq_of_mul_eq_mul_left zc this
 have s2 := acH 1000000000 (w.drop j) n
 rw [zP, hdr] at s2
 have s3 := aaR 1000000000 u (j + n)
 rw [hz, wA, wQ] at s3
 rw [s3] at s2
 have l1 := adC zc (acV hw j) n
 have l2 := aaQ zc (acF (acV hw j) n)
 have hget : w.getD (j + n) 0 = u.getD (j + n) 0 := by
  have h1 : (w.drop (j + n)).getD 0 0 = (u.drop (j + n)).getD 0 0 := by rw [hdr]
  simpa [yz, yJ] using h1
 have he : e = u.getD (j + n) 0 := by
  have h1 : 1000000000 ^ n * (u.getD (j + n) 0 - e) = (U - Q * Vv) - V 1000000000 ((w.drop j).take n) := by
   rw [Int.mul_sub]; omega
  have h2 : u.getD (j + n) 0 - e < 1 := by
   have : 1000000000 ^ n * (u.getD (j + n) 0 - e) < 1000000000 ^ n * 1 := zc
   exact yC this zc
  have h3 : -1 < u.getD (j + n) 0 - e := by
   have : 1000000000 ^ n * (-1) < 1000000000 ^ n * (u.getD (j + n) 0 - e) := zc
   exact yC this zc
  omega
 refine ⟨?_, ?_, he⟩
 ·rw [atJ _ zc, hget, hV, he, Int.mul_sub]
  omega
 ·have s4 : (w.set (j + n) 0).drop j = (w.drop j).set n 0 := by
   rw [List.drop_set, if_neg zc]; congr 1; omega
  rw [s4, atJ _ (by rw [zZ]; omega)]
  have : (w.drop j).getD n 0 = u.getD (j + n) 0 := by
   rw [← hget]; simp [yz, yJ]
  rw [this, e1, he, Int.mul_sub]
  omega
theorem aLX {u w : List Int} {j n : Nat} {q Vv e U : Int} (hw : Dg 1000000000 w)
  (htk : w.take j = u.take j) (hdr : w.drop (j + n) = u.drop (j + n)) (hz : V 1000000000 (u.drop (j + n + 1)) = 0) (hU : U = V 1000000000 (u.drop j)) (hX0 : U - q * Vv < 0)
  (hV : V 1000000000 w = V 1000000000 u - 1000000000 ^ j * (q * Vv) + 1000000000 ^ (j + n) * e) : u.getD (j + n) 0 < e := by
 have sw := acH 1000000000 w j
 have su := acH 1000000000 u j
 rw [htk] at sw
 have hPj : (0 : Int) < 1000000000 ^ j := yx zc
 have hPn : (0 : Int) < 1000000000 ^ n := yx zc
 have e1 : V 1000000000 (w.drop j) = U - q * Vv + 1000000000 ^ n * e := by
  have : 1000000000 ^ j * V 1000000000 (w.drop j) = 1000000000 ^ j * (U - q * Vv + 1000000000 ^ n * e) := by
   rw [xy] at hV
   rw [hU]
   have : (1000000000 : Int) ^ j * (V 1000000000 (u.drop j) - q * Vv + 1000000000 ^ n * e) = 1000000000 ^ j * V 1000000000 (u.drop j) - 1000000000 ^ j * (q * Vv) + 1000000000 ^ j * 1000000000 ^ n * e := by grind
   omega
  exact Int.eq_of_mul_eq_mul_left zc this
 have s2 := acH 1000000000 (w.drop j) n
 rw [zP, hdr] at s2
 have s3 := aaR 1000000000 u (j + n)
 rw [hz, wA, wQ] at s3
 rw [s3] at s2
 have l2 := aaQ zc (acF (acV hw j) n)
 have : 1000000000 ^ n * u.getD (j + n) 0 < 1000000000 ^ n * e := zc
 exact yC this zc
theorem arQ (l : List Int) {k j : Nat} (h : j ≤ k) (x : Int) : (l.set (k) x).take j = l.take j := by
 rw [List.take_set_of_le h]
theorem aGX (m o : List Int) (y : Int × Unit) (y4 : List Int × Unit) (v ql u w0 : List Int) (j n : Nat) (q : Int) (i2 : Int × Int × Int × List Int × Unit) (hv : Dg 1000000000 v) (hn : v.length = n) (hN : w0.length ≤ 1000000000000) (hjn : j + n < w0.length) (hw : Dg 1000000000 w0) (hq : 1 ≤ q ∧ q < 1000000000) (hK : inb (j : Int) (↑(Int.toNat (w64 (w64 (len m - len v) + 1))) : Int)) :
  ∃ w' e, ae1 (fun i3 => (agP m o y (v, ()) y4 ((j : Int), ql, u, ()) (q, ()) i2 i3).toO) (0, 0, w0, ()) = some (.inr (.inl ((j : Int) - 1, ql.set j (q - 1), w'.set (j + n) 0, ()))) ∧ w'.length = w0.length ∧ Dg 1000000000 w' ∧ w'.take j = w0.take j ∧ w'.drop (j + n) = w0.drop (j + n) ∧ V 1000000000 w' = V 1000000000 w0 + 1000000000 ^ j * V 1000000000 v - 1000000000 ^ (j + n) * e := by
 have wa : w64 (w64 ((j : Int) + len v) + 1) = ((j + n + 1 : Nat) : Int) := by rw [aaN, hn, aaB (x := (j : Int) + n) zc, aaB zc]; omega
 have wb : ((((j + n + 1 : Nat) : Int).toNat - (j : Int).toNat : Nat) : Int) = ((n + 1 : Nat) : Int) := zc
 refine Exists.elim (ahB (R := fun i3 => (agP m o y (v, ()) y4 ((j : Int), ql, u, ()) (q, ()) i2 i3).toO) (fun i : Int × Int × List Int × Unit => ∃ k : Nat, k ≤ n ∧ i.1 = (k : Int) ∧ 0 ≤ i.2.1 ∧ i.2.1 ≤ 1 ∧ i.2.2.1.length = w0.length ∧ Dg 1000000000 i.2.2.1 ∧ i.2.2.1.take j = w0.take j ∧ i.2.2.1.drop (j + k) = w0.drop (j + k) ∧ V 1000000000 i.2.2.1 = V 1000000000 w0 + 1000000000 ^ j * V 1000000000 (v.take k) - 1000000000 ^ (j + k) * i.2.1) (fun i => ((n : Int) - i.1).toNat)
  (fun r => ∃ w' e, r = Sum.inr (Sum.inl ((j : Int) - 1, ql.set j (q - 1), w'.set (j + n) 0, ())) ∧ w'.length = w0.length ∧ Dg 1000000000 w' ∧ w'.take j = w0.take j ∧ w'.drop (j + n) = w0.drop (j + n) ∧ V 1000000000 w' = V 1000000000 w0 + 1000000000 ^ j * V 1000000000 v - 1000000000 ^ (j + n) * e) ?step (0, 0, w0, ()) ⟨0, by omega, rfl, by simp, by simp, rfl, hw, rfl, rfl, by simp [V]⟩) ?fin
 case fin =>
  rintro a ⟨h1, w', e, rfl, h3⟩
  exact ⟨w', e, h1, h3⟩
 rintro ⟨i, c, w, u5⟩ ⟨k, g1, g2, g3, g4, g5, g6, g7, g8, g9⟩
 dsimp only at g2 g3 g4 g5 g6 g7 g8 g9
 subst g2
 have dv := aa4 zc hv k
 have dw := aa4 zc g6 (j + k)
 have ev := abB 1000000000 v k
 simp only [agP, aaU, wa, wb, zk, zl]
 rcases zx k n with hk | hk
 ·left
  have w1 : adY (adY (w.getD (j + k) 0 + v.getD k 0) + c) = w.getD (j + k) 0 + v.getD k 0 + c := by rw [aa3 (x := w.getD (j + k) 0 + v.getD k 0) zc, aa3 zc]
  have w5 : w64 ((k : Int) + 1) = ((k + 1 : Nat) : Int) := by rw [aaB (x := (k : Int) + 1) zc]; omega
  simp only [w1, w5]
  have fin : ∀ x c' : Int, 0 ≤ x ∧ x < 1000000000 → 0 ≤ c' ∧ c' ≤ 1 → x + 1000000000 * c' = w.getD (j + k) 0 + v.getD k 0 + c → ∃ k_1 : Nat, k_1 ≤ n ∧ ((k + 1 : Nat) : Int) = (k_1 : Int) ∧ 0 ≤ c' ∧ c' ≤ 1 ∧ (w.set (j + k) x).length = w0.length ∧ Dg 1000000000 (w.set (j + k) x) ∧ (w.set (j + k) x).take j = w0.take j ∧ (w.set (j + k) x).drop (j + k_1) = w0.drop (j + k_1) ∧ V 1000000000 (w.set (j + k) x) = V 1000000000 w0 + 1000000000 ^ j * V 1000000000 (v.take k_1) - 1000000000 ^ (j + k_1) * c' := by
   intro x c' hx hc he
   refine ⟨k + 1, by omega, rfl, hc.1, hc.2, by simp; omega, ahK g6 hx _, by rw [arQ _ zc, g7], ?_, ?_⟩
   ·rw [agC _ zc, show j + (k + 1) = j + k + 1 by omega, ← zP (i := 1), g8, zP]
   ·rw [atJ _ zc, g9, ev, show j + (k + 1) = j + k + 1 by omega, yi, xy]
    have : (1000000000 : Int) ^ j * 1000000000 ^ k * (x + 1000000000 * c') = 1000000000 ^ j * 1000000000 ^ k * (w.getD (j + k) 0 + v.getD k 0 + c) := by rw [he]
    grind
  by_cases cc : w.getD (j + k) 0 + v.getD k 0 + c ≥ 1000000000
  ·refine ⟨(((k + 1 : Nat) : Int), 1, w.set (j + k) (w.getD (j + k) 0 + v.getD k 0 + c - 1000000000), ()), ?_, fin _ 1 zc zc zc, by dsimp only; omega⟩
   refine uT sd (uN sd (uN ⟨by omega, by omega⟩ (uT (zp cc) (uN ⟨by omega, by omega⟩ ?_))))
   repeat refine za ?_
   rw [aa3 (x := w.getD (j + k) 0 + v.getD k 0 + c - 1000000000) zc]
   rfl
  ·refine ⟨(((k + 1 : Nat) : Int), 0, w.set (j + k) (w.getD (j + k) 0 + v.getD k 0 + c), ()), ?_, fin _ 0 zc zc zc, by dsimp only; omega⟩
   refine uT sd (uN sd (uN ⟨by omega, by omega⟩ (uF (zn cc) (uN ⟨by omega, by omega⟩ ?_))))
   repeat refine za ?_
   rfl
 ·right
  have hkn : k = n := zc
  subst hkn
  rw [abR _ zc] at g9
  refine ⟨_, ?_, w, c, rfl, g5, g6, g7, g8, g9⟩
  refine uF sd (uN ⟨by simp [len], by rw [aaN, hn]; omega⟩ (uN hK ?_))
  repeat refine za ?_
  have w6 : adY (abZ (q - 1)) = q - 1 := by rw [aaO (x := q - 1) zc, aa3 zc]
  rw [aaT, w6, aaB (x := (j : Int) - 1) zc, aaN, hn, zk]
theorem amY {a b B : Int} (ha : 0 ≤ a ∧ a < B) (hb : 0 ≤ b ∧ b < B) : 0 ≤ a * b ∧ a * b ≤ (B - 1) * (B - 1) := by
 refine ⟨xg ha.1 hb.1, ?_⟩
 have h1 : a * b ≤ a * (B - 1) := zy zc ha.1
 have h2 : a * (B - 1) ≤ (B - 1) * (B - 1) := zD zc zc
 omega
theorem aGY (m o : List Int) (y : Int × Unit) (y4 : List Int × Unit) (v ql u : List Int) (j n : Nat) (q Q : Int) (hv : Dg 1000000000 v) (hn : v.length = n) (hN : u.length ≤ 1000000000000) (hjn : j + n < u.length) (hu : Dg 1000000000 u) (hq : 0 ≤ q ∧ q < 1000000000) (hK : inb (j : Int) (↑(Int.toNat (w64 (w64 (len m - len v) + 1))) : Int))
  (hz : V 1000000000 (u.drop (j + n + 1)) = 0) (hQ : q = Q ∨ q = Q + 1) (hX0 : 0 ≤ V 1000000000 (u.drop j) - Q * V 1000000000 v) (hX1 : V 1000000000 (u.drop j) - Q * V 1000000000 v < V 1000000000 v) (hQ0 : 0 ≤ Q) :
  ∃ u', ae1 (fun i2 => (afF m o y (v, ()) y4 ((j : Int), ql, u, ()) (q, ()) i2).toO) (0, 0, 0, u, ()) = some (.inl ((j : Int) - 1, ql.set j Q, u', ())) ∧ u'.length = u.length ∧ Dg 1000000000 u' ∧ V 1000000000 u' = V 1000000000 u - 1000000000 ^ j * (Q * V 1000000000 v) ∧ V 1000000000 (u'.drop j) = V 1000000000 (u.drop j) - Q * V 1000000000 v := by
 have wa : w64 (w64 ((j : Int) + len v) + 1) = ((j + n + 1 : Nat) : Int) := by rw [aaN, hn, aaB (x := (j : Int) + n) zc, aaB zc]; omega
 have wb : ((((j + n + 1 : Nat) : Int).toNat - (j : Int).toNat : Nat) : Int) = ((n + 1 : Nat) : Int) := zc
 have hVn : V 1000000000 v < 1000000000 ^ n := by have := aEK zc hv; rwa [hn] at this
 refine Exists.elim (ahB (R := fun i2 => (afF m o y (v, ()) y4 ((j : Int), ql, u, ()) (q, ()) i2).toO) (fun i : Int × Int × Int × List Int × Unit => ∃ k : Nat, k ≤ n ∧ i.1 = (k : Int) ∧ 0 ≤ i.2.1 ∧ i.2.1 ≤ 1 ∧ 0 ≤ i.2.2.1 ∧ i.2.2.1 < 1000000000 ∧ i.2.2.2.1.length = u.length ∧ Dg 1000000000 i.2.2.2.1 ∧ i.2.2.2.1.take j = u.take j ∧ i.2.2.2.1.drop (j + k) = u.drop (j + k) ∧ V 1000000000 i.2.2.2.1 = V 1000000000 u - 1000000000 ^ j * (q * V 1000000000 (v.take k)) + 1000000000 ^ (j + k) * (i.2.1 + i.2.2.1)) (fun i => ((n : Int) - i.1).toNat)
  (fun r => ∃ u', r = Sum.inl ((j : Int) - 1, ql.set j Q, u', ()) ∧ u'.length = u.length ∧ Dg 1000000000 u' ∧ V 1000000000 u' = V 1000000000 u - 1000000000 ^ j * (Q * V 1000000000 v) ∧ V 1000000000 (u'.drop j) = V 1000000000 (u.drop j) - Q * V 1000000000 v) ?step (0, 0, 0, u, ()) ⟨0, by omega, rfl, by simp, by simp, by simp, by simp, rfl, hu, rfl, rfl, by simp [V]⟩) ?fin
 case fin =>
  rintro a ⟨h1, u', rfl, h3⟩
  exact ⟨u', h1, h3⟩
 rintro ⟨i, b, c, w, u5⟩ ⟨k, g1, g2, g3, g4, g5, g6, g7, g8, g9, g10, g11⟩
 dsimp only at g2 g3 g4 g5 g6 g7 g8 g9 g10 g11
 subst g2
 have dv := aa4 zc hv k
 have dw := aa4 zc g8 (j + k)
 have ev := abB 1000000000 v k
 have hm := amY hq dv
 have hs : 0 ≤ c + q * v.getD k 0 := zc
 simp only [afF, aaU, wa, wb, zk, zl]
 rcases zx k n with hk | hk
 ·left
  have wv : abZ (v.getD k 0) = v.getD k 0 := aaO zc
  have wp : abZ (c + abZ (q * v.getD k 0)) = c + q * v.getD k 0 := by rw [aaO (x := q * v.getD k 0) zc, aaO zc]
  have em := yc (c + q * v.getD k 0) 1000000000
  have e2 : 0 ≤ (c + q * v.getD k 0) % 1000000000 ∧ (c + q * v.getD k 0) % 1000000000 < 1000000000 := zc
  have e3 : 0 ≤ (c + q * v.getD k 0) / 1000000000 ∧ (c + q * v.getD k 0) / 1000000000 < 1000000000 := zc
  have tm : Int.tmod (c + q * v.getD k 0) 1000000000 = (c + q * v.getD k 0) % 1000000000 := zM hs
  have td : Int.tdiv (c + q * v.getD k 0) 1000000000 = (c + q * v.getD k 0) / 1000000000 := zJ hs
  have wr : w64 (w64 (w64 (w.getD (j + k) 0) - b) - w64 ((c + q * v.getD k 0) % 1000000000)) = w.getD (j + k) 0 - b - (c + q * v.getD k 0) % 1000000000 := by
   rw [aaB (x := w.getD (j + k) 0) zc, aaB (x := w.getD (j + k) 0 - b) zc, aaB (x := (c + q * v.getD k 0) % 1000000000) zc, aaB zc]
  have w5 : w64 ((k : Int) + 1) = ((k + 1 : Nat) : Int) := by rw [aaB (x := (k : Int) + 1) zc]; omega
  have wd : abZ ((c + q * v.getD k 0) / 1000000000) = (c + q * v.getD k 0) / 1000000000 := aaO zc
  simp only [wv, wp, tm, td, wr, w5, wd]
  generalize (c + q * v.getD k 0) % 1000000000 = D at *
  generalize (c + q * v.getD k 0) / 1000000000 = C at *
  have fin : ∀ x b' : Int, 0 ≤ x ∧ x < 1000000000 → 0 ≤ b' ∧ b' ≤ 1 → x = w.getD (j + k) 0 - b - D + 1000000000 * b' → ∃ k_1 : Nat, k_1 ≤ n ∧ ((k + 1 : Nat) : Int) = (k_1 : Int) ∧ 0 ≤ b' ∧ b' ≤ 1 ∧ 0 ≤ C ∧ C < 1000000000 ∧ (w.set (j + k) x).length = u.length ∧ Dg 1000000000 (w.set (j + k) x) ∧ (w.set (j + k) x).take j = u.take j ∧ (w.set (j + k) x).drop (j + k_1) = u.drop (j + k_1) ∧ V 1000000000 (w.set (j + k) x) = V 1000000000 u - 1000000000 ^ j * (q * V 1000000000 (v.take k_1)) + 1000000000 ^ (j + k_1) * (b' + C) := by
   intro x b' hx hb he
   refine ⟨k + 1, by omega, rfl, hb.1, hb.2, e3.1, e3.2, by simp; omega, ahK g8 hx _, by rw [arQ _ zc, g9], ?_, ?_⟩
   ·rw [agC _ zc, show j + (k + 1) = j + k + 1 by omega, ← zP (i := 1), g10, zP]
   ·rw [atJ _ zc, g11, ev, show j + (k + 1) = j + k + 1 by omega, yi, xy, he]
    have : (1000000000 : Int) ^ j * 1000000000 ^ k * (D + 1000000000 * C) = 1000000000 ^ j * 1000000000 ^ k * (c + q * v.getD k 0) := by rw [em]
    grind
  by_cases cc : w.getD (j + k) 0 - b - D < 0
  ·refine ⟨(((k + 1 : Nat) : Int), 1, C, w.set (j + k) (w.getD (j + k) 0 - b - D + 1000000000), ()), ?_, fin _ 1 zc zc zc, by dsimp only; omega⟩
   refine uT sd (uN sd (uN ⟨by omega, by omega⟩ (uV (uV (uT (zp cc) (uN ⟨by omega, by omega⟩ ?_))))))
   repeat refine za ?_
   rw [aaB (x := w.getD (j + k) 0 - b - D + 1000000000) zc, aa3 zc]
   rfl
  ·refine ⟨(((k + 1 : Nat) : Int), 0, C, w.set (j + k) (w.getD (j + k) 0 - b - D), ()), ?_, fin _ 0 zc zc zc, by dsimp only; omega⟩
   refine uT sd (uN sd (uN ⟨by omega, by omega⟩ (uV (uV (uF (zn cc) (uN ⟨by omega, by omega⟩ ?_))))))
   repeat refine za ?_
   rw [aa3 (x := w.getD (j + k) 0 - b - D) zc]
   rfl
 ·right
  have hkn : k = n := zc
  subst hkn
  rw [abR _ zc] at g11
  have hun := aa4 zc hu (j + k)
  have hget : w.getD (j + k) 0 = u.getD (j + k) 0 := by
   have h1 : (w.drop (j + k)).getD 0 0 = (u.drop (j + k)).getD 0 0 := by rw [g10]
   simpa [yz, yJ] using h1
  have wl : len v = (k : Int) := by rw [aaN, hn]
  have wt : w64 (w64 (u.getD (j + k) 0) - b) = u.getD (j + k) 0 - b := by rw [aaB (x := u.getD (j + k) 0) zc, aaB zc]
  have wc : w64 c = c := aaB zc
  simp only [wl, zk, hget, wt, wc]
  by_cases cb : u.getD (j + k) 0 - b < c
  ·-- one too great
   have hq1 : q = Q + 1 := by
    rcases hQ with h | h
    ·subst h
     obtain ⟨-, -, he⟩ := aBq (Q := q) g7 hjn g8 g9 g10 hz rfl hX0 zc g11
     omega
    ·exact h
   obtain ⟨w', e, r1, r2, r3, r4, r5, r6⟩ := aGX m o y y4 v ql u w j k q ((k : Int), b, c, w, ()) hv hn zc zc g8 zc hK
   obtain ⟨f1, f2, -⟩ := aBq (u := u) (w := w') (Q := Q) (Vv := V 1000000000 v) (e := b + c - e) (by rw [r2, g7]) hjn r3 (by rw [r4, g9]) (by rw [r5, g10]) hz rfl hX0 zc (by
    rw [r6, g11, hq1]
    grind)
   refine ⟨_, ?_, w'.set (j + k) 0, rfl, by simp; omega, ahK r3 zc _, f1, f2⟩
   refine uF sd (uN ⟨by omega, by omega⟩ (uT (zp cb) ?_))
   refine uO (0, 0, w, ()) (by repeat refine za ?_; rfl) ?_
   rw [r1, hq1, Int.add_sub_cancel]
  ·have hq1 : q = Q := by
    rcases hQ with h | h
    ·exact h
    ·exfalso
     have := aLX (q := q) g8 g9 g10 hz rfl (by rw [h, Int.add_mul]; omega) g11
     omega
   subst hq1
   obtain ⟨f1, f2, -⟩ := aBq (Q := q) g7 hjn g8 g9 g10 hz rfl hX0 zc g11
   refine ⟨_, ?_, w.set (j + k) 0, rfl, by simp; omega, ahK g8 zc _, f1, f2⟩
   refine uF sd (uN ⟨by omega, by omega⟩ (uF (zn cb) (uN ⟨by omega, by omega⟩ (uN (by rw [wl] at hK; exact hK) ?_))))
   repeat refine za ?_
   rw [aaT, aa3 (x := q) zc, aaB (x := (j : Int) - 1) zc]
theorem amW {N : Nat} {s : List Int} (h : s.length ≤ N) : over (List.replicate N 0) 0 s = s ++ List.replicate (N - s.length) 0 := by
 unfold over
 simp
theorem aOs {N : Nat} {s : List Int} (h : s.length ≤ N) : V 1000000000 (over (List.replicate N 0) 0 s) = V 1000000000 s := by
 rw [amW h, ad6, asK]; omega
theorem aGZ (m o : List Int) (y : Int × Unit) (y4 : List Int × Unit) (v ql u : List Int) (j n : Nat) (U Q : Int) (hv : Dg 1000000000 v) (hn : v.length = n + 2) (hN : u.length ≤ 1000000000000) (hjn : j + n + 2 < u.length) (hu : Dg 1000000000 u) (hz : V 1000000000 (u.drop (j + n + 2 + 1)) = 0) (hU : U = V 1000000000 (u.drop j)) (hUB : U < V 1000000000 v * 1000000000) (hQ1 : Q * V 1000000000 v ≤ U) (hQ2 : U < (Q + 1) * V 1000000000 v) (hQ0 : 0 ≤ Q) (htop : 1 ≤ v.getD (n + 1) 0) :
  ∃ q, (q = Q ∨ q = Q + 1) ∧ 0 ≤ q ∧ q < 1000000000 ∧ ae1 (fun i1 => (afG m o y (v, ()) y4 ((j : Int), ql, u, ()) i1).toO) ((u.getD (j + n + 2) 0 * 1000000000 + u.getD (j + n + 1) 0) % v.getD (n + 1) 0, (u.getD (j + n + 2) 0 * 1000000000 + u.getD (j + n + 1) 0) / v.getD (n + 1) 0, ()) = some (.inl (q, ())) := by
 have wb1 : w64 (len v - 1) = ((n + 1 : Nat) : Int) := by rw [aaN, hn, aaB zc]; omega
 have wb2 : w64 (len v - 2) = ((n : Nat) : Int) := by rw [aaN, hn, aaB zc]; omega
 have wa : w64 (w64 ((j : Int) + len v) + 1) = ((j + n + 2 + 1 : Nat) : Int) := by rw [aaN, hn, aaB (x := (j : Int) + ((n + 2 : Nat) : Int)) zc, aaB zc]; omega
 have wb : ((((j + n + 2 + 1 : Nat) : Int).toNat - (j : Int).toNat : Nat) : Int) = ((n + 3 : Nat) : Int) := zc
 have dv1 := aa4 zc hv (n + 1)
 have dv2 := aa4 zc hv n
 have du0 := aa4 zc hu (j + n + 2)
 have du1 := aa4 zc hu (j + n + 1)
 have du2 := aa4 zc hu (j + n)
 -- the divisor
 have hP : (0 : Int) < 1000000000 ^ n := yx zc
 have hP1 : (0 : Int) < 1000000000 ^ (n + 1) := yx zc
 have s1 := acH 1000000000 v n
 have s2 := aaR 1000000000 v n
 have s3 := aaR 1000000000 v (n + 1)
 rw [ac4 (k := n + 1 + 1) _ zc, wA, wQ] at s3
 rw [s3] at s2
 have s4 := adC zc hv n
 have s5 := aaQ zc (acF hv n)
 have s6 := acH 1000000000 v (n + 1)
 rw [s3] at s6
 have s7 := aaQ zc (acF hv (n + 1))
 -- the window
 have t1 := acH 1000000000 (u.drop j) n
 have t2 : V 1000000000 ((u.drop j).drop n) = (u.getD (j + n + 2) 0 * 1000000000 + u.getD (j + n + 1) 0) * 1000000000 + u.getD (j + n) 0 := by
  rw [zP]
  have a1 := aaR 1000000000 u (j + n)
  have a2 := aaR 1000000000 u (j + n + 1)
  have a3 := aaR 1000000000 u (j + n + 1 + 1)
  rw [show j + n + 1 + 1 + 1 = j + n + 2 + 1 by omega, hz] at a3
  rw [a1, a2, a3]
  show _ + 1000000000 * (_ + 1000000000 * (u.getD (j + n + 2) 0 + 1000000000 * 0)) = _
  omega
 have t3 := adC zc (acV hu j) n
 have t4 := aaQ zc (acF (acV hu j) n)
 rw [← hU, t2] at t1
 generalize hH : u.getD (j + n + 2) 0 * 1000000000 + u.getD (j + n + 1) 0 = H at *
 have hH0 : 0 ≤ H ∧ H < 1000000000000000000 := zc
 generalize hv1 : v.getD (n + 1) 0 = v1 at *
 generalize hv2 : v.getD n 0 = v2 at *
 generalize hu2 : u.getD (j + n) 0 = u2 at *
 generalize V 1000000000 (v.take n) = V3 at *
 generalize V 1000000000 ((u.drop j).take n) = U3 at *
 generalize V 1000000000 (v.take (n + 1)) = V4 at *
 have hVe : V 1000000000 v = (v1 * 1000000000 + v2) * 1000000000 ^ n + V3 := by rw [s1, s2]; grind
 have hVv : v1 * 1000000000 ^ (n + 1) ≤ V 1000000000 v := by
  have : (1000000000 : Int) ^ (n + 1) * v1 = v1 * 1000000000 ^ (n + 1) := yV _ _
  omega
 have hVB : 1000000000 * 1000000000 ^ n ≤ V 1000000000 v := by
  have a1 : 1 * 1000000000 ^ (n + 1) ≤ v1 * 1000000000 ^ (n + 1) := zD htop zc
  have a2 : (1000000000 : Int) ^ (n + 1) = 1000000000 * 1000000000 ^ n := by rw [yi, yV]
  omega
 have hUlo : (H * 1000000000 + u2) * 1000000000 ^ n ≤ U := by
  have : (1000000000 : Int) ^ n * (H * 1000000000 + u2) = (H * 1000000000 + u2) * 1000000000 ^ n := yV _ _
  omega
 have hUhi : U < (H * 1000000000 + u2 + 1) * 1000000000 ^ n := by
  have : (H * 1000000000 + u2 + 1) * 1000000000 ^ n = 1000000000 ^ n * (H * 1000000000 + u2) + 1000000000 ^ n := by grind
  omega
 have hUhi1 : U < (H + 1) * 1000000000 ^ (n + 1) := by
  have a1 : (H * 1000000000 + u2 + 1) * 1000000000 ^ n ≤ ((H + 1) * 1000000000) * 1000000000 ^ n := zD zc zc
  have a2 : ((H + 1) * 1000000000) * 1000000000 ^ n = (H + 1) * 1000000000 ^ (n + 1) := by rw [yi]; grind
  omega
 have hVpos : 0 < V 1000000000 v := by have := Int.mul_pos (show (0 : Int) < 1000000000 by omega) hP; omega
 have hQB : Q < 1000000000 := by
  have : Q * V 1000000000 v < 1000000000 * V 1000000000 v := zc
  exact zT this zc
 have hstart := aHh hP1 zc hVv hUhi1 hQ1 hQ0
 have hdm := yc H v1
 have hr0 := xn H (show v1 ≠ 0 by omega)
 have hr1 := xi H (show 0 < v1 by omega)
 refine Exists.elim (ahB (R := fun i1 => (afG m o y (v, ()) y4 ((j : Int), ql, u, ()) i1).toO) (fun i : Int × Int × Unit => 0 ≤ i.1 ∧ i.1 < 1000000000 ∧ Q ≤ i.2.1 ∧ i.2.1 * v1 + i.1 = H) (fun i => i.2.1.toNat) (fun r => ∃ q, (q = Q ∨ q = Q + 1) ∧ 0 ≤ q ∧ q < 1000000000 ∧ r = Sum.inl (q, ())) ?step (H % v1, H / v1, ()) ⟨hr0, by dsimp only; omega, hstart, by dsimp only; rw [yV]; omega⟩) ?fin
 case fin =>
  rintro a ⟨h1, q, h2, h3, h4, rfl⟩
  exact ⟨q, h2, h3, h4, h1⟩
 rintro ⟨r, q, u5⟩ ⟨g1, g2, g3, g4⟩
 dsimp only at g1 g2 g3 g4
 have hqH : q ≤ H := by
  have : q * 1 ≤ q * v1 := zy htop zc
  omega
 have down : Q ≤ q - 1 → ((r + v1 ≥ 1000000000 → ∃ q', (q' = Q ∨ q' = Q + 1) ∧ 0 ≤ q' ∧ q' < 1000000000 ∧ q' = q - 1)) := by
  intro hdn hr
  have hqB : q - 1 < 1000000000 := by
   have a1 : (q - 1) * v1 = H - (r + v1) := by rw [Int.sub_mul]; omega
   have a2 : H < (v1 + 1) * 1000000000 := by
    have b1 : H * 1000000000 ^ (n + 1) ≤ U := by
     have a2 : (H * 1000000000) * 1000000000 ^ n = H * 1000000000 ^ (n + 1) := by rw [yi]; grind
     have a3 : (H * 1000000000) * 1000000000 ^ n ≤ (H * 1000000000 + u2) * 1000000000 ^ n := zD zc zc
     omega
    have b2 : V 1000000000 v < (v1 + 1) * 1000000000 ^ (n + 1) := by
     have a2 : (v1 + 1) * 1000000000 ^ (n + 1) = (v1 * 1000000000 + 1000000000) * 1000000000 ^ n := by rw [yi]; grind
     have a3 : (v1 * 1000000000 + v2 + 1) * 1000000000 ^ n ≤ (v1 * 1000000000 + 1000000000) * 1000000000 ^ n := zD zc zc
     have a4 : (v1 * 1000000000 + v2 + 1) * 1000000000 ^ n = (v1 * 1000000000 + v2) * 1000000000 ^ n + 1000000000 ^ n := by grind
     omega
    have b3 : H * 1000000000 ^ (n + 1) < ((v1 + 1) * 1000000000) * 1000000000 ^ (n + 1) := by
     have : ((v1 + 1) * 1000000000) * 1000000000 ^ (n + 1) = ((v1 + 1) * 1000000000 ^ (n + 1)) * 1000000000 := by grind
     omega
    exact zT b3 zc
   have a3 : (q - 1) * v1 < 1000000000 * v1 := by
    have : (v1 + 1) * 1000000000 = 1000000000 * v1 + 1000000000 := by grind
    omega
   exact zT a3 zc
  have hm := amY (a := q - 1) (b := v2) (B := 1000000000) ⟨by omega, hqB⟩ dv2
  have hmB : 1000000000 * 1000000000 ≤ (r + v1) * 1000000000 := zc
  have := aCR (q := q - 1) (r := r + v1) hP (by rw [Int.sub_mul]; omega) hVe s4 s5 hUlo zc hqB hVB hQ2 zc
  exact ⟨q - 1, by omega, by omega, hqB, rfl⟩
 have wv1 : abZ v1 = v1 := aaO zc
 have wr : abZ (r + v1) = r + v1 := aaO zc
 have hgi1 : gi v ((n + 1 : Nat) : Int) 0 = v1 := by rw [aaU, hv1]
 have hgi2 : gi v ((n : Nat) : Int) 0 = v2 := by rw [aaU, hv2]
 simp only [afG, agA, wb1, wb2, hgi1, hgi2, wv1, wr, wa, wb, zk, zl, hu2]
 have stepdn : Q ≤ q - 1 → 1 ≤ q → ((r + v1 ≥ 1000000000 → ∃ q', ((q' = Q ∨ q' = Q + 1) ∧ 0 ≤ q' ∧ q' < 1000000000) ∧ abZ (q - 1) = q') ∧ (¬ r + v1 ≥ 1000000000 → (0 ≤ r + v1 ∧ r + v1 < 1000000000 ∧ Q ≤ q - 1 ∧ (q - 1) * v1 + (r + v1) = H) ∧ abZ (q - 1) = q - 1)) := by
  intro h1 h2
  have wq : abZ (q - 1) = q - 1 := aaO zc
  refine ⟨fun h => ?_, fun h => ⟨⟨by omega, by omega, h1, by rw [Int.sub_mul]; omega⟩, wq⟩⟩
  obtain ⟨q', e1, e2, e3, e4⟩ := down h1 h
  exact ⟨q', ⟨e1, e2, e3⟩, by rw [wq, e4]⟩
 by_cases c1 : q ≥ 1000000000
 ·obtain ⟨d1, d2⟩ := stepdn zc zc
  by_cases c2 : r + v1 ≥ 1000000000
  ·right
   obtain ⟨q', e1, e2⟩ := d1 c2
   refine ⟨.inl (q', ()), ?_, q', e1.1, e1.2.1, e1.2.2, rfl⟩
   refine uT (zp c1) (uT (zp c2) ?_)
   repeat refine za ?_
   rw [aaT, e2]
  ·left
   obtain ⟨e1, e2⟩ := d2 c2
   refine ⟨(r + v1, q - 1, ()), ?_, e1, by dsimp only; omega⟩
   refine uT (zp c1) (uF (zn c2) ?_)
   repeat refine za ?_
   rw [aaT, e2]
 ·have hm := amY (a := q) (b := v2) (B := 1000000000) ⟨by omega, by omega⟩ dv2
  have wm : abZ (q * abZ v2) = q * v2 := by rw [aaO (x := v2) zc, aaO zc]
  have wn : abZ (abZ (r * 1000000000) + abZ u2) = r * 1000000000 + u2 := by rw [aaO (x := r * 1000000000) zc, aaO (x := u2) zc, aaO zc]
  simp only [wm, wn]
  by_cases c3 : q * v2 > r * 1000000000 + u2
  ·have hdn := aJ2 (q := q) (r := r) (wk hVpos) hP g4 zc hUhi hQ1 zc c3
   obtain ⟨d1, d2⟩ := stepdn hdn zc
   by_cases c2 : r + v1 ≥ 1000000000
   ·right
    obtain ⟨q', e1, e2⟩ := d1 c2
    refine ⟨.inl (q', ()), ?_, q', e1.1, e1.2.1, e1.2.2, rfl⟩
    refine uF (zn c1) (uN ⟨by omega, by rw [aaN, hn]; omega⟩ (uN ⟨by omega, by omega⟩ (uT (zp c3) (uT (zp c2) ?_))))
    repeat refine za ?_
    rw [aaT, e2]
   ·left
    obtain ⟨e1, e2⟩ := d2 c2
    refine ⟨(r + v1, q - 1, ()), ?_, e1, by dsimp only; omega⟩
    refine uF (zn c1) (uN ⟨by omega, by rw [aaN, hn]; omega⟩ (uN ⟨by omega, by omega⟩ (uT (zp c3) (uF (zn c2) ?_))))
    repeat refine za ?_
    rw [aaT, e2]
  ·right
   have hdone := aCR (q := q) (r := r) hP g4 hVe s4 s5 hUlo zc zc hVB hQ2 zc
   refine ⟨.inl (q, ()), ?_, q, by omega, by omega, by omega, rfl⟩
   refine uF (zn c1) (uN ⟨by omega, by rw [aaN, hn]; omega⟩ (uN ⟨by omega, by omega⟩ (uF (zn c3) ?_)))
   repeat refine za ?_
   rfl
theorem aFa {b s t L : Nat} (hs : s * (t + 1) ≤ 1000000000) (hs1 : 1 ≤ s) (h1 : 1000000000 ^ L * t ≤ b) (h2 : b < 1000000000 ^ L * (t + 1)) (ht : 1 ≤ t) : (mag (b * s)).length = L + 1 := by
 have a1 : b * s < 1000000000 ^ (L + 1) := by
  have c1 : b * s < (1000000000 ^ L * (t + 1)) * s := Nat.mul_lt_mul_of_pos_right h2 zc
  have c2 : (1000000000 ^ L * (t + 1)) * s = 1000000000 ^ L * (s * (t + 1)) := by rw [wE, xa (t + 1)]
  have c3 : 1000000000 ^ L * (s * (t + 1)) ≤ 1000000000 ^ L * 1000000000 := zU _ hs
  rw [yA]; omega
 have a2 := mag_length_le_iff.2 a1
 have a3 : 1000000000 ^ L ≤ b * s := by
  have c1 : 1000000000 ^ L * 1 ≤ 1000000000 ^ L * t := zU _ ht
  have c2 : b * 1 ≤ b * s := zU _ hs1
  omega
 rcases zx L (mag (b * s)).length with h | h
 ·omega
 ·have := mag_length_le_iff.1 h; omega
theorem aG0 (m o : List Int) (y : Int × Unit) (y4 : List Int × Unit) (v q u : List Int) (j n : Nat) (qq : Int) (X : (Int × List Int × List Int × Unit) ⊕ (List Int × List Int × Unit)) (hvd : Dg 1000000000 v) (g7 : Dg 1000000000 u) (lv : v.length = n + 2) (g6 : u.length = m.length + 1) (hN : m.length ≤ 1000000000000) (hj : j + n + 2 < u.length) (hvtop : 1 ≤ v.getD (n + 1) 0)
  (p4 : ae1 (fun i1 => (afG m o y (v, ()) y4 ((j : Int), q, u, ()) i1).toO) ((u.getD (j + n + 2) 0 * 1000000000 + u.getD (j + n + 1) 0) % v.getD (n + 1) 0, (u.getD (j + n + 2) 0 * 1000000000 + u.getD (j + n + 1) 0) / v.getD (n + 1) 0, ()) = some (.inl (qq, ())))
  (r1 : ae1 (fun i1 => (afF m o y (v, ()) y4 ((j : Int), q, u, ()) (qq, ()) i1).toO) (0, 0, 0, u, ()) = some X) : (agQ m o y (v, ()) y4 ((j : Int), q, u, ())).toO = some X := by
 have wlv : len v = ((n + 2 : Nat) : Int) := by rw [aaN, lv]
 have wa : w64 (w64 ((j : Int) + len v) + 1) = ((j + n + 2 + 1 : Nat) : Int) := by rw [wlv, aaB (x := (j : Int) + ((n + 2 : Nat) : Int)) zc, aaB zc]; omega
 have wb : ((((j + n + 2 + 1 : Nat) : Int).toNat - (j : Int).toNat : Nat) : Int) = ((n + 3 : Nat) : Int) := zc
 have wb1 : w64 (len v - 1) = ((n + 1 : Nat) : Int) := by rw [wlv, aaB zc]; omega
 have w2 : w64 (len m + 1) = ((m.length + 1 : Nat) : Int) := by rw [aaN, aaB zc]; omega
 have dv1 := aa4 zc hvd (n + 1)
 have du0 := aa4 zc g7 (j + n + 2)
 have du1 := aa4 zc g7 (j + n + 1)
 have hgi1 : abZ (gi v ((n + 1 : Nat) : Int) 0) = v.getD (n + 1) 0 := by rw [aaU, aaO zc]
 have wH : abZ (abZ (abZ (u.getD (j + (n + 2)) 0) * 1000000000) + abZ (u.getD (j + (n + 1)) 0)) = u.getD (j + n + 2) 0 * 1000000000 + u.getD (j + n + 1) 0 := by
  rw [show j + (n + 2) = j + n + 2 by omega, show j + (n + 1) = j + n + 1 by omega, aaO (x := u.getD (j + n + 2) 0) zc, aaO (x := u.getD (j + n + 2) 0 * 1000000000) zc, aaO (x := u.getD (j + n + 1) 0) zc, aaO zc]
 have hH0 : 0 ≤ u.getD (j + n + 2) 0 * 1000000000 + u.getD (j + n + 1) 0 := zc
 have tm := zM (b := v.getD (n + 1) 0) hH0
 have td := zJ (b := v.getD (n + 1) 0) hH0
 have hdle : (u.getD (j + n + 2) 0 * 1000000000 + u.getD (j + n + 1) 0) / v.getD (n + 1) 0 ≤ u.getD (j + n + 2) 0 * 1000000000 + u.getD (j + n + 1) 0 := Int.ediv_le_self _ hH0
 have hdge : 0 ≤ (u.getD (j + n + 2) 0 * 1000000000 + u.getD (j + n + 1) 0) / v.getD (n + 1) 0 := xr hH0 zc
 have wq : abZ ((u.getD (j + n + 2) 0 * 1000000000 + u.getD (j + n + 1) 0) / v.getD (n + 1) 0) = (u.getD (j + n + 2) 0 * 1000000000 + u.getD (j + n + 1) 0) / v.getD (n + 1) 0 := aaO zc
 simp only [agQ, wa, wb, wb1, hgi1, w2, zk, zl]
 have wlt : (len v).toNat = n + 2 := by rw [wlv]; omega
 simp only [wlt, wH, tm, td, wq]
 refine uT sd (uN ⟨by omega, by omega⟩ (uN ⟨by omega, by omega⟩ (uN ⟨by omega, by omega⟩ (uN ⟨by omega, by omega⟩ (uN ⟨by omega, by omega⟩ (uN zc (uN zc ?_)))))))
 refine uL (qq, ()) ?_ ?_
 ·refine uO ((u.getD (j + n + 2) 0 * 1000000000 + u.getD (j + n + 1) 0) % v.getD (n + 1) 0, (u.getD (j + n + 2) 0 * 1000000000 + u.getD (j + n + 1) 0) / v.getD (n + 1) 0, ()) ?_ p4
  repeat refine za ?_
  rfl
 ·unfold an8
  refine uO (0, 0, 0, u, ()) (by repeat refine za ?_; rfl) ?_
  exact r1
set_option maxHeartbeats 1000000 in
theorem awJ (m o : List Int) (y) (h : abT (m, o, ()) = some y) : (akX m o).toO = some y := by
 obtain ⟨⟨a, b⟩, hp, hx, rfl⟩ := aaP h
 obtain ⟨rfl, hx2⟩ := Prod.mk.inj hx; obtain ⟨rfl, -⟩ := Prod.mk.inj hx2; dsimp only
 obtain ⟨la, lb, hb0⟩ := hp
 simp only at la lb hb0
 clear h hx hx2
 unfold akX
 have hcmp : adQ (mag a, mag b, ()) = some (atH a b, ()) := aaZ (enc := fun p : Nat × Nat => (mag p.1, mag p.2, ())) (a, b) ⟨by dsimp only; omega, by dsimp only; omega⟩ (fun b hb => afQ hb)
 refine uC _ hcmp ?_
 by_cases hab : a < b
 ·refine uT (zp (by unfold atH; rw [if_pos zc]; show (-1 : Int) < 0; omega)) ?_
  rw [yN hab, yj hab, mag_zero]; rfl
 refine uF (zn (by unfold atH; rw [if_neg zc]; split <;> decide)) ?_
 have hbl : 1 ≤ (mag b).length := by
  rcases zC (mag b).length with h5 | h5
  ·exact absurd (mag_nil_iff.1 (zW.1 h5)) hb0
  ·exact h5
 have hshort : ∀ x d : Nat, (mag x).length ≤ 1000000000000 → 0 < d → d < 4294967296 → ahI (mag x, (d : Int), ()) = some (mag (x / d), ((x % d : Nat) : Int), ()) := by
  intro x d h1 h2 h3
  refine aaZ (enc := fun p : Nat × Nat => (mag p.1, (p.2 : Int), ())) (x, d) ⟨h1, h2, h3⟩ (fun b hb => ?_)
  obtain ⟨e1, e2⟩ := Prod.mk.inj hb
  obtain ⟨e2, -⟩ := Prod.mk.inj e2
  exact Prod.ext (af5 e1) (Int.ofNat.inj e2)
 by_cases h1 : (mag b).length = 1
 ·refine uT sd (uN ⟨by simp [asT], by exact sn⟩ ?_)
  have hb1 : b < 1000000000 := by have := mag_length_le_iff.1 (xC h1); simpa using this
  have hg : gi (mag b) 0 0 = (b : Int) := by rw [aqQ hb0 hb1]; rfl
  rw [hg]
  refine uC _ (hshort a b zc zc zc) ?_
  have hm := xb a (show 0 < b by omega)
  generalize a % b = r at hm ⊢
  refine uC (mag r, ()) ?_ rfl
  dsimp only
  rw [aaO (x := (r : Int)) zc]
  unfold ac8
  rw [if_pos (by dsimp only; omega)]
  simp
 refine uF sd ?_
 obtain ⟨n, hnl⟩ : ∃ n, (mag b).length = n + 2 := ⟨(mag b).length - 2, by omega⟩
 have hml : n + 2 ≤ (mag a).length := by rw [← hnl]; exact acZ zc
 obtain ⟨t, ht, t1, t2, t3, t4⟩ := aBb hb0
 have w1 : w64 (len (mag b) - 1) = ((n + 1 : Nat) : Int) := by rw [aaN, hnl, aaB zc]; omega
 rw [hnl, show n + 2 - 1 = n + 1 by omega] at ht t3 t4
 have hg : gi (mag b) ((n + 1 : Nat) : Int) 0 = (t : Int) := by rw [aaU, ht]
 have wt : adY ((t : Int) + 1) = ((t + 1 : Nat) : Int) := by rw [aa3 zc]; omega
 obtain ⟨s, hs⟩ : ∃ s, s = 1000000000 / (t + 1) := ⟨_, rfl⟩
 have hs1 : 1 ≤ s := by rw [hs]; exact (Nat.le_div_iff_mul_le zc).2 zc
 have hs2 : s * (t + 1) ≤ 1000000000 := by rw [hs]; exact Nat.div_mul_le_self _ _
 have hs3 : s < 1000000000 := by
  have : s * 2 ≤ s * (t + 1) := zU _ zc
  omega
 have ws : adY (Int.tdiv 1000000000 ((t + 1 : Nat) : Int)) = (s : Int) := by
  have : Int.tdiv 1000000000 ((t + 1 : Nat) : Int) = (s : Int) := by
   rw [zJ zc, hs]; rfl
  rw [this, aa3 zc]
 simp only [w1, hg, wt, ws]
 refine uN sd (uN zc ?_)
 have hms : mag s = [(s : Int)] := aqQ zc hs3
 have lv : (mag (b * s)).length = n + 2 := aFa hs2 hs1 t3 t4 t1
 have htimes : ∀ x : Nat, (mag x).length ≤ 1000000000000 → adF (mag x, [(s : Int)], ()) = some (mag (x * s), ()) := by
  intro x hx
  rw [← hms]
  exact aaZ (enc := fun p : Nat × Nat => (mag p.1, mag p.2, ())) (x, s) ⟨hx, by rw [hms]; simp⟩ (fun b hb => afQ hb)
 refine uC _ (htimes b zc) ?_
 have w2 : w64 (len (mag a) + 1) = (((mag a).length + 1 : Nat) : Int) := by rw [aaN, aaB zc]; omega
 obtain ⟨K, hK⟩ : ∃ K, (mag a).length = K + n + 2 := ⟨(mag a).length - (n + 2), by omega⟩
 have w3 : w64 (len (mag a) - len (mag (b * s))) = (K : Int) := by rw [aaN, aaN, lv, hK, aaB zc]; omega
 have w4 : w64 ((K : Int) + 1) = ((K + 1 : Nat) : Int) := by rw [aaB zc]; omega
 simp only [w2, w3, w4]
 refine uN zc ?_
 refine uC _ (htimes a zc) ?_
 refine uN zc ?_
 have las : (mag (a * s)).length ≤ (mag a).length + 1 := by
  have := aj7 a s
  rw [hms] at this; simpa using this
 have htk : List.take (mag a).length.succ (mag (a * s)) = mag (a * s) := zr las
 -- the start
 have hu0d : Dg 1000000000 (over (List.replicate ((mag a).length + 1) 0) 0 (mag (a * s))) := by
  rw [amW las]; exact aeV (af6 _) (afW zc _)
 have hu0V : V 1000000000 (over (List.replicate ((mag a).length + 1) 0) 0 (mag (a * s))) = ((a * s : Nat) : Int) := by rw [aOs las, ak7]
 have hu0l : (over (List.replicate ((mag a).length + 1) 0) 0 (mag (a * s))).length = (mag a).length + 1 := by rw [amW las]; simp; omega
 refine uO ((K : Int), List.replicate (K + 1) 0, over (List.replicate ((mag a).length + 1) 0) 0 (mag (a * s)), ()) ?_ ?_
 ·repeat refine za ?_
  simp only [zk, w4]
  rw [show List.take ((mag a).length + 1) (mag (a * s)) = mag (a * s) from htk]
  rfl
 generalize hu0 : over (List.replicate ((mag a).length + 1) 0) 0 (mag (a * s)) = u0 at *
 have hvd := af6 (b * s)
 have hvV := ak7 (b * s)
 have hvpos : 0 < b * s := Nat.mul_pos zc zc
 have hvtop : 1 ≤ (mag (b * s)).getD (n + 1) 0 := by
  obtain ⟨t', e1, e2, -⟩ := aBb (n := b * s) zc
  rw [lv, show n + 2 - 1 = n + 1 by omega] at e1
  omega
 generalize hv : mag (b * s) = v at *
 have hdrop0 : V 1000000000 (u0.drop (K + 1)) < V 1000000000 v := by
  have e1 := acH 1000000000 u0 (K + 1)
  have e2 := aaQ zc (acF hu0d (K + 1))
  have e3 := aaQ zc (acV hu0d (K + 1))
  rw [hu0V] at e1
  have a1 : a < 1000000000 ^ (K + 1) * b := by
   have c1 := mag_length_le_iff.1 (xC hK)
   have c2 : 1000000000 ^ (n + 1) ≤ b := by
    have : 1000000000 ^ (n + 1) * 1 ≤ 1000000000 ^ (n + 1) * t := zU _ t1
    omega
   have c3 : 1000000000 ^ (K + 1) * 1000000000 ^ (n + 1) ≤ 1000000000 ^ (K + 1) * b := zU _ c2
   rw [← Nat.pow_add, show K + 1 + (n + 1) = K + n + 2 by omega] at c3
   omega
  have a2 : a * s < (1000000000 ^ (K + 1) * b) * s := Nat.mul_lt_mul_of_pos_right a1 zc
  have a3 : ((a * s : Nat) : Int) < (((1000000000 ^ (K + 1) * b) * s : Nat) : Int) := Int.ofNat_lt.2 a2
  have a4 : ((((1000000000 ^ (K + 1) * b) * s : Nat)) : Int) = 1000000000 ^ (K + 1) * V 1000000000 v := by
   rw [hvV, wE, xd, Int.natCast_pow]; rfl
  rw [a4] at a3
  have a5 : 1000000000 ^ (K + 1) * V 1000000000 (u0.drop (K + 1)) < 1000000000 ^ (K + 1) * V 1000000000 v := zc
  exact yC a5 (wk (yx zc))
 refine abH (fun i : Int × List Int × List Int × Unit => ∃ k : Nat, k ≤ K + 1 ∧ i.1 = (k : Int) - 1 ∧ i.2.1.length = K + 1 ∧ Dg 1000000000 i.2.1 ∧ (∀ p, p < k → i.2.1.getD p 0 = 0) ∧ i.2.2.1.length = (mag a).length + 1 ∧ Dg 1000000000 i.2.2.1 ∧ V 1000000000 (i.2.2.1.drop k) < V 1000000000 v ∧ ((a * s : Nat) : Int) = V 1000000000 i.2.1 * V 1000000000 v + V 1000000000 i.2.2.1) (fun i => (i.1 + 1).toNat) (fun _ => (mag (a / b), mag (a % b), ())) ?_ _ ⟨K + 1, zi _, by dsimp only; omega, by simp, afW zc _, fun p _ => by simp [yz, List.getElem?_replicate]; split <;> rfl, hu0l, hu0d, hdrop0, by rw [asK, hu0V]; omega⟩
 rintro ⟨i, q, u, u6⟩ ⟨k, g1, g2, g3, g4, g5, g6, g7, g8, g9⟩
 dsimp only at g2 g3 g4 g5 g6 g7 g8 g9
 subst g2
 cases k with
 | zero =>
  right
  rw [yp] at g8
  obtain ⟨x, hx⟩ := zI (aaQ zc g4)
  obtain ⟨r, hr⟩ := zI (aaQ zc g7)
  rw [hx, hr, hvV] at g9
  rw [hr, hvV] at g8
  have h8 : a * s = x * (b * s) + r := by
   have : ((a * s : Nat) : Int) = ((x * (b * s) + r : Nat) : Int) := by rw [g9]; simp
   exact Int.ofNat.inj this
  have h9 : x = a / b := by
   have : a * s / (b * s) = x := by rw [h8, yO, xP _ _ hvpos, yN zc, zl]
   rw [← this, Nat.mul_div_mul_right _ _ zc]
  have h10 : r = (a % b) * s := by
   have : a * s % (b * s) = r := by rw [h8, yO, xv, yj zc]
   rw [← this, Nat.mul_mod_mul_right]
  have hrl : (mag r).length ≤ n + 2 := by rw [← lv, ← hv]; exact acZ zc
  have hVtake : V 1000000000 (u.take (n + 2)) = r := by
   have e1 := acH 1000000000 u (n + 2)
   have e2 := aaQ zc (acF g7 (n + 2))
   have e3 := aaQ zc (acV g7 (n + 2))
   have e4 : V 1000000000 u < 1000000000 ^ (n + 2) := by
    have := aEK zc hvd
    rw [lv] at this
    omega
   have e5 : V 1000000000 (u.drop (n + 2)) < 1 := by
    have : 1000000000 ^ (n + 2) * V 1000000000 (u.drop (n + 2)) < 1000000000 ^ (n + 2) * 1 := zc
    exact yC this (wk (yx zc))
   have e6 : V 1000000000 (u.drop (n + 2)) = 0 := zc
   rw [e6, wA] at e1
   omega
  have wlv : len v = ((n + 2 : Nat) : Int) := by rw [aaN, lv]
  simp only [agQ, w1, hg, wt, ws, w2, w3, w4, wlv, zk]
  have wkk : w64 (w64 (len (mag a) - ((n + 2 : Nat) : Int)) + 1) = ((K + 1 : Nat) : Int) := by rw [← wlv, w3, w4]
  simp only [wkk, zk]
  refine uF sd (uN ⟨by omega, by omega⟩ ?_)
  have htr : ∀ (l : List Int) (z : Nat), Dg 1000000000 l → l.length ≤ 2000000000000 → V 1000000000 l = z → acP (l, ()) = some (mag z, ()) := by
   intro l z h1 h2 h3
   unfold acP
   rw [if_pos ⟨h1, h2⟩]
   simp only [h3, zk]
  refine uC _ (htr _ r (acF g7 _) (by rw [zY]; omega) hVtake) ?_
  refine uC _ (hshort r s zc zc zc) ?_
  have htq : List.take (K + 1) q = q := zr zc
  rw [htq]
  refine uC _ (htr q x g4 zc hx) ?_
  rw [aaT, h9, h10, Nat.mul_div_cancel _ zc]
 | succ j =>
  left
  have e6 : ((j + 1 : Nat) : Int) - 1 = (j : Int) := zc
  rw [e6]
  have wlv : len v = ((n + 2 : Nat) : Int) := by rw [aaN, lv]
  have wa : w64 (w64 ((j : Int) + len v) + 1) = ((j + n + 2 + 1 : Nat) : Int) := by rw [wlv, aaB (x := (j : Int) + ((n + 2 : Nat) : Int)) zc, aaB zc]; omega
  have wb : ((((j + n + 2 + 1 : Nat) : Int).toNat - (j : Int).toNat : Nat) : Int) = ((n + 3 : Nat) : Int) := zc
  have wb1 : w64 (len v - 1) = ((n + 1 : Nat) : Int) := by rw [wlv, aaB zc]; omega
  have hvpos' : 0 < V 1000000000 v := by rw [hvV]; omega
  have du := aa4 zc g7 j
  have eU := aaR 1000000000 u j
  have hU0 := aaQ zc (acV g7 j)
  have hUB : V 1000000000 (u.drop j) < V 1000000000 v * 1000000000 := zc
  have hvlt : V 1000000000 v < 1000000000 ^ (n + 2) := by have := aEK zc hvd; rwa [lv] at this
  have hz : V 1000000000 (u.drop (j + n + 2 + 1)) = 0 := by
   have e1 := acH 1000000000 (u.drop (j + 1)) (n + 2)
   rw [zP, show j + 1 + (n + 2) = j + n + 2 + 1 by omega] at e1
   have e2 := aaQ zc (acF (acV g7 (j + 1)) (n + 2))
   have e3 := aaQ zc (acV g7 (j + n + 2 + 1))
   have e5 : V 1000000000 (u.drop (j + n + 2 + 1)) < 1 := by
    have : 1000000000 ^ (n + 2) * V 1000000000 (u.drop (j + n + 2 + 1)) < 1000000000 ^ (n + 2) * 1 := zc
    exact yC this (wk (yx zc))
   omega
  obtain ⟨Q, hQ⟩ : ∃ Q, Q = V 1000000000 (u.drop j) / V 1000000000 v := ⟨_, rfl⟩
  have hdm := yc (V 1000000000 (u.drop j)) (V 1000000000 v)
  have hr0 := xn (V 1000000000 (u.drop j)) (show V 1000000000 v ≠ 0 by omega)
  have hr1 := xi (V 1000000000 (u.drop j)) hvpos'
  have hQ0 : 0 ≤ Q := by rw [hQ]; exact xr hU0 zc
  rw [← hQ, yV] at hdm
  have hQB : Q < 1000000000 := by
   have : Q * V 1000000000 v < 1000000000 * V 1000000000 v := zc
   exact zT this zc
  obtain ⟨qq, p1, p2, p3, p4⟩ := aGZ (mag a) (mag b) (atH a b, ()) (mag (a * s), ()) v q u j n (V 1000000000 (u.drop j)) Q hvd lv zc zc g7 hz rfl hUB zc (by rw [Int.add_mul]; omega) hQ0 hvtop
  obtain ⟨u', r1, r2, r3, r4, r5⟩ := aGY (mag a) (mag b) (atH a b, ()) (mag (a * s), ()) v q u j (n + 2) qq Q hvd lv zc zc g7 ⟨p2, p3⟩ (by rw [w3, w4]; exact ⟨by omega, by omega⟩) hz p1 zc zc hQ0
  have k1 : j ≤ K + 1 := Nat.le_of_succ_le g1
  have k3 : (q.set j Q).length = K + 1 := by rw [List.length_set]; exact g3
  have k4 := ahK g4 ⟨hQ0, hQB⟩ j
  have k6 : u'.length = (mag a).length + 1 := by rw [r2]; exact g6
  have k8 : V 1000000000 (u'.drop j) < V 1000000000 v := by rw [r5]; omega
  have k9 : ((j : Int) - 1 + 1).toNat < ((j : Int) + 1).toNat := zc
  refine ⟨((j : Int) - 1, q.set j Q, u', ()), ?_, ⟨j, k1, rfl, k3, k4, ?_, k6, r3, k8, ?_⟩, k9, ze⟩
  ·exact aG0 (mag a) (mag b) (atH a b, ()) (mag (a * s), ()) v q u j n qq _ hvd g7 lv g6 zc zc hvtop p4 r1
  ·intro p hp
   dsimp only
   rw [akS _ zc]
   exact g5 p zc
  ·dsimp only
   rw [atJ _ zc, g5 j zc, r4, g9]
   grind
theorem aBY (q : Rat) : wrF q = aPA (aDl q) := by
 unfold wrF aDl
 by_cases c : alA q
 ·rw [if_pos c, if_pos c]; rfl
 ·rw [if_neg c, if_neg c]; rfl
theorem aDb {p q : Rat} (h1 : alA p) (h2 : alA q) : aaK (fx p, fx q, ()) = some (aPA (aDl (p * q))) := by
 unfold aaK aMJ; dsimp only; rw [anU h1, anU h2, ← aBY]
theorem aDc {p q : Rat} (h1 : alA p) (h2 : alA q) : aaL (fx p, fx q, ()) = some (aPA (aDl (p + q))) := by
 unfold aaL aMJ; dsimp only; rw [anU h1, anU h2, ← aBY]
noncomputable def aPf (off : Int) (y : Rat) : Option Rat := (aDl (y + mkRat off 1000000)).map aAd
def Sm (k : Nat) (q : Rat) : Prop := q.num.natAbs < 10 ^ k ∧ q.den < 10 ^ k
theorem aPr {k : Nat} {a : Int} {b : Nat} (hb : b ≠ 0) (h1 : a.natAbs < 10 ^ k) (h2 : b < 10 ^ k) : Sm k (mkRat a b) := by
 obtain ⟨g, t, hg, g0, e0, e1, e2⟩ := ad8 a hb
 refine ⟨wx ?_ h1, wx ?_ h2⟩
 ·rw [e1, ← ac3 e0 g0]; exact we _ _
 ·rw [e2]; exact we _ _
theorem Sm.fit {k : Nat} {q : Rat} (h : Sm k q) (hk : k ≤ 600) : alA q := by
 refine ⟨?_, auQ h.2 hk⟩
 have := auQ h.1 hk
 exact arB this zh
noncomputable def acT (x : List FxT × List FxT × Unit) : Option (Bool × Unit) := if x.1.length ≤ 1000000000000 then some (eqb x.1 x.2.1, ()) else none
set_option maxRecDepth 100000
open Go Go.Vg Go.Proofs
noncomputable section
def aLz : LTab := [(33, 58, 9216, ⟨0, (Int) × Unit, .dat (.s 13) vz <| .nil, [12, 0, 1], [], 0⟩)]
def aB7 (s1 : List vH) (s2 : List vH) (i : (Int) × Unit) : TT (vZ ⊕ vI) :=
 .ite (decide (i.1 < len s1))
 (.need (inb i.1 (len s1)) <| .need (inb i.1 (len s2)) <| .ite (!(match (gi s1 i.1 ([], [], ())).1 == (gi s2 i.1 ([], [], ())).1 with | true => (match (gi s1 i.1 ([], [], ())).2.1 == (gi s2 i.1 ([], [], ())).2.1 with | true => true | false => false) | false => false))
 (.ok (.inr ((false, ()))))
 (.tt <| .lt (w64 (i.1 + 1) : Int) fun z => .wT (wV z (len s1) s1 s2) <| .tr <| .ok (.inl ((z, ())))))
 (.ok (.inr ((true, ()))))
def aAN (s1 : List vH) (s2 : List vH) : TT vI :=
 .ite (len s1 != len s2)
 (.ok ((false, ())))
 (.loop 0 (.tt <| .wT (wV (0 : Int) (len s1) s1 s2) <| .tr <| .ok ((0, ()))) (aB7 s1 s2))
end
theorem aPd (a : FxT) : (match a.1 == a.1 with
 | true =>
  match a.2.1 == a.2.1 with
  | true => true
  | false => false
 | false => false) = true := zh
theorem aN4 {a b : FxT} (h : a ≠ b) : (match a.1 == b.1 with
 | true =>
  match a.2.1 == b.2.1 with
  | true => true
  | false => false
 | false => false) = false := by
 obtain ⟨a1, a2, a3⟩ := a
 obtain ⟨b1, b2, b3⟩ := b
 dsimp only
 by_cases c1 : a1 = b1
 case neg => rw [beq_eq_false_iff_ne.2 c1]
 by_cases c2 : a2 = b2
 case neg => rw [wB.2 c1, beq_eq_false_iff_ne.2 c2]
 ·subst c1 c2; exact absurd rfl h
theorem aE6 (s t : List FxT) (y) (h : acT (s, t, ()) = some y) : (aAN s t).toO = some y := by
 unfold acT at h
 split at h
 case isFalse => cases h
 case isTrue hl =>
 injection h with h
 subst h
 dsimp only at hl ⊢
 unfold aAN
 by_cases h1 : s.length = t.length
 case neg =>
  rw [az0 (fun h => h1 (by rw [h]))]
  exact uT sd rfl
 refine uF sd (uO (0, ()) rfl ?_)
 refine abH (fun i : Int × Unit => ∃ k : Nat, k ≤ s.length ∧ i = ((k : Int), ()) ∧ s.take k = t.take k) (fun i => ((s.length : Int) - i.1).toNat) (fun _ => (eqb s t, ())) ?_ _ ⟨0, by omega, rfl, by simp⟩
 rintro i ⟨k, h2, rfl, h3⟩
 simp only [aB7, aaU]
 rcases zx k s.length with hk | hk
 ·have e1 : s.getD k ([], [], ()) = s[k] := by simp [hk]
  have e2 : t.getD k ([], [], ()) = t[k] := by simp [show k < t.length by omega]
  rw [e1, e2]
  by_cases c : s[k] = t[k]
  ·left
   refine ⟨(((k + 1 : Nat) : Int), ()), ?_, ⟨k + 1, by omega, rfl, axT hk zc h3 c⟩, by dsimp only; omega, ze⟩
   refine uT sd (uN sd (uN sd (uF ?_ ?_)))
   ·rw [c]; simp
   ·repeat refine za ?_
    rw [aaB (x := (k : Int) + 1) zc]; rfl
  ·right
   rw [az0 (fun h : s = t => c (by subst h; rfl))]
   refine uT sd (uN sd (uN sd (uT ?_ rfl)))
   exact congrArg (fun b : Bool => !b) (aN4 c)
 ·right
  rw [zr hk, zr zc] at h3
  rw [aCT h3]
  exact uF sd rfl
set_option maxRecDepth 100000
open Go Go.Vg Go.Proofs
noncomputable section
def aEV : LTab := [(302, 12, 1025, ⟨0, (List Int) × Unit, .dat (.s 0) vV <| .nil, [2], [], 0⟩)]
def aDi : LTab := [(250, 218, 5122, ⟨0, (Int) × Bool × (List Int) × Unit, .dat (.s 4) vz <| .appN (.s 3) 5 170 vB <| .nil, [2, 0], [], 1⟩), (250, 55834, 13314, ⟨1, (Int) × (Int) × Unit, .dat (.s 7) vz <| .dat (.s 6) vB <| .nil, [15, 5, 14, 13, 12, 3, 4, 2, 0], [], 0⟩), (250, 55834, 13313, ⟨2, (Int) × (Int) × Unit, .dat (.s 7) vz <| .dat (.s 6) vB <| .nil, [15, 5, 14, 13, 12, 3, 4, 2, 0], [5], 0⟩)]
end
set_option maxRecDepth 1000000
open Go Go.Vg Go.Proofs
noncomputable section
def aK4 : OkC := ⟨266, _, aLQ⟩
def aqJ : OkC := ⟨268, _, ayL⟩
def av8 : OkC := ⟨53, _, aJg⟩
def alP : OkC := ⟨11, _, aDI⟩
def alJ : OkC := ⟨5, _, aDH⟩
def alM := okT 212 (P1 tL) (P1 tL) acX aIS [] Tryz.func212 (fun x => aCj x.1) fun _ y _ h => aDz _ y h
def alK := okT 117 (P2 .bool tL) (P1 (P2 .bool tL)) acE aFs [alM] Tryz.func117 (fun x => ax9 x.1 x.2.1) fun _ y _ h => aAT _ _ y h
def anZ := okT 94 (P1 tI) (P1 (P2 .bool tL)) acO ayE [alK] Tryz.func94 (fun x => anW x.1) fun _ y _ h => as6 _ y h
def ayO := okT 124 (P1 (P2 .bool tL)) (P1 (P2 .bool tL)) ahH aFu [alK] Tryz.func124 (fun x => ayB x.1) fun _ y _ h => aAV _ y h
def ayN := okT 123 (P2 tL tL) (P1 tL) acN ax6 [alM] Tryz.func123 (fun x => aeD x.1 x.2.1) fun _ y _ h => as5 _ _ y h
def auC := okT 121 (P2 tL tL) (P1 tI) ae6 aDy [] Tryz.func121 (fun x => amQ x.1 x.2.1) fun _ y _ h => ax8 _ _ y h
def aiR := okT 122 (P2 tL tL) (P1 tL) abN ap8 [alM] Tryz.func122 (fun x => aiP x.1 x.2.1) fun _ y _ h => amS _ _ y h
def aGd := okT 213 (P2 tL tI) (P2 tL tI) al6 aFr [alM] Tryz.func213 (fun x => ap6 x.1 x.2.1) fun _ y _ h => aAS _ _ y h
def auB := okT 119 (P2 tL tL) (P2 tL tL) ahG aDx [ayN, alM, auC, aiR, aGd] Tryz.func119 (fun x => amP x.1 x.2.1) fun _ y _ h => ax7 _ _ y h
def ayQ := okT 67 (P2 (P2 .bool tL) (P2 .bool tL)) (P1 (P2 .bool tL)) afM ayF [auB] Tryz.func67 (fun x => anX x.1 x.2.1) fun _ y _ h => as7 _ _ y h
def aJk := okT 120 (P2 tL tL) (P1 tL) apJ aIR [] Tryz.func120 (fun x => aCi x.1 x.2.1) fun _ y _ h => aDw _ _ y h
def ayP := okT 69 (P2 (P2 .bool tL) (P2 .bool tL)) (P1 (P2 .bool tL)) agG aFw [aJk, alK, auC, aiR] Tryz.func69 (fun x => aqA x.1 x.2.1) fun _ y _ h => aAX _ _ y h
end
set_option maxRecDepth 1000000
open Go Go.Vg Go.Proofs
noncomputable section
def aDM := okT 214 (P2 (P2 .bool tL) (P2 .bool tL)) (P1 (P2 .bool tL)) ajQ aDC [ayO, ayP] Tryz.func214 (fun x => at5 x.1 x.2.1) fun _ y _ h => ayD _ _ y h
def aDL := okT 125 (P2 (P2 .bool tL) (P2 .bool tL)) (P2 (P2 .bool tL) (P2 .bool tL)) ae7 aDA [auB, alK, ayP, anZ, aDM] Tryz.func125 (fun x => amU x.1 x.2.1) fun _ y _ h => ayC _ _ y h
def aA4 := okT 71 (P2 (P2 .bool tL) (P2 .bool tL)) (P1 (P2 (P2 .bool tL) (P2 .bool tL))) aiC aAR [ayO, ayQ, aDL] Tryz.func71 (fun x => akK x.1 x.2.1) fun _ y _ h => avY _ _ y h
def aDK := okT 52 tB (P1 (P2 (P2 .bool tL) (P2 .bool tL))) ajP aDu [anZ, aA4] Tryz.func52 (fun x => at3 x.1 x.2.1) fun _ y _ h => ax5 _ _ y h
def aGe := okT 118 (P1 tI) (P1 .str) al7 aFt [] Tryz.func118 (fun x => ap7 x.1) fun _ y _ h => aAU _ y h
def aGf := okT 66 (P1 (P2 .bool tL)) (P1 .str) al8 aFv [aGe] Tryz.func66 (fun x => ap9 x.1) fun _ y _ h => aAW _ y h
def aJl := okT 68 (P1 (P2 .bool tL)) (P2 .str tI) al9 aIT [aGf] Tryz.func68 (fun x => aCk x.1) fun _ y _ h => aDB _ y h
def aJj := okT 30 (P1 (P2 (P2 .bool tL) (P2 .bool tL))) (P2 tF tI) apI aIQ [aJl] Tryz.func30 (fun x => aCh x.1) fun _ y _ h => aDv _ y h
def av4 := okT 22 tB (P2 tF tI) aa0 aLK [aDK, aJj] Tryz.func22 (fun x => aAQ x.1 x.2.1) fun _ y _ h => aFq _ _ y h
def aNJ := okT 183 (P1 tI) (P1 .str) asL aM1 [aK4] Tryz.func183 (fun x => aKp x.1) fun _ y _ h => aIo _ y h
def aGc := okT 302 (P1 tM) (P1 tM) aH1 aEV [] Tryz.func302 (fun x => aq3 x.1) fun _ y _ h => aq4 _ y h
def aDJ := okT 250 (P1 .str) (P1 tM) ahF aDi [aGc] Tryz.func250 (fun x => am9 x.1) fun _ y _ h => aoA _ y h
end
set_option maxRecDepth 1000000
open Go Go.Vg Go.Proofs
noncomputable section
def aqL := okT 161 tF (P2 .str .bool) ac9 aBH [] Tryz.func161 (fun x => ak3 x.1 x.2.1) fun _ y hw h => aw1 _ _ (zu hw.1 zd) y h
def aJi := okT 160 (P1 .str) (P2 (P2 tM .bool) .bool) aiB aIn [aDJ, aqL] Tryz.func160 (fun x => avJ x.1) fun _ y _ h => aDh _ y h
def ayM := okT 95 (P1 .str) (P1 tI) afL aEY [aJi] Tryz.func95 (fun x => apL x.1) fun _ y _ h => aAF _ y h
def aiT := okT 252 (P1 tM) (P1 tM) acP aGV [] Tryz.func252 (fun x => aq3 x.1) fun _ y _ h => aq4 _ y h
def aDR := okT 162 (P1 .str) (P1 tM) afZ aEg [aiT] Tryz.func162 (fun x => am9 x.1) fun _ y _ h => aoA _ y h
def auD := okT 96 (P1 .str) (P1 (P2 tM .bool)) ae9 aEf [aqL, aDR] Tryz.func96 (fun x => auT x.1) fun _ y _ h => azS _ y h
def aiS := okT 163 (P1 tM) (P1 .bool) adP aGU [] Tryz.func163 (fun x => aq2 x.1) fun _ y _ h => aBm _ y h
def ae0 := okT 185 (P2 tM .bool) (P1 (P2 tM .bool)) ab7 aEd [aiS] Tryz.func185 (fun x => auS x.1 x.2.1) fun _ y _ h => azR _ _ y h
def alN := okT 165 (P1 (.int .u64)) (P1 tM) ac8 awQ [] Tryz.func165 (fun x => alY x.1) fun _ y _ h => arH _ y h
def aDO := okT 164 (P1 tM) (P1 (.int .u64)) ajS aD7 [] Tryz.func164 (fun x => auO x.1) fun _ y _ h => azK _ y h
def aDP := okT 253 (P2 tM (.int .u32)) (P2 tM (.int .u32)) ahI aD8 [aiT] Tryz.func253 (fun x => am5 x.1 x.2.1) fun _ y _ h => azL _ _ y h
def aiU := okT 99 (P2 tM tM) (P1 tI) adQ azP [] Tryz.func99 (fun x => aiZ x.1 x.2.1) fun _ y _ h => atC _ _ y h
end
set_option maxRecDepth 1000000
open Go Go.Vg Go.Proofs
noncomputable section
def ajC := okT 186 (P2 tM tM) (P1 tM) adF aD6 [aiT] Tryz.func186 (fun x => am4 x.1 x.2.1) fun _ y _ h => azJ _ _ y h
def ahS := okT 166 (P2 tM tM) (P2 tM tM) abT aBp [aiT, aDP, aiU, alN, ajC] Tryz.func166 (fun x => akX x.1 x.2.1) fun _ y _ h => awJ _ _ y h
def ao5 := okT 98 (P2 tM tM) (P1 tM) afU aJW [alN, aDO, ahS, aiS] Tryz.func98 (fun x => awI x.1 x.2.1) fun _ y _ h => aEa _ _ y h
def aA6 := okT 265 (P2 (P2 tM .bool) tM) (P1 (P2 (P2 tM .bool) tM)) aiD aBv [ao5, ahS, ae0] Tryz.func265 (fun x => akZ x.1 x.2.1) fun _ y _ h => awO _ _ y h
def aA5 := okT 267 (P1 tM) (P1 tI) agH aBo [aiS, aK4] Tryz.func267 (fun x => akW x.1) fun _ y _ h => awH _ y h
def aGh := okT 258 (P1 (P2 tM .bool)) (P1 .str) amD aG4 [aqJ] Tryz.func258 (fun x => arE x.1) fun _ y _ h => aBr _ y h
def amX := okT 184 (P1 (P2 (P2 tM .bool) tM)) (P2 tF tI) ae8 aD2 [aA5, aGh, aqJ] Tryz.func184 (fun x => am2 x.1) fun _ y _ h => azG _ y h
def aJo := okT 182 tF (P2 tF tI) amF aJ1 [ayM, auD, aiS, ae0, aA6, amX] Tryz.func182 (fun x => awR x.1 x.2.1) fun _ y _ h => aEh _ _ y h
def ayS := okT 108 tB (P2 tF tI) aaH aOa [aNJ, aJo] Tryz.func108 (fun x => aLj x.1 x.2.1) fun _ y _ h => aJ0 _ _ y h
def ayR := okT 97 (P1 (P2 tM .bool)) (P1 tI) ai6 aG5 [aiS] Tryz.func97 (fun x => arF x.1) fun _ y _ h => aBt _ y h
def ao6 := okT 54 (P1 tF) (P2 (P2 (P2 tM .bool) tM) .bool) acY aJZ [ayM, auD, ayR, ao5, aiU] Tryz.func54 (fun x => awP x.1) fun _ y _ h => aEe _ y h
def aJm := okT 111 (P2 (P2 (P2 tM .bool) tM) (P2 (P2 tM .bool) tM)) (P1 (P2 (P2 tM .bool) tM)) amA aJU [ao5, ahS, ajC, ae0] Tryz.func111 (fun x => awF x.1 x.2.1) fun _ y _ h => aD4 _ _ y h
end
set_option maxRecDepth 1000000
open Go Go.Vg Go.Proofs
noncomputable section
def av6 := okT 60 (P2 tF tF) (P2 tF tI) aaK aL8 [ao6, aJm, amX] Tryz.func60 (fun x => aBw x.1 x.2.1) fun _ y _ h => aG6 _ _ y h
def aqK := okT 187 (P2 (P2 tM .bool) tM) (P1 (P2 tM .bool)) ad9 aBu [ajC, ae0] Tryz.func187 (fun x => akY x.1 x.2.1) fun _ y _ h => awM _ _ y h
def aGg := okT 269 (P2 tM tM) (P1 tM) amC aGW [] Tryz.func269 (fun x => aq7 x.1 x.2.1) fun _ y _ h => aBn _ _ y h
def aDQ := okT 270 (P2 tM tM) (P1 tM) ahJ aD9 [aiT] Tryz.func270 (fun x => am7 x.1 x.2.1) fun _ y _ h => azM _ _ y h
def aCt := okT 188 (P2 (P2 tM .bool) (P2 tM .bool)) (P1 (P2 tM .bool)) amE aJY [aGg, ae0, aiU, aDQ] Tryz.func188 (fun x => awL x.1 x.2.1) fun _ y _ h => aEc _ _ y h
def aJn := okT 112 (P2 (P2 (P2 tM .bool) tM) (P2 (P2 tM .bool) tM)) (P1 (P2 (P2 tM .bool) tM)) amB aJV [ao5, ahS, aqK, aCt, ae0, ajC] Tryz.func112 (fun x => awG x.1 x.2.1) fun _ y _ h => aD5 _ _ y h
def av7 := okT 61 (P2 tF tF) (P2 tF tI) aaL aMa [ao6, aJn, amX] Tryz.func61 (fun x => aBz x.1 x.2.1) fun _ y _ h => aHa _ _ y h
def alO := okT 24 (P1 tF) (P1 tI) aaC aG9 [ao6] Tryz.func24 (fun x => arI x.1) fun _ y _ h => aBy _ y h
def av3 := okT 33 (P2 (.sl tF) (.sl tF)) (P1 .bool) acT aLz [] Tryz.func33 (fun x => aAN x.1 x.2.1) fun _ y _ h => aE6 _ _ y h
def aJp := okT 176 tB (P1 tF) ajT aKe [ayS] Tryz.func176 (fun x => aC2 x.1 x.2.1) fun _ y _ h => aEv _ _ y h
def aA7 := okT 169 (P1 tI) (P1 tF) aeA aBN [aJp] Tryz.func169 (fun x => ar8 x.1) fun _ y _ h => aw8 _ y h
def av5 := okT 309 (P1 (P2 tM .bool)) (P1 (P2 tM .bool)) afV awN [ae0] Tryz.func309 (fun x => alX x.1) fun _ y _ h => arG _ y h
end
set_option maxRecDepth 1000000
open Go Go.Vg Go.Proofs
noncomputable section
def aDN := okT 264 (P2 (P2 (P2 tM .bool) tM) (P2 (P2 tM .bool) tM)) (P1 tI) ajR aD3 [aqK, av5, aCt, ayR] Tryz.func264 (fun x => am3 x.1 x.2.1) fun _ y _ h => azH _ _ y h
def aLR := okT 175 (P2 tF tF) tB ak8 aL9 [ao6, aDN] Tryz.func175 (fun x => aBx x.1 x.2.1) fun _ y _ h => aG8 _ _ y h
def afP := okT 103 (P1 tF) (P1 tF) aaM aw9 [aA7, aLR] Tryz.func103 (fun x => ah8 x.1) fun _ y _ h => ar9 _ y h
end
theorem ay6 {n X : Int} {d : Nat} (hd : d ≠ 0) : ((n : Int) : Rat) ≤ mkRat X d ↔ n * d ≤ X := by
 rw [← aG2, aJX _ hd, wC zc]
theorem aGp {n X : Int} {d : Nat} (hd : d ≠ 0) : mkRat X d ≤ ((n : Int) : Rat) ↔ X ≤ n * d := by
 rw [← Rat.neg_le_neg_iff, Rat.neg_mkRat, ← Rat.intCast_neg, ay6 hd, Int.neg_mul]; omega
def uQ (n : Int) : Rat := mkRat n 840
theorem ad0 {n : Int} (h : -65536 < n ∧ n < 65536) : alA (uQ n) := (aPr (k := 5) zd zc zd).fit zd
theorem atO {n : Int} (h : -65536 < n ∧ n < 65536) : aa0 (n, 840, ()) = some (fx (uQ n), 0, ()) :=
 aIa (n := n) (d := 840) ⟨by omega, by omega⟩ zd zd
theorem asW : aaH (1000000, 1000000, ()) = some (fx 1, 0, ()) := by
 have h := aIa (n := 1000000) (d := 1000000) ⟨by decide, by decide⟩ zd zd
 rwa [show mkRat 1000000 1000000 = 1 from by decide] at h
theorem aeL : aaH (0, 1000000, ()) = some (fx 0, 0, ()) := by
 have h := aIa (n := 0) (d := 1000000) ⟨by decide, by decide⟩ zd zd
 rwa [show mkRat 0 1000000 = 0 from by decide] at h
theorem aCN : alA 0 := (show Sm 1 0 from ⟨by decide, by decide⟩).fit zd
theorem aQI : alA 1 := (show Sm 1 1 from ⟨by decide, by decide⟩).fit zd
theorem aeM {q : Rat} (h : alA q) : aaC (fx q, ()) = some (0, ()) := by unfold aaC; dsimp only; rw [anU h]; rfl
theorem ao0 {q : Rat} (h : alA q) : aDl q = some q := if_pos h
theorem aj4 {q : Rat} (h : alA q) : aaK (fx 1, fx q, ()) = some (fx q, 0, ()) := by
 rw [aDb aQI h, Rat.one_mul, ao0 h]; rfl
theorem aeB {q : Rat} (h : alA q) : aaK (fx 0, fx q, ()) = some (fx 0, 0, ()) := by
 rw [aDb aCN h, Rat.zero_mul, ao0 aCN]; rfl
theorem aeC {q : Rat} (h : alA q) : aaL (fx 0, fx q, ()) = some (fx q, 0, ()) := by
 rw [aDc aCN h, Rat.zero_add, ao0 h]; rfl
theorem aj5 {q : Rat} (h : alA q) : aaL (fx q, fx 0, ()) = some (fx q, 0, ()) := by
 rw [aDc h aCN, Rat.add_zero, ao0 h]; rfl
theorem aKs (l : List FxT) (h : l.length ≤ 1000000000000) : acT (l, l, ()) = some (true, ()) := by
 unfold acT; rw [if_pos h, aCT rfl]
theorem agZ {n : Int} (h : 0 ≤ n ∧ n ≤ 840) : aaM (fx (uQ n), ()) = some (fx (uQ n), ()) := by
 rw [axL (ad0 zc)]
 have h1 : 0 ≤ uQ n := (ay6 (n := 0) (X := n) (d := 840) zc).2 zc
 have h2 : uQ n ≤ 1 := (aGp (n := 1) (X := n) (d := 840) zc).2 zc
 unfold aAd
 rw [if_neg (Rat.not_lt.2 h1), if_neg (Rat.not_lt.2 h2)]
noncomputable def nxp : {α : Type} → TT α → Prop × TT α
 | _, .triv _ _ x => nxp x
 | _, .lt b x => nxp (x b)
 | _, .need p x => (p ∧ (nxp x).1, (nxp x).2)
 | _, .ite b x _ => (b = true ∧ (nxp x).1, (nxp x).2)
 | _, t => (True, t)
theorem aA8 {α : Type} (t : TT α) {r : Option α} (h : (nxp t).1) (h2 : (nxp t).2.toO = r) : t.toO = r := by
 induction t with
 | triv p hp x ih => exact ih h h2
 | lt b x ih => exact ih b h h2
 | need p x ih => exact uN h.1 (ih h.2 h2)
 | ite b x y ih _ => exact uT h.1 (ih h.2 h2)
 | _ => exact h2
theorem sp {p : Prop} (h : p := by repeat first | exact trivial | refine And.intro (by first | rfl | decide) ?_) : p := h
theorem aaA {α β : Type} {t : TT α} {o : Option β} {d : β} {x : β → TT α} {r : Option α} (y : β) (h : o = some y) (ht : (nxp t).2 = TT.call o d x) (hp : (nxp t).1) (hx : (x y).toO = r) : t.toO = r :=
 aA8 t hp (by rw [ht]; exact uC y h hx)
theorem adH {α ι : Type} {t : TT α} {g : Nat} {H : TT (ι ⊕ α)} {R : ι → TT α} {r : Option α} (i : ι) (ht : (nxp t).2 = TT.join g H R) (hp : (nxp t).1) (h : H.toO = some (.inl i)) (hx : (R i).toO = r) : t.toO = r :=
 aA8 t hp (by rw [ht]; exact uL i h hx)
theorem aOZ {α : Type} {t : TT α} {a : α} (ht : (nxp t).2 = TT.ok a) (hp : (nxp t).1) : t.toO = some a :=
 aA8 t hp (by rw [ht]; rfl)
end Go.Vs
set_option maxRecDepth 100000
namespace Go.Vg
def TT.tw {α : Type} (x : TT α) : TT α := .both x x
def TT.sm {α : Type} (a : AV) (x : TT α) : TT α := .triv (aCd a a) rfl x
def TT.si {α : Type} (a : Int) (x : TT α) : TT α := .triv (aCd (AV.d vz a) (AV.d vz a)) rfl x
def TT.sf {α : Type} (a : List UInt8 × List UInt8 × Unit) (x : TT α) : TT α := .triv (aCd (AV.d vR a) (AV.d vR a)) rfl x
end Go.Vg
namespace Go.Vs
open Go Go.Vg Go.Proofs
theorem atS {α : Type} {a : AV} {x : TT α} {r : Option α} (hx : x.toO = r) : (TT.sm a x).toO = r := hx
theorem atT {α : Type} {a : Int} {x : TT α} {r : Option α} (hx : x.toO = r) : (TT.si a x).toO = r := hx
theorem atQ {α : Type} {x : TT α} {r : Option α} (hx : x.toO = r) : (TT.tw x).toO = r := by
 cases r with
 | none => show (TT.both x x).toO = none; simp only [TT.toO, hx]
 | some a => exact abX hx hx
theorem atU {α : Type} {a : FxT} {x : TT α} {r : Option α} (hx : x.toO = r) : (TT.sf a x).toO = r := hx
abbrev tyF : Ty := vR
abbrev n0 : FxT := (#[].toList, #[].toList, ())
abbrev rF (x : FxT) : FxT := (x.1, x.2.1, ())
abbrev bF (x : FxT) : Prop := Qq (51 : TypeId) ∧ Qq x.1 ∧ Qq x.2.1 ∧ True
abbrev qt : Prop := Qq true
abbrev cV2 : List CvT := List.take 2 (asT (List CvT) [(1, [], [], ()), (1, [], [], ())])
abbrev cV3 : List CvT := List.take 3 (asT (List CvT) [(1, [], [], ()), (1, [], [], ()), (1, [], [], ())])
abbrev cV4 : List CvT := List.take 4 (asT (List CvT) [(1, [], [], ()), (1, [], [], ()), (1, [], [], ()), (1, [], [], ())])
abbrev gC (l : List CvT) (i : Int) : CvT := gi l i (0, [], [], ())
abbrev rC (c : CvT) : CvT := (c.1, c.2.1, c.2.2.1, ())
abbrev l2 (a b : FxT × Int × Unit) : List FxT := [(rF a.1)] ++ [(rF b.1)]
abbrev l3 (a b c : FxT × Int × Unit) : List FxT := List.take 2 ([(rF a.1)] ++ [(rF b.1)]) ++ [(rF c.1)]
abbrev l4 (a b c d : FxT × Int × Unit) : List FxT := List.take 3 (List.take 2 ([(rF a.1)] ++ [(rF b.1)]) ++ [(rF c.1)]) ++ [(rF d.1)]
abbrev gF (l : List FxT) (i : Int) : FxT := List.getD l (0 + Int.toNat i) ([], [], ())
abbrev aT1 (l : List Int) : Int := List.headD (List.tail l) 0
abbrev aT2 (l : List Int) : Int := List.headD (List.tail (List.tail l)) 0
abbrev aT3 (l : List Int) : Int := List.headD (List.tail (List.tail (List.tail l))) 0
abbrev i1 : Int := w64 (0 + 1)
abbrev i2 : Int := w64 (w64 (0 + 1) + 1)
abbrev i3 : Int := w64 (w64 (w64 (0 + 1) + 1) + 1)
abbrev rW0 : List (List Int) := List.take 2 [[1000000, 0], [0, 1000000]]
abbrev rW1 : List (List Int) := List.take 3 [[1000000, 0, 0], [0, 1000000, 0], [0, 0, 1000000]]
abbrev rW2 : List (List Int) := List.take 2 [[1000000, 0, 0], [0, 1000000, 0]]
abbrev rW3 : List (List Int) := List.take 4 [[1000000, 0, 0, 0], [0, 1000000, 0, 0], [0, 0, 1000000, 0], [0, 0, 0, 1000000]]
abbrev rW4 : List (List Int) := List.take 3 [[1000000, 0, 0, 0], [0, 1000000, 0, 0], [0, 0, 1000000, 0]]
abbrev rW5 : List (List Int) := List.take 2 [[1000000, 0, 0, 0], [0, 1000000, 0, 0]]
abbrev Du0 := Ty.dflt (Ty.pair tyF vS)
abbrev Du1 := Ty.dflt vL
abbrev Du2 := Ty.dflt (Ty.pair vz vS)
abbrev Du3 := Ty.dflt vS
abbrev Du4 := Ty.dflt (Ty.pair tyF Ty.unit)
abbrev kK0 : Prop := (Qq 0 ∧ Qq 0 ∧ Qq true)
abbrev kK1 : Prop := (Qq 9 ∧ Qq 0 ∧ Qq true)
abbrev kK2 : Prop := (Qq 8 ∧ Qq 0 ∧ Qq true)
abbrev kK3 : Prop := (Qq (46 : TypeId) ∧ Qq (2 : Int) ∧ True ∧ Qq rW3 ∧ Qq (List.take 4 (List.replicate (Int.toNat 4) 0) : List Int) ∧ True ∧ Qq (0 : Int) ∧ True ∧ True ∧ Qq (0 : Int) ∧ Qq (0 : Int) ∧ True)
abbrev kK4 : Prop := (Qq (51 : TypeId) ∧ Qq (#[].toList : List UInt8) ∧ Qq (#[].toList : List UInt8) ∧ True)
abbrev kK5 : Prop := (Qq (57 : TypeId) ∧ (Qq (61 : FuncId) ∧ True ∧ True) ∧ True)
abbrev kK6 : Prop := (Qq (57 : TypeId) ∧ (Qq (60 : FuncId) ∧ True ∧ True) ∧ True)
abbrev kK7 : Prop := (Qq (127 : TypeId) ∧ (Qq (59 : FuncId) ∧ True ∧ True) ∧ True)
abbrev kK8 : Prop := (Qq (87 : TypeId) ∧ True ∧ (Qq (25 : FuncId) ∧ True ∧ True) ∧ (Qq (26 : FuncId) ∧ True ∧ True) ∧ (Qq (27 : FuncId) ∧ True ∧ True) ∧ (Qq (28 : FuncId) ∧ True ∧ True) ∧ True)
abbrev kK9 : Prop := Qq i1
abbrev aJJ : Prop := (Qq (46 : TypeId) ∧ Qq (2 : Int) ∧ True ∧ Qq rW1 ∧ Qq (List.take 3 (List.replicate (Int.toNat 3) 0) : List Int) ∧ True ∧ Qq (0 : Int) ∧ True ∧ True ∧ Qq (0 : Int) ∧ Qq (0 : Int) ∧ True)
abbrev aLe : Prop := (Qq (86 : TypeId) ∧ Qq (2 : Int) ∧ True ∧ Qq rW3 ∧ Qq (List.take 4 (List.replicate (Int.toNat 4) 0) : List Int) ∧ True ∧ Qq (0 : Int) ∧ True ∧ True ∧ Qq (0 : Int) ∧ Qq (0 : Int) ∧ True)
abbrev aD0 : Prop := (Qq (46 : TypeId) ∧ Qq (1 : Int) ∧ (Qq 23 ∧ Qq 0 ∧ Qq 1 ∧ Qq true) ∧ True ∧ True ∧ True ∧ Qq (0 : Int) ∧ True ∧ True ∧ Qq (0 : Int) ∧ Qq (0 : Int) ∧ True)
abbrev aGA : Prop := (Qq (46 : TypeId) ∧ Qq (1 : Int) ∧ (Qq 62 ∧ Qq 0 ∧ Qq 2 ∧ Qq true) ∧ True ∧ True ∧ True ∧ Qq (0 : Int) ∧ True ∧ True ∧ Qq (0 : Int) ∧ Qq (0 : Int) ∧ True)
abbrev aMU : Prop := (Qq (46 : TypeId) ∧ Qq (2 : Int) ∧ True ∧ Qq rW0 ∧ Qq (List.take 2 (List.replicate (Int.toNat 2) 0) : List Int) ∧ True ∧ Qq (0 : Int) ∧ True ∧ True ∧ Qq (0 : Int) ∧ Qq (0 : Int) ∧ True)
abbrev aMT : Prop := (Qq (86 : TypeId) ∧ Qq (2 : Int) ∧ True ∧ Qq rW1 ∧ Qq (List.take 3 (List.replicate (Int.toNat 3) 0) : List Int) ∧ True ∧ Qq (0 : Int) ∧ True ∧ True ∧ Qq (0 : Int) ∧ Qq (0 : Int) ∧ True)
abbrev aJI : Prop := (Qq (46 : TypeId) ∧ Qq (1 : Int) ∧ (Qq 101 ∧ Qq 0 ∧ Qq 3 ∧ Qq true) ∧ True ∧ True ∧ True ∧ Qq (0 : Int) ∧ True ∧ True ∧ Qq (0 : Int) ∧ Qq (0 : Int) ∧ True)
abbrev aET : Prop := Qq i2
abbrev aES : Prop := (Qq (3 : TypeId) ∧ Qq (List.replicate (Int.toNat 4) 0 : List Int))
abbrev aL2 : Prop := (Qq (46 : TypeId) ∧ Qq (1 : Int) ∧ (Qq 140 ∧ Qq 0 ∧ Qq 4 ∧ Qq true) ∧ True ∧ True ∧ True ∧ Qq (0 : Int) ∧ True ∧ True ∧ Qq (0 : Int) ∧ Qq (0 : Int) ∧ True)
abbrev aJH : Prop := (Qq 48 ∧ Qq 0 ∧ Qq 1 ∧ Qq true)
abbrev aJG : Prop := (Qq 36 ∧ Qq 0 ∧ Qq 1 ∧ Qq true)
abbrev aJF : Prop := (Qq (3 : TypeId) ∧ Qq (List.replicate (Int.toNat 3) 0 : List Int))
abbrev aPa : Prop := (Qq (51 : TypeId) ∧ Qq (List.replicate (Int.toNat 0) n0 : List FxT))
abbrev aO9 : Prop := (Qq (86 : TypeId) ∧ Qq (2 : Int) ∧ True ∧ Qq rW0 ∧ Qq (List.take 2 (List.replicate (Int.toNat 2) 0) : List Int) ∧ True ∧ Qq (0 : Int) ∧ True ∧ True ∧ Qq (0 : Int) ∧ Qq (0 : Int) ∧ True)
abbrev aLd : Prop := (Qq 263 ∧ Qq 0 ∧ Qq true)
abbrev aLc : Prop := (Qq 261 ∧ Qq 0 ∧ Qq true)
abbrev aLb : Prop := (Qq 264 ∧ Qq 0 ∧ Qq true)
abbrev aLa : Prop := (Qq 262 ∧ Qq 0 ∧ Qq true)
abbrev aK9 : Prop := (Qq 265 ∧ Qq 0 ∧ Qq true)
abbrev aO8 : Prop := (Qq (48 : TypeId) ∧ (Qq 153 ∧ Qq 0 ∧ Qq 4 ∧ Qq true) ∧ True)
abbrev aO7 : Prop := (Qq (61 : TypeId) ∧ Qq ([(1, [], [], ()), (1, [], [], ()), (1, [], [], ()), (1, [], [], ())] : List CvT))
abbrev aP0 : Prop := (Qq (46 : TypeId) ∧ Qq (2 : Int) ∧ True ∧ Qq ([[1000000]] : List (List Int)) ∧ Qq (List.take 1 (List.replicate (Int.toNat 1) 0) : List Int) ∧ True ∧ Qq (0 : Int) ∧ True ∧ True ∧ Qq (0 : Int) ∧ Qq (0 : Int) ∧ True)
abbrev aMS : Prop := (Qq (3 : TypeId) ∧ Qq (List.replicate (Int.toNat 2) 0 : List Int))
abbrev aMR : Prop := (Qq 212 ∧ Qq 0 ∧ Qq true)
abbrev aMQ : Prop := (Qq 210 ∧ Qq 0 ∧ Qq true)
abbrev aMP : Prop := (Qq 213 ∧ Qq 0 ∧ Qq true)
abbrev aMO : Prop := (Qq 211 ∧ Qq 0 ∧ Qq true)
abbrev aMN : Prop := (Qq 214 ∧ Qq 0 ∧ Qq true)
abbrev aPZ : Prop := (Qq (48 : TypeId) ∧ (Qq 114 ∧ Qq 0 ∧ Qq 3 ∧ Qq true) ∧ True)
abbrev aPY : Prop := (Qq (61 : TypeId) ∧ Qq ([(1, [], [], ()), (1, [], [], ()), (1, [], [], ())] : List CvT))
abbrev aMM : Prop := (Qq 87 ∧ Qq 0 ∧ Qq 2 ∧ Qq true)
abbrev aML : Prop := (Qq 75 ∧ Qq 0 ∧ Qq 2 ∧ Qq true)
abbrev aMK : Prop := Qq i3
abbrev aQp : Prop := (Qq (86 : TypeId) ∧ Qq (2 : Int) ∧ True ∧ Qq ([[1000000]] : List (List Int)) ∧ Qq (List.take 1 (List.replicate (Int.toNat 1) 0) : List Int) ∧ True ∧ Qq (0 : Int) ∧ True ∧ True ∧ Qq (0 : Int) ∧ Qq (0 : Int) ∧ True)
abbrev aO6 : Prop := (Qq 161 ∧ Qq 0 ∧ Qq true)
abbrev aO5 : Prop := (Qq 159 ∧ Qq 0 ∧ Qq true)
abbrev aO4 : Prop := (Qq 162 ∧ Qq 0 ∧ Qq true)
abbrev aO3 : Prop := (Qq 160 ∧ Qq 0 ∧ Qq true)
abbrev aO2 : Prop := (Qq 163 ∧ Qq 0 ∧ Qq true)
abbrev aQo : Prop := (Qq (48 : TypeId) ∧ (Qq 75 ∧ Qq 0 ∧ Qq 2 ∧ Qq true) ∧ True)
abbrev aQn : Prop := (Qq (61 : TypeId) ∧ Qq ([(1, [], [], ()), (1, [], [], ())] : List CvT))
abbrev aPX : Prop := (Qq (46 : TypeId) ∧ Qq (2 : Int) ∧ True ∧ (Qq 24 ∧ Qq 0 ∧ Qq 1 ∧ Qq true) ∧ (Qq 5 ∧ Qq 0 ∧ Qq 1 ∧ Qq true) ∧ True ∧ Qq (0 : Int) ∧ True ∧ True ∧ Qq (0 : Int) ∧ Qq (0 : Int) ∧ True)
abbrev aPW : Prop := (Qq (3 : TypeId) ∧ Qq (List.replicate (Int.toNat 1) 0 : List Int))
abbrev aPV : Prop := (Qq (46 : TypeId) ∧ Qq (2 : Int) ∧ True ∧ (Qq 63 ∧ Qq 0 ∧ Qq 2 ∧ Qq true) ∧ (Qq 5 ∧ Qq 0 ∧ Qq 2 ∧ Qq true) ∧ True ∧ Qq (0 : Int) ∧ True ∧ True ∧ Qq (0 : Int) ∧ Qq (0 : Int) ∧ True)
abbrev aPU : Prop := (Qq (46 : TypeId) ∧ Qq (2 : Int) ∧ True ∧ (Qq 24 ∧ Qq 0 ∧ Qq 1 ∧ Qq true) ∧ (Qq 5 ∧ Qq 0 ∧ Qq 2 ∧ Qq true) ∧ True ∧ Qq (0 : Int) ∧ True ∧ True ∧ Qq (0 : Int) ∧ Qq (0 : Int) ∧ True)
abbrev aPT : Prop := (Qq (46 : TypeId) ∧ Qq (2 : Int) ∧ True ∧ (Qq 102 ∧ Qq 0 ∧ Qq 3 ∧ Qq true) ∧ (Qq 5 ∧ Qq 0 ∧ Qq 3 ∧ Qq true) ∧ True ∧ Qq (0 : Int) ∧ True ∧ True ∧ Qq (0 : Int) ∧ Qq (0 : Int) ∧ True)
abbrev aPS : Prop := (Qq (46 : TypeId) ∧ Qq (2 : Int) ∧ True ∧ (Qq 63 ∧ Qq 0 ∧ Qq 2 ∧ Qq true) ∧ (Qq 5 ∧ Qq 0 ∧ Qq 3 ∧ Qq true) ∧ True ∧ Qq (0 : Int) ∧ True ∧ True ∧ Qq (0 : Int) ∧ Qq (0 : Int) ∧ True)
abbrev aPR : Prop := (Qq (46 : TypeId) ∧ Qq (2 : Int) ∧ True ∧ (Qq 24 ∧ Qq 0 ∧ Qq 1 ∧ Qq true) ∧ (Qq 5 ∧ Qq 0 ∧ Qq 3 ∧ Qq true) ∧ True ∧ Qq (0 : Int) ∧ True ∧ True ∧ Qq (0 : Int) ∧ Qq (0 : Int) ∧ True)
abbrev aPQ : Prop := (Qq 126 ∧ Qq 0 ∧ Qq 3 ∧ Qq true)
abbrev aPP : Prop := (Qq 114 ∧ Qq 0 ∧ Qq 3 ∧ Qq true)
abbrev aPO : Prop := (Qq (46 : TypeId) ∧ Qq (2 : Int) ∧ True ∧ (Qq 141 ∧ Qq 0 ∧ Qq 4 ∧ Qq true) ∧ (Qq 5 ∧ Qq 0 ∧ Qq 4 ∧ Qq true) ∧ True ∧ Qq (0 : Int) ∧ True ∧ True ∧ Qq (0 : Int) ∧ Qq (0 : Int) ∧ True)
abbrev aPN : Prop := (Qq (46 : TypeId) ∧ Qq (2 : Int) ∧ True ∧ (Qq 102 ∧ Qq 0 ∧ Qq 3 ∧ Qq true) ∧ (Qq 5 ∧ Qq 0 ∧ Qq 4 ∧ Qq true) ∧ True ∧ Qq (0 : Int) ∧ True ∧ True ∧ Qq (0 : Int) ∧ Qq (0 : Int) ∧ True)
abbrev aPM : Prop := (Qq (46 : TypeId) ∧ Qq (2 : Int) ∧ True ∧ (Qq 63 ∧ Qq 0 ∧ Qq 2 ∧ Qq true) ∧ (Qq 5 ∧ Qq 0 ∧ Qq 4 ∧ Qq true) ∧ True ∧ Qq (0 : Int) ∧ True ∧ True ∧ Qq (0 : Int) ∧ Qq (0 : Int) ∧ True)
abbrev aPL : Prop := (Qq (46 : TypeId) ∧ Qq (2 : Int) ∧ True ∧ (Qq 24 ∧ Qq 0 ∧ Qq 1 ∧ Qq true) ∧ (Qq 5 ∧ Qq 0 ∧ Qq 4 ∧ Qq true) ∧ True ∧ Qq (0 : Int) ∧ True ∧ True ∧ Qq (0 : Int) ∧ Qq (0 : Int) ∧ True)
abbrev aQm : Prop := Qq (gi (asT (List (List Int)) [[1000000]]) 0 [] : List Int)
abbrev aQG : Prop := (Qq (48 : TypeId) ∧ (Qq 36 ∧ Qq 0 ∧ Qq 1 ∧ Qq true) ∧ True)
abbrev aQF : Prop := (Qq (61 : TypeId) ∧ Qq ([(1, [], [], ())] : List CvT))
def aPk : LTab := [(4, 506, 888888888, uS), (16, 58, 888888888, uS), (23, 250, 888888888, uS), (33, 58, 888888888, uS), (37, 250, 888888888, uS), (44, 250, 888888888, uS), (55, 218, 888888888, uS), (72, 26, 888888888, uS), (76, 218, 888888888, uS), (104, 218, 888888888, uS), (105, 250, 888888888, uS), (107, 26, 888888888, uS), (128, 14, 888888888, uS), (133, 218, 888888888, uS), (134, 250, 888888888, uS), (136, 26, 888888888, uS), (155, 26, 888888888, uS), (287, 122, 888888888, uS), (288, 122, 888888888, uS), (315, 28, 888888888, uS), (315, 62, 888888888, uS), (315, 3988, 888888888, uS), (330, 6, 888888888, uS), (330, 402, 888888888, uS), (331, 172, 888888888, uS), (331, 698, 888888888, uS), (331, 428, 888888888, uS), (331, 1722, 888888888, uS), (331, 1020, 888888888, uS), (345, 28, 888888888, uS), (361, 6, 888888888, uS), (4, 259278, 777777777, uS), (4, 259279, 777777777, uS), (4, 13, 555555555, uS), (8, 30, 777777777, uS), (8, 27, 555555555, uS), (14, 30, 777777777, uS), (23, 29, 555555555, uS), (23, 61, 555555555, uS), (23, 64103, 555555555, uS), (55, 223645, 666666666, uS), (55, 221, 555555555, uS), (56, 6, 777777777, uS), (57, 62, 777777777, uS), (57, 27, 555555555, uS), (57, 59, 555555555, uS), (77, 6, 777777777, uS), (104, 223645, 666666666, uS), (104, 221, 555555555, uS), (105, 6, 777777777, uS), (105, 29, 555555555, uS), (106, 30, 777777777, uS), (106, 29, 555555555, uS), (107, 13517, 555555555, uS), (107, 27039, 555555555, uS), (134, 6, 777777777, uS), (135, 30, 777777777, uS)]
set_option maxRecDepth 100000
open Go Go.Vg Go.Proofs
noncomputable section
abbrev aN3 (at0 : List Int) (y1 y2 : FxT × Int × Unit) : Prop := qt ∧ kK4 ∧ qt ∧ aPa ∧ qt ∧ kK5 ∧ qt ∧ kK6 ∧ qt ∧ kK7 ∧ qt ∧ aQG ∧ qt ∧ aQp ∧ qt ∧ aQp ∧ qt ∧ kK8 ∧ qt ∧ aP0 ∧ qt ∧ aP0 ∧ qt ∧ (Qq (51 : TypeId) ∧ Qq ([(rF y2.1)] : List FxT)) ∧ qt ∧ (Qq (51 : TypeId) ∧ Qq ([(rF y2.1)] : List FxT)) ∧ qt ∧ (Qq (51 : TypeId) ∧ Qq ([(rF y1.1)] : List FxT)) ∧ qt ∧ (Qq (51 : TypeId) ∧ Qq ([(rF y1.1)] : List FxT)) ∧ qt ∧ aQF ∧ qt ∧ aD0 ∧ qt ∧ aP0 ∧ qt ∧ (Qq (28 : TypeId) ∧ Qq (List.headD at0 0) ∧ Qq (List.headD (List.tail at0) 0) ∧ Qq (List.headD (List.tail (List.tail at0)) 0) ∧ Qq (List.headD (List.tail (List.tail (List.tail at0))) 0 : Int) ∧ True) ∧ qt ∧ True
def aQf : LTab := [(4, 7, 4096, ⟨0, Int × Unit, .alt (.s 5) [1] <| .nil, [3, 1], [0], 0⟩), (4, 129639, 23565, ⟨1, (List Int) × Bool × (List CvT) × Bool × (List (List Int)) × Unit, .fix (([1000000], false, [(1, [], [], ())], false, [[1000000]], ())) <| .dat (.s 11) vE <| .appN (.c 9 1) 23 61 vw <| .appN (.c 8 2) 24 41 vE <| .nil, [10, 23, 22, 9, 8, 7, 6, 5, 3], [9, 8, 5, 0], 2⟩), (105, 3, 143385, ⟨2, FxT × (Int) × Unit, .newv (.s 11) 140 51 tyF <| .dat (.s 12) vz <| .nil, [10, 9, 1, 2, 3, 4, 5, 6], [138, 123, 112, 111, 110, 109, 108, 103, 102, 61, 57, 48, 47, 36, 35, 23, 9, 8, 0], 1⟩)] ++ aPk
def aOR (ins : Int) (at0 : List Int) (y : Bool × Unit) (j : Int × Unit) (j1 : List Int × Bool × List CvT × Bool × List (List Int) × Unit) (y1 : FxT × Int × Unit) (y2 : FxT × Int × Unit) (y3 : Int × Int × Unit) (y4 : Int × Unit) (j2 : FxT × (Int) × Unit) : TT vI :=
 .need ((j2.2.1 != 0) = false) <| .triv (0 ≤ len (gi (asT (List (List Int)) [[1000000]]) 0 []) ∧ len (gi (asT (List (List Int)) [[1000000]]) 0 []) = len (gi (asT (List (List Int)) [[1000000]]) 0 []) ∧ len (gi (asT (List (List Int)) [[1000000]]) 0 []) * (↑8 : Int) ≤ 140737488355328) zd <| .triv (asT Int 0 ≤ 0 ∧ 0 < len (gi (asT (List (List Int)) [[1000000]]) 0 [])) zd <| .triv (asT Int 0 ≤ 0 ∧ 0 < (↑(Int.toNat (len (gi (asT (List (List Int)) [[1000000]]) 0 []))) : Int)) zd <| .tt <| .tt <| .triv (asT Int 0 ≤ 0 ∧ 0 < (↑(Int.toNat (len (gi (asT (List (List Int)) [[1000000]]) 0 []))) : Int)) zd <| .tt <| .tt <| .tt <| .tt <| .call (aaH (gi (gi (asT (List (List Int)) [[1000000]]) 0 []) 0 0, 1000000, ())) Du0 fun y7 =>
 .need ((y7.2.1 != 0) = false) <| .triv (asT Int 0 ≤ 0 ∧ 0 < (↑1 : Int)) zd <| .sm (AV.fn 60 [] []) <| .sf (asT FxT (rF y7.1)) <| .si (0) <| .triv (asT Int 0 ≤ 0 ∧ 0 < (↑1 : Int)) zd <| .sm (AV.eptr 36 0) <| .sf (asT FxT (List.getD (asT (List FxT) [(rF y1.1)]) (0 + Int.toNat 0) ([], [], ()))) <| .call (aaK ((rF y7.1), List.getD (asT (List FxT) [(rF y1.1)]) (0 + Int.toNat 0) ([], [], ()), ())) Du0 fun y8 =>
 .sf (asT FxT y8.1) <| .si (y8.2.1) <| .need ((y8.2.1 != 0) = false) <| .call (aaL ((rF j2.1), (rF y8.1), ())) Du0 fun y9 =>
 .need ((y9.2.1 != 0) = false) <| .need ((asT Int 0 == 0) = true) <| .need ((0 + 1) * 32 ≤ 140737488355328) <| .need ((asT Int 0 != 0) = false) <| .si (0) <| .call (acT (List.take 1 (List.take 0 (List.replicate (Int.toNat 0) n0) ++ [(rF y9.1)]), [(rF y1.1)], ())) Du1 fun y10 =>
 .ite (y10.1)
 (.tt <| .tt <| .tt <| .tt <| .tt <| .tt <| .call (ab1 ((1, [(1, [], [], ())], [], [], ([], 0, [], ()), [], 0, 0, ()), ())) Du2 fun y11 =>
 .need ((y11.2.1 != 0) = false) <| .need (((↑1 : Int) != y11.1) = false) <| .triv (asT Int 0 ≤ 0 ∧ 0 < (↑1 : Int)) zd <| .call (aaC (((List.getD (asT (List FxT) [(rF y2.1)]) (0 + Int.toNat 0) ([], [], ())).1, (List.getD (asT (List FxT) [(rF y2.1)]) (0 + Int.toNat 0) ([], [], ())).2.1, ()), ())) Du3 fun y12 =>
 .need ((y12.1 != 0) = false) <| .need ((asT Int 0 != 0) = false) <| .triv (asT Int 0 ≤ 1 ∧ 1 < (↑5 : Int)) zd <| .si (1) <| .triv (asT Int 0 ≤ 1 ∧ 1 < (↑5 : Int)) zd <| .sm (AV.fn 25 [] []) <| .sm (AV.ag [AV.d vz (asT Int 1), AV.d uk (asT (List CvT) [(1, [], [], ())]), AV.nsl, AV.nsl, AV.nsl, AV.d vz (asT Int 0), AV.nsl, AV.nsl, AV.d vz (asT Int 0), AV.d vz (asT Int 0)]) <| .sm (AV.ag [AV.d vz (asT Int 1), AV.d uk (asT (List CvT) [(1, [], [], ())]), AV.nsl, AV.nsl, AV.nsl, AV.d vz (asT Int 0), AV.nsl, AV.nsl, AV.d vz (asT Int 0), AV.d vz (asT Int 0)]) <| .tt <| .tt <| .tt <| .tt <| .triv (asT Int 0 ≤ 0 ∧ 0 ≤ (↑1 : Int) ∧ (↑1 : Int) * (↑32 : Int) ≤ 140737488355328) zd <| .triv (asT Int 0 ≤ 0 ∧ 0 < (↑1 : Int)) zd <| .tt <| .tt <| .triv (asT Int 0 ≤ 0 ∧ 0 < (↑1 : Int)) zd <| .sm (AV.d vw (asT CvT ((gC (asT (List CvT) [(1, [], [], ())]) 0).1, (gC (asT (List CvT) [(1, [], [], ())]) 0).2.1, (gC (asT (List CvT) [(1, [], [], ())]) 0).2.2.1, ()))) <| .si (0) <| .triv (asT Int 0 ≤ 0 ∧ 0 < (↑1 : Int)) zd <| .sm (AV.eptr 48 0) <| .sf (asT FxT (List.getD (asT (List FxT) [(rF y2.1)]) (0 + Int.toNat 0) ([], [], ()))) <| .tt <| .tt <| .tt <| .tt <| .need ((asT Int 0 != 0) = false) <| .call (aaC (((List.getD (asT (List FxT) [(rF y2.1)]) (0 + Int.toNat 0) ([], [], ())).1, (List.getD (asT (List FxT) [(rF y2.1)]) (0 + Int.toNat 0) ([], [], ())).2.1, ()), ())) Du3 fun y13 =>
 .need ((y13.1 != 0) = false) <| .triv (inb (w64 ((gC (asT (List CvT) [(1, [], [], ())]) 0).1 - 1)) (↑3 : Int)) zd <| .si ((gC (asT (List CvT) [(1, [], [], ())]) 0).1) <| .si (w64 ((gC (asT (List CvT) [(1, [], [], ())]) 0).1 - 1)) <| .triv (inb (w64 ((gC (asT (List CvT) [(1, [], [], ())]) 0).1 - 1)) (↑3 : Int)) zd <| .sm (AV.fn 100 [] []) <| .sm (AV.d vw (asT CvT ((gC (asT (List CvT) [(1, [], [], ())]) 0).1, (gC (asT (List CvT) [(1, [], [], ())]) 0).2.1, (gC (asT (List CvT) [(1, [], [], ())]) 0).2.2.1, ()))) <| .sm (AV.d vK (asT (CvT × Unit) (((gC (asT (List CvT) [(1, [], [], ())]) 0).1, (gC (asT (List CvT) [(1, [], [], ())]) 0).2.1, (gC (asT (List CvT) [(1, [], [], ())]) 0).2.2.1, ()), ()))) <| .sf (asT FxT ((List.getD (asT (List FxT) [(rF y2.1)]) (0 + Int.toNat 0) ([], [], ())).1, (List.getD (asT (List FxT) [(rF y2.1)]) (0 + Int.toNat 0) ([], [], ())).2.1, ())) <| .call (aaM (((List.getD (asT (List FxT) [(rF y2.1)]) (0 + Int.toNat 0) ([], [], ())).1, (List.getD (asT (List FxT) [(rF y2.1)]) (0 + Int.toNat 0) ([], [], ())).2.1, ()), ())) Du4 fun y14 =>
 .si ((gC (asT (List CvT) [(1, [], [], ())]) 0).1) <| .si (w64 ((gC (asT (List CvT) [(1, [], [], ())]) 0).1 - 1)) <| .triv (inb (w64 ((gC (asT (List CvT) [(1, [], [], ())]) 0).1 - 1)) (↑3 : Int)) zd <| .sm (AV.fn 100 [] []) <| .sm (AV.d vw (asT CvT ((gC (asT (List CvT) [(1, [], [], ())]) 0).1, (gC (asT (List CvT) [(1, [], [], ())]) 0).2.1, (gC (asT (List CvT) [(1, [], [], ())]) 0).2.2.1, ()))) <| .sm (AV.d vK (asT (CvT × Unit) (((gC (asT (List CvT) [(1, [], [], ())]) 0).1, (gC (asT (List CvT) [(1, [], [], ())]) 0).2.1, (gC (asT (List CvT) [(1, [], [], ())]) 0).2.2.1, ()), ()))) <| .tt <| .tt <| .sf (asT FxT (rF y14.1)) <| .si (0) <| .sf (asT FxT (rF y14.1)) <| .si (0) <| .need ((asT Int 0 == 0) = true) <| .need ((0 + 1) * 32 ≤ 140737488355328) <| .need ((asT Int 0 != 0) = false) <| .si (0) <| .call (acT (List.take 1 (List.take 0 (List.replicate (Int.toNat 0) n0) ++ [(rF y14.1)]), [(rF y2.1)], ())) Du1 fun y15 =>
 .ite (y15.1)
 (.call (abD ((2, [], [[1000000]], List.take 1 (List.replicate (Int.toNat 1) 0), ([], 0, [], ()), [], 0, 0, ()), ())) Du1 fun y16 =>
 .ite (y16.1)
 (.call (abD ((1, [(1, [], [], ())], [], [], ([], 0, [], ()), [], 0, 0, ()), ())) Du1 fun y17 =>
 .ok ((y17.1, ())))
 (.ok ((false, ()))))
 (.ok ((false, ()))))
 (.ok ((false, ())))
def aOS (ins : Int) (at0 : List Int) (y : Bool × Unit) (j : Int × Unit) (j1 : (List Int) × Bool × (List CvT) × Bool × (List (List Int)) × Unit) : TT vI :=
 .need (j1 = ([1000000], false, [(1, [], [], ())], false, [[1000000]], ())) <| .triv (asT Int 0 ≤ 0 ∧ 0 < (↑4 : Int)) zd <| .triv (asT Int 0 ≤ 0 ∧ 0 < (↑4 : Int)) zd <| .triv (asT Int 841 ≠ 0) zd <| .si (0) <| .triv (asT Int 0 ≤ 0 ∧ 0 < (↑4 : Int)) zd <| .sm (AV.d vA (asT Int (List.headD at0 0))) <| .si (w64 (List.headD at0 0)) <| .si (0) <| .triv (asT Int 0 ≤ 0 ∧ 0 < (↑4 : Int)) zd <| .sm (AV.d vA (asT Int (List.headD at0 0))) <| .sm (AV.d vC (asT Int (IntKind.wrap IntKind.u16 (List.headD at0 0)))) <| .si (w64 (IntKind.wrap IntKind.u16 (List.headD at0 0))) <| .triv (asT Int 841 ≠ 0) zd <| .si (Int.tmod (w64 (IntKind.wrap IntKind.u16 (List.headD at0 0))) 841) <| .tt <| .tt <| .call (aa0 (w64 (List.headD at0 0), 840, ())) Du0 fun y1 =>
 .si (0) <| .triv (asT Int 0 ≤ 0 ∧ 0 < (↑4 : Int)) zd <| .sm (AV.d vA (asT Int (List.headD at0 0))) <| .sm (AV.d vC (asT Int (IntKind.wrap IntKind.u16 (List.headD at0 0)))) <| .si (w64 (IntKind.wrap IntKind.u16 (List.headD at0 0))) <| .triv (asT Int 841 ≠ 0) zd <| .si (Int.tmod (w64 (IntKind.wrap IntKind.u16 (List.headD at0 0))) 841) <| .si (0) <| .triv (asT Int 0 ≤ 0 ∧ 0 < (↑4 : Int)) zd <| .sm (AV.d vA (asT Int (List.headD at0 0))) <| .sm (AV.d vC (asT Int (IntKind.wrap IntKind.u16 (List.headD at0 0)))) <| .si (w64 (IntKind.wrap IntKind.u16 (List.headD at0 0))) <| .triv (asT Int 841 ≠ 0) zd <| .si (Int.tmod (w64 (IntKind.wrap IntKind.u16 (List.headD at0 0))) 841) <| .need (1 * 32 ≤ 140737488355328) <| .si (0) <| .triv (asT Int 0 ≤ 0 ∧ 0 < (↑4 : Int)) zd <| .sm (AV.d vA (asT Int (List.headD at0 0))) <| .sm (AV.d vC (asT Int (IntKind.wrap IntKind.u16 (List.headD at0 0)))) <| .si (w64 (IntKind.wrap IntKind.u16 (List.headD at0 0))) <| .triv (asT Int 841 ≠ 0) zd <| .si (Int.tmod (w64 (IntKind.wrap IntKind.u16 (List.headD at0 0))) 841) <| .tt <| .tt <| .call (aa0 (Int.tmod (w64 (IntKind.wrap IntKind.u16 (List.headD at0 0))) 841, 840, ())) Du0 fun y2 =>
 .need (1 * 32 ≤ 140737488355328) <| .tt <| .tt <| .tt <| .tt <| .tt <| .tt <| .call (ab1 ((2, [], [[1000000]], List.take 1 (List.replicate (Int.toNat 1) 0), ([], 0, [], ()), [], 0, 0, ()), ())) Du2 fun y3 =>
 .need ((y3.2.1 != 0) = false) <| .need (((↑1 : Int) != y3.1) = false) <| .triv (asT Int 0 ≤ 0 ∧ 0 < (↑1 : Int)) zd <| .call (aaC (((List.getD (asT (List FxT) [(rF y1.1)]) (0 + Int.toNat 0) ([], [], ())).1, (List.getD (asT (List FxT) [(rF y1.1)]) (0 + Int.toNat 0) ([], [], ())).2.1, ()), ())) Du3 fun y4 =>
 .need ((y4.1 != 0) = false) <| .need ((asT Int 0 != 0) = false) <| .triv (asT Int 0 ≤ 2 ∧ 2 < (↑5 : Int)) zd <| .si (2) <| .triv (asT Int 0 ≤ 2 ∧ 2 < (↑5 : Int)) zd <| .sm (AV.fn 26 [] []) <| .sm (AV.ag [AV.d vz (asT Int 2), AV.nsl, AV.d ul (asT (List (List Int)) [[1000000]]), AV.d vE (asT (List Int) (List.take 1 (List.replicate (Int.toNat 1) 0))), AV.nsl, AV.d vz (asT Int 0), AV.nsl, AV.nsl, AV.d vz (asT Int 0), AV.d vz (asT Int 0)]) <| .sm (AV.ag [AV.d vz (asT Int 2), AV.nsl, AV.d ul (asT (List (List Int)) [[1000000]]), AV.d vE (asT (List Int) (List.take 1 (List.replicate (Int.toNat 1) 0))), AV.nsl, AV.d vz (asT Int 0), AV.nsl, AV.nsl, AV.d vz (asT Int 0), AV.d vz (asT Int 0)]) <| .tt <| .tt <| .tt <| .tt <| .tt <| .tt <| .triv (asT Int 0 ≤ 0 ∧ 0 ≤ (↑1 : Int) ∧ (↑1 : Int) * (↑32 : Int) ≤ 140737488355328) zd <| .triv (asT Int 0 ≤ 0 ∧ 0 < (↑1 : Int)) zd <| .tt <| .tt <| .join 2 (ι := FxT × (Int) × Unit) (.triv (asT Int 0 ≤ 0 ∧ 0 < len (List.take 1 (List.replicate (Int.toNat 1) 0))) zd <| .sm (AV.fn 59 [] []) <| .sm (AV.d vE (asT (List Int) (List.take 1 (List.replicate (Int.toNat 1) 0)))) <| .si (0) <| .triv (asT Int 0 ≤ 0 ∧ 0 < len (List.take 1 (List.replicate (Int.toNat 1) 0))) zd <| .sm (AV.dptr vz (asT Int (gi (List.take 1 (List.replicate (Int.toNat 1) 0)) 0 0))) <| .si (gi (List.take 1 (List.replicate (Int.toNat 1) 0)) 0 0) <| .both (.tt <| .tt <| .call (aaH (gi (List.take 1 (List.replicate (Int.toNat 1) 0)) 0 0, 1000000, ())) Du0 fun y5 =>
 .sm (AV.tup [AV.d tyF (asT FxT (rF y5.1)), AV.d vz (asT Int y5.2.1)]) <| .sf (asT FxT (rF y5.1)) <| .si (y5.2.1) <| .sm (AV.tup [AV.d tyF (asT FxT (rF y5.1)), AV.d vz (asT Int y5.2.1)]) <| .sf (asT FxT (rF y5.1)) <| .si (y5.2.1) <| .si (y5.2.1) <| .tt <| .lt ((rF y5.1) : FxT) fun z10 => .lt (y5.2.1 : Int) fun z11 => .wT (wU z11 <| (vt 140 0 true) ∧ (wU (0 : Int) <| (vt 138 0 true) ∧ aQm ∧ (vt 110 0 true) ∧ (vt 108 0 true) ∧ (vt 111 0 true) ∧ (vt 109 0 true) ∧ (vt 112 0 true) ∧ True)) <| .wT (bF y5.1 ∧ aN3 at0 y1 y2) <| .ok (.inl ((z10, z11, ())))) (.sm (AV.fn 59 [] []) <| .sm (AV.d vE (asT (List Int) (List.take 1 (List.replicate (Int.toNat 1) 0)))) <| .si (0) <| .triv (asT Int 0 ≤ 0 ∧ 0 < len (List.take 1 (List.replicate (Int.toNat 1) 0))) zd <| .sm (AV.dptr vz (asT Int (gi (List.take 1 (List.replicate (Int.toNat 1) 0)) 0 0))) <| .si (gi (List.take 1 (List.replicate (Int.toNat 1) 0)) 0 0) <| .tt <| .tt <| .call (aaH (gi (List.take 1 (List.replicate (Int.toNat 1) 0)) 0 0, 1000000, ())) Du0 fun y6 =>
 .sm (AV.tup [AV.d tyF (asT FxT (rF y6.1)), AV.d vz (asT Int y6.2.1)]) <| .sf (asT FxT (rF y6.1)) <| .si (y6.2.1) <| .si (y6.2.1) <| .tt <| .lt ((rF y6.1) : FxT) fun z12 => .lt (y6.2.1 : Int) fun z13 => .wT (wU z13 <| (vt 140 0 true) ∧ (wU (0 : Int) <| (vt 138 0 true) ∧ aQm ∧ (vt 110 0 true) ∧ (vt 108 0 true) ∧ (vt 111 0 true) ∧ (vt 109 0 true) ∧ (vt 112 0 true) ∧ True)) <| .wT (bF y6.1 ∧ aN3 at0 y1 y2) <| .ok (.inl ((z12, z13, ()))))) (aOR ins at0 y j j1 y1 y2 y3 y4)
def aOT (ins : Int) (at0 : List Int) (y : Bool × Unit) (j : Int × Unit) : TT vI :=
 .ite (j.1 == 1)
 (.triv (asT Int 0 ≤ 1 ∧ asT Int 1 ≤ 1 ∧ 1 * (↑8 : Int) ≤ 140737488355328) zd <| .triv (asT Int 0 ≤ 1 ∧ asT Int 1 ≤ 1 ∧ 1 * (↑8 : Int) ≤ 140737488355328) zd <| .triv (asT Int 0 ≤ 0 ∧ 0 < (↑1 : Int)) zd <| .join 1 (ι := (List Int) × Bool × (List CvT) × Bool × (List (List Int)) × Unit) (.sm (AV.ag [AV.d vz (asT Int 1), AV.nsl, AV.nsl]) <| .both (.sm (AV.ag [AV.d vz (asT Int 1), AV.nsl, AV.nsl]) <| .both (.triv (1 * 24 ≤ 140737488355328) zd <| .sm (AV.ag [AV.d vz (asT Int 1), AV.nsl, AV.nsl]) <| .triv (1 * 56 ≤ 140737488355328) zd <| .tt <| .lt (List.take 1 (List.set (List.replicate (Int.toNat 1) 0) (0 + Int.toNat 0) 1000000) : List Int) fun z1 => .lt ([(1, [], [], ())] : List CvT) fun z2 => .lt ([z1] : List (List Int)) fun z3 => .wT (vh z1 (0 : Int) (0 : Int) (1 : Int) <| True ∧ (True ∧ (kK1 ∧ (kK2 ∧ (wU (1 : Int) <| kK0 ∧ True))))) <| .wT ((wX 41 z3) ∧ qt ∧ (wX 61 z2) ∧ qt ∧ aD0 ∧ qt ∧ aPX ∧ qt ∧ aPW ∧ qt ∧ (vu 28 (List.headD at0 0) (List.headD (List.tail at0) 0) (List.headD (List.tail (List.tail at0)) 0) (List.headD (List.tail (List.tail (List.tail at0))) 0 : Int)) ∧ qt ∧ True) <| .ok (.inl ((z1, false, z2, false, z3, ())))) (.triv (1 * 24 ≤ 140737488355328) zd <| .triv (1 * 56 ≤ 140737488355328) zd <| .tt <| .lt (List.take 1 (List.set (List.replicate (Int.toNat 1) 0) (0 + Int.toNat 0) 1000000) : List Int) fun z4 => .lt ([(1, [], [], ())] : List CvT) fun z5 => .lt ([z4] : List (List Int)) fun z6 => .wT (vh z4 (0 : Int) (0 : Int) (1 : Int) <| True ∧ (True ∧ (kK1 ∧ (kK2 ∧ (wU (1 : Int) <| kK0 ∧ True))))) <| .wT ((wX 41 z6) ∧ qt ∧ (wX 61 z5) ∧ qt ∧ aD0 ∧ qt ∧ aPX ∧ qt ∧ aPW ∧ qt ∧ (vu 28 (List.headD at0 0) (List.headD (List.tail at0) 0) (List.headD (List.tail (List.tail at0)) 0) (List.headD (List.tail (List.tail (List.tail at0))) 0 : Int)) ∧ qt ∧ True) <| .ok (.inl ((z4, false, z5, false, z6, ()))))) (.triv (1 * 24 ≤ 140737488355328) zd <| .triv (1 * 56 ≤ 140737488355328) zd <| .tt <| .lt (List.take 1 (List.set (List.replicate (Int.toNat 1) 0) (0 + Int.toNat 0) 1000000) : List Int) fun z7 => .lt ([(1, [], [], ())] : List CvT) fun z8 => .lt ([z7] : List (List Int)) fun z9 => .wT (vh z7 (0 : Int) (0 : Int) (1 : Int) <| True ∧ (True ∧ (kK1 ∧ (kK2 ∧ (wU (1 : Int) <| kK0 ∧ True))))) <| .wT ((wX 41 z9) ∧ qt ∧ (wX 61 z8) ∧ qt ∧ aD0 ∧ qt ∧ aPX ∧ qt ∧ aPW ∧ qt ∧ (vu 28 (List.headD at0 0) (List.headD (List.tail at0) 0) (List.headD (List.tail (List.tail at0)) 0) (List.headD (List.tail (List.tail (List.tail at0))) 0 : Int)) ∧ qt ∧ True) <| .ok (.inl ((z7, false, z8, false, z9, ()))))) (aOS ins at0 y j))
 (.bad)
def aMC (ins : Int) (at0 : List Int) : TT vI :=
 .call (aeU ()) Du1 fun y =>
 .need ((!y.1) = false) <| .join 0 (ι := Int × Unit) (.triv (asT Int 4 ≠ 0) zd <| .tt <| .lt (w64 (1 + w64 (Int.tmod ins 4)) : Int) fun z => .wT (wU z <| kK0 ∧ vj at0) <| .wT ((vu 28 (List.headD at0 0) (List.headD (List.tail at0) 0) (List.headD (List.tail (List.tail at0)) 0) (List.headD (List.tail (List.tail (List.tail at0))) 0 : Int)) ∧ qt ∧ True) <| .ok (.inl ((z, ())))) (aOT ins at0 y)
end
end Go.Vs
