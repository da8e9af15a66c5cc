/-
  Trees of what the functions compute, and their laws. Own work; no condition.
-/
import Derived.Test.YtakjojajnblpoaaGreatDoorClL5
import Derived.Test.YtakjojajnblpoaaGreatDoorProg
set_option linter.unusedVariables false
set_option linter.unusedSimpArgs false
namespace Go.Vs
open Go Go.Vg
theorem aM2 {H v1 V P U Q : Int} (hP : 0 < P) (h1 : 0 < v1) (hV : v1 * P ≤ V) (hU : U < (H + 1) * P) (hQ : Q * V ≤ U) (hQ0 : 0 ≤ Q) : Q ≤ H / v1 := by
 rw [xy h1]
 have a1 : Q * (v1 * P) ≤ Q * V := zD hV hQ0
 have a2 : Q * v1 * P < (H + 1) * P := by rw [Int.mul_assoc]; omega
 have := yi a2 zc
 omega
theorem aPJ {q r H v1 v2 V P U Q u2 B : Int} (hV0 : 0 ≤ V) (hP : 0 < P) (hinv : q * v1 + r = H) (hV : (v1 * B + v2) * P ≤ V) (hU : U < (H * B + u2 + 1) * P) (hQ : Q * V ≤ U) (hq : 0 ≤ q) (h : q * v2 > r * B + u2) : Q ≤ q - 1 := by
 have a1 : H * B + u2 + 1 ≤ q * (v1 * B + v2) := by
  have : q * (v1 * B + v2) = (q * v1 + r) * B - r * B + q * v2 := by grind
  rw [this, hinv]; omega
 have a2 : (H * B + u2 + 1) * P ≤ (q * (v1 * B + v2)) * P := zu a1 zc
 have a3 : q * ((v1 * B + v2) * P) ≤ q * V := zD hV hq
 rw [Int.mul_assoc] at a2
 have a4 : Q * V < q * V := zc
 have := yi a4 hV0
 omega
theorem aH6 {q r H v1 v2 V V3 P U u2 B Q : Int} (hP : 0 < P) (hinv : q * v1 + r = H) (hVe : V = (v1 * B + v2) * P + V3) (hV3 : V3 < P) (hV30 : 0 ≤ V3) (hU : (H * B + u2) * P ≤ U) (hq : 0 ≤ q) (hqB : q < B) (hVB : B * P ≤ V) (hUQ : U < (Q + 1) * V) (h : q * v2 ≤ r * B + u2) : q ≤ Q + 1 := by
 have a1 : q * (v1 * B + v2) ≤ H * B + u2 := by
  have : q * (v1 * B + v2) = (q * v1 + r) * B - r * B + q * v2 := by grind
  rw [this, hinv]; omega
 have a2 : (q * (v1 * B + v2)) * P ≤ (H * B + u2) * P := zu a1 zc
 have a3 : q * V3 ≤ B * P := by
  have b1 : q * V3 ≤ q * P := zD zc hq
  have b2 : q * P ≤ B * P := zu zc zc
  omega
 have a4 : q * V = (q * (v1 * B + v2)) * P + q * V3 := by rw [hVe]; grind
 have a5 : q * V < (Q + 2) * V := by
  have : (Q + 2) * V = (Q + 1) * V + V := by grind
  omega
 have hVpos : 0 < V := by
  have : 0 < B * P := vB zc hP
  omega
 have := yi a5 zc
 omega
theorem aGB {u w : List Int} {j n : Nat} {Q Vv e U : Int} (hlen : w.length = u.length) (hjn : j + n < u.length) (hw : Dg 1000000000 w)
  (htk : w.take j = u.take j) (hdr : w.drop (j + n) = u.drop (j + n)) (hz : V 1000000000 (u.drop (j + n + 1)) = 0) (hU : U = V 1000000000 (u.drop j)) (hX0 : 0 ≤ U - Q * Vv) (hX1 : U - Q * Vv < 1000000000 ^ n)
  (hV : V 1000000000 w = V 1000000000 u - 1000000000 ^ j * (Q * Vv) + 1000000000 ^ (j + n) * e) :
  V 1000000000 (w.set (j + n) 0) = V 1000000000 u - 1000000000 ^ j * (Q * Vv) ∧ V 1000000000 ((w.set (j + n) 0).drop j) = U - Q * Vv ∧ e = u.getD (j + n) 0 := by
 have sw := ab9 1000000000 w j
 have su := ab9 1000000000 u j
 rw [htk] at sw
 have hPj : (0 : Int) < 1000000000 ^ j := yK zc
 have hPn : (0 : Int) < 1000000000 ^ n := yK zc
 have e1 : V 1000000000 (w.drop j) = U - Q * Vv + 1000000000 ^ n * e := by
  have : 1000000000 ^ j * V 1000000000 (w.drop j) = 1000000000 ^ j * (U - Q * Vv + 1000000000 ^ n * e) := by
   rw [wy] at hV
   rw [hU]
   have : (1000000000 : Int) ^ j * (V 1000000000 (u.drop j) - Q * Vv + 1000000000 ^ n * e) = 1000000000 ^ j * V 1000000000 (u.drop j) - 1000000000 ^ j * (Q * Vv) + 1000000000 ^ j * 1000000000 ^ n * e := by grind
   omega
  exact Int.eq_of_mul_eq_mul_left zc this
 have s2 := ab9 1000000000 (w.drop j) n
 rw [yb, hdr] at s2
 have s3 := aaU 1000000000 u (j + n)
 rw [hz, wB, vq] at s3
 rw [s3] at s2
 have l1 := ac8 zc (acM hw j) n
 have l2 := aaT zc (ab8 (acM hw j) n)
 have hget : w.getD (j + n) 0 = u.getD (j + n) 0 := by
  have h1 : (w.drop (j + n)).getD 0 0 = (u.drop (j + n)).getD 0 0 := by rw [hdr]
  simpa [yd, yZ] using h1
 have he : e = u.getD (j + n) 0 := by
  have h1 : 1000000000 ^ n * (u.getD (j + n) 0 - e) = (U - Q * Vv) - V 1000000000 ((w.drop j).take n) := by
   rw [Int.mul_sub]; omega
  have h2 : u.getD (j + n) 0 - e < 1 := by
   have : 1000000000 ^ n * (u.getD (j + n) 0 - e) < 1000000000 ^ n * 1 := zc
   exact yU this zc
  have h3 : -1 < u.getD (j + n) 0 - e := by
   have : 1000000000 ^ n * (-1) < 1000000000 ^ n * (u.getD (j + n) 0 - e) := zc
   exact yU this zc
  omega
 refine ⟨?_, ?_, he⟩
 ·rw [ayK _ zc, hget, hV, he, Int.mul_sub]
  omega
 ·have s4 : (w.set (j + n) 0).drop j = (w.drop j).set n 0 := by
   rw [List.drop_set, if_neg zc]; congr 1; omega
  rw [s4, ayK _ (by rw [yB]; omega)]
  have : (w.drop j).getD n 0 = u.getD (j + n) 0 := by
   rw [← hget]; simp [yd, yZ]
  rw [this, e1, he, Int.mul_sub]
  omega
theorem aQV {u w : List Int} {j n : Nat} {q Vv e U : Int} (hw : Dg 1000000000 w)
  (htk : w.take j = u.take j) (hdr : w.drop (j + n) = u.drop (j + n)) (hz : V 1000000000 (u.drop (j + n + 1)) = 0) (hU : U = V 1000000000 (u.drop j)) (hX0 : U - q * Vv < 0)
  (hV : V 1000000000 w = V 1000000000 u - 1000000000 ^ j * (q * Vv) + 1000000000 ^ (j + n) * e) : u.getD (j + n) 0 < e := by
 have sw := ab9 1000000000 w j
 have su := ab9 1000000000 u j
 rw [htk] at sw
 have hPj : (0 : Int) < 1000000000 ^ j := yK zc
 have hPn : (0 : Int) < 1000000000 ^ n := yK zc
 have e1 : V 1000000000 (w.drop j) = U - q * Vv + 1000000000 ^ n * e := by
  have : 1000000000 ^ j * V 1000000000 (w.drop j) = 1000000000 ^ j * (U - q * Vv + 1000000000 ^ n * e) := by
   rw [wy] at hV
   rw [hU]
   have : (1000000000 : Int) ^ j * (V 1000000000 (u.drop j) - q * Vv + 1000000000 ^ n * e) = 1000000000 ^ j * V 1000000000 (u.drop j) - 1000000000 ^ j * (q * Vv) + 1000000000 ^ j * 1000000000 ^ n * e := by grind
   omega
  exact Int.eq_of_mul_eq_mul_left zc this
 have s2 := ab9 1000000000 (w.drop j) n
 rw [yb, hdr] at s2
 have s3 := aaU 1000000000 u (j + n)
 rw [hz, wB, vq] at s3
 rw [s3] at s2
 have l2 := aaT zc (ab8 (acM hw j) n)
 have : 1000000000 ^ n * u.getD (j + n) 0 < 1000000000 ^ n * e := zc
 exact yU this zc
theorem axH (l : List Int) {k j : Nat} (h : j ≤ k) (x : Int) : (l.set (k) x).take j = l.take j := by
 rw [List.take_set_of_le h]
theorem aMK (m o : List Int) (y : Int × Unit) (y4 : List Int × Unit) (v ql u w0 : List Int) (j n : Nat) (q : Int) (i2 : Int × Int × Int × List Int × Unit) (hv : Dg 1000000000 v) (hn : v.length = n) (hN : w0.length ≤ 1000000000000) (hjn : j + n < w0.length) (hw : Dg 1000000000 w0) (hq : 1 ≤ q ∧ q < 1000000000) (hK : inb (j : Int) (↑(Int.toNat (w64 (w64 (len m - len v) + 1))) : Int)) :
  ∃ w' e, ac6 (fun i3 => (aiE m o y (v, ()) y4 ((j : Int), ql, u, ()) (q, ()) i2 i3).toO) (0, 0, w0, ()) = some (.inr (.inl ((j : Int) - 1, ql.set j (q - 1), w'.set (j + n) 0, ()))) ∧ w'.length = w0.length ∧ Dg 1000000000 w' ∧ w'.take j = w0.take j ∧ w'.drop (j + n) = w0.drop (j + n) ∧ V 1000000000 w' = V 1000000000 w0 + 1000000000 ^ j * V 1000000000 v - 1000000000 ^ (j + n) * e := by
 have wa : w64 (w64 ((j : Int) + len v) + 1) = ((j + n + 1 : Nat) : Int) := by rw [aaC, hn, aaA (x := (j : Int) + n) zc, aaA zc]; omega
 have wb : ((((j + n + 1 : Nat) : Int).toNat - (j : Int).toNat : Nat) : Int) = ((n + 1 : Nat) : Int) := zc
 refine Exists.elim (adP (R := fun i3 => (aiE m o y (v, ()) y4 ((j : Int), ql, u, ()) (q, ()) i2 i3).toO) (fun i : Int × Int × List Int × Unit => ∃ k : Nat, k ≤ n ∧ i.1 = (k : Int) ∧ 0 ≤ i.2.1 ∧ i.2.1 ≤ 1 ∧ i.2.2.1.length = w0.length ∧ Dg 1000000000 i.2.2.1 ∧ i.2.2.1.take j = w0.take j ∧ i.2.2.1.drop (j + k) = w0.drop (j + k) ∧ V 1000000000 i.2.2.1 = V 1000000000 w0 + 1000000000 ^ j * V 1000000000 (v.take k) - 1000000000 ^ (j + k) * i.2.1) (fun i => ((n : Int) - i.1).toNat)
  (fun r => ∃ w' e, r = Sum.inr (Sum.inl ((j : Int) - 1, ql.set j (q - 1), w'.set (j + n) 0, ())) ∧ w'.length = w0.length ∧ Dg 1000000000 w' ∧ w'.take j = w0.take j ∧ w'.drop (j + n) = w0.drop (j + n) ∧ V 1000000000 w' = V 1000000000 w0 + 1000000000 ^ j * V 1000000000 v - 1000000000 ^ (j + n) * e) ?step (0, 0, w0, ()) ⟨0, by omega, rfl, by simp, by simp, rfl, hw, rfl, rfl, by simp [V]⟩) ?fin
 case fin =>
  rintro a ⟨h1, w', e, rfl, h3⟩
  exact ⟨w', e, h1, h3⟩
 rintro ⟨i, c, w, u5⟩ ⟨k, g1, g2, g3, g4, g5, g6, g7, g8, g9⟩
 dsimp only at g2 g3 g4 g5 g6 g7 g8 g9
 subst g2
 have dv := aa4 zc hv k
 have dw := aa4 zc g6 (j + k)
 have ev := aa6 1000000000 v k
 simp only [aiE, aaM, wa, wb, zp, zw]
 rcases zr k n with hk | hk
 ·left
  have w1 : adY (adY (w.getD (j + k) 0 + v.getD k 0) + c) = w.getD (j + k) 0 + v.getD k 0 + c := by rw [aa0 (x := w.getD (j + k) 0 + v.getD k 0) zc, aa0 zc]
  have w5 : w64 ((k : Int) + 1) = ((k + 1 : Nat) : Int) := by rw [aaA (x := (k : Int) + 1) zc]; omega
  simp only [w1, w5]
  have fin : ∀ x c' : Int, 0 ≤ x ∧ x < 1000000000 → 0 ≤ c' ∧ c' ≤ 1 → x + 1000000000 * c' = w.getD (j + k) 0 + v.getD k 0 + c → ∃ k_1 : Nat, k_1 ≤ n ∧ ((k + 1 : Nat) : Int) = (k_1 : Int) ∧ 0 ≤ c' ∧ c' ≤ 1 ∧ (w.set (j + k) x).length = w0.length ∧ Dg 1000000000 (w.set (j + k) x) ∧ (w.set (j + k) x).take j = w0.take j ∧ (w.set (j + k) x).drop (j + k_1) = w0.drop (j + k_1) ∧ V 1000000000 (w.set (j + k) x) = V 1000000000 w0 + 1000000000 ^ j * V 1000000000 (v.take k_1) - 1000000000 ^ (j + k_1) * c' := by
   intro x c' hx hc he
   refine ⟨k + 1, by omega, rfl, hc.1, hc.2, by simp; omega, aiT g6 hx _, by rw [axH _ zc, g7], ?_, ?_⟩
   ·rw [ahS _ zc, show j + (k + 1) = j + k + 1 by omega, ← yb (i := 1), g8, yb]
   ·rw [ayK _ zc, g9, ev, show j + (k + 1) = j + k + 1 by omega, zY, wy]
    have : (1000000000 : Int) ^ j * 1000000000 ^ k * (x + 1000000000 * c') = 1000000000 ^ j * 1000000000 ^ k * (w.getD (j + k) 0 + v.getD k 0 + c) := by rw [he]
    grind
  by_cases cc : w.getD (j + k) 0 + v.getD k 0 + c ≥ 1000000000
  ·refine ⟨(((k + 1 : Nat) : Int), 1, w.set (j + k) (w.getD (j + k) 0 + v.getD k 0 + c - 1000000000), ()), ?_, fin _ 1 zc zc zc, by dsimp only; omega⟩
   refine uT sd (uN sd (uN ⟨by omega, by omega⟩ (uT (zo cc) (uN ⟨by omega, by omega⟩ ?_))))
   repeat refine za ?_
   rw [aa0 (x := w.getD (j + k) 0 + v.getD k 0 + c - 1000000000) zc]
   rfl
  ·refine ⟨(((k + 1 : Nat) : Int), 0, w.set (j + k) (w.getD (j + k) 0 + v.getD k 0 + c), ()), ?_, fin _ 0 zc zc zc, by dsimp only; omega⟩
   refine uT sd (uN sd (uN ⟨by omega, by omega⟩ (uF (zn cc) (uN ⟨by omega, by omega⟩ ?_))))
   repeat refine za ?_
   rfl
 ·right
  have hkn : k = n := zc
  subst hkn
  rw [abG _ zc] at g9
  refine ⟨_, ?_, w, c, rfl, g5, g6, g7, g8, g9⟩
  refine uF sd (uN ⟨by simp [len], by rw [aaC, hn]; omega⟩ (uN hK ?_))
  repeat refine za ?_
  have w6 : adY (abE (q - 1)) = q - 1 := by rw [aaN (x := q - 1) zc, aa0 zc]
  rw [aaK, w6, aaA (x := (j : Int) - 1) zc, aaC, hn, zp]
theorem ar8 {a b B : Int} (ha : 0 ≤ a ∧ a < B) (hb : 0 ≤ b ∧ b < B) : 0 ≤ a * b ∧ a * b ≤ (B - 1) * (B - 1) := by
 refine ⟨ye ha.1 hb.1, ?_⟩
 have h1 : a * b ≤ a * (B - 1) := zD zc ha.1
 have h2 : a * (B - 1) ≤ (B - 1) * (B - 1) := zu zc zc
 omega
theorem aML (m o : List Int) (y : Int × Unit) (y4 : List Int × Unit) (v ql u : List Int) (j n : Nat) (q Q : Int) (hv : Dg 1000000000 v) (hn : v.length = n) (hN : u.length ≤ 1000000000000) (hjn : j + n < u.length) (hu : Dg 1000000000 u) (hq : 0 ≤ q ∧ q < 1000000000) (hK : inb (j : Int) (↑(Int.toNat (w64 (w64 (len m - len v) + 1))) : Int))
  (hz : V 1000000000 (u.drop (j + n + 1)) = 0) (hQ : q = Q ∨ q = Q + 1) (hX0 : 0 ≤ V 1000000000 (u.drop j) - Q * V 1000000000 v) (hX1 : V 1000000000 (u.drop j) - Q * V 1000000000 v < V 1000000000 v) (hQ0 : 0 ≤ Q) :
  ∃ u', ac6 (fun i2 => (agP m o y (v, ()) y4 ((j : Int), ql, u, ()) (q, ()) i2).toO) (0, 0, 0, u, ()) = some (.inl ((j : Int) - 1, ql.set j Q, u', ())) ∧ u'.length = u.length ∧ Dg 1000000000 u' ∧ V 1000000000 u' = V 1000000000 u - 1000000000 ^ j * (Q * V 1000000000 v) ∧ V 1000000000 (u'.drop j) = V 1000000000 (u.drop j) - Q * V 1000000000 v := by
 have wa : w64 (w64 ((j : Int) + len v) + 1) = ((j + n + 1 : Nat) : Int) := by rw [aaC, hn, aaA (x := (j : Int) + n) zc, aaA zc]; omega
 have wb : ((((j + n + 1 : Nat) : Int).toNat - (j : Int).toNat : Nat) : Int) = ((n + 1 : Nat) : Int) := zc
 have hVn : V 1000000000 v < 1000000000 ^ n := by have := aKz zc hv; rwa [hn] at this
 refine Exists.elim (adP (R := fun i2 => (agP m o y (v, ()) y4 ((j : Int), ql, u, ()) (q, ()) i2).toO) (fun i : Int × Int × Int × List Int × Unit => ∃ k : Nat, k ≤ n ∧ i.1 = (k : Int) ∧ 0 ≤ i.2.1 ∧ i.2.1 ≤ 1 ∧ 0 ≤ i.2.2.1 ∧ i.2.2.1 < 1000000000 ∧ i.2.2.2.1.length = u.length ∧ Dg 1000000000 i.2.2.2.1 ∧ i.2.2.2.1.take j = u.take j ∧ i.2.2.2.1.drop (j + k) = u.drop (j + k) ∧ V 1000000000 i.2.2.2.1 = V 1000000000 u - 1000000000 ^ j * (q * V 1000000000 (v.take k)) + 1000000000 ^ (j + k) * (i.2.1 + i.2.2.1)) (fun i => ((n : Int) - i.1).toNat)
  (fun r => ∃ u', r = Sum.inl ((j : Int) - 1, ql.set j Q, u', ()) ∧ u'.length = u.length ∧ Dg 1000000000 u' ∧ V 1000000000 u' = V 1000000000 u - 1000000000 ^ j * (Q * V 1000000000 v) ∧ V 1000000000 (u'.drop j) = V 1000000000 (u.drop j) - Q * V 1000000000 v) ?step (0, 0, 0, u, ()) ⟨0, by omega, rfl, by simp, by simp, by simp, by simp, rfl, hu, rfl, rfl, by simp [V]⟩) ?fin
 case fin =>
  rintro a ⟨h1, u', rfl, h3⟩
  exact ⟨u', h1, h3⟩
 rintro ⟨i, b, c, w, u5⟩ ⟨k, g1, g2, g3, g4, g5, g6, g7, g8, g9, g10, g11⟩
 dsimp only at g2 g3 g4 g5 g6 g7 g8 g9 g10 g11
 subst g2
 have dv := aa4 zc hv k
 have dw := aa4 zc g8 (j + k)
 have ev := aa6 1000000000 v k
 have hm := ar8 hq dv
 have hs : 0 ≤ c + q * v.getD k 0 := zc
 simp only [agP, aaM, wa, wb, zp, zw]
 rcases zr k n with hk | hk
 ·left
  have wv : abE (v.getD k 0) = v.getD k 0 := aaN zc
  have wp : abE (c + abE (q * v.getD k 0)) = c + q * v.getD k 0 := by rw [aaN (x := q * v.getD k 0) zc, aaN zc]
  have em := ym (c + q * v.getD k 0) 1000000000
  have e2 : 0 ≤ (c + q * v.getD k 0) % 1000000000 ∧ (c + q * v.getD k 0) % 1000000000 < 1000000000 := zc
  have e3 : 0 ≤ (c + q * v.getD k 0) / 1000000000 ∧ (c + q * v.getD k 0) / 1000000000 < 1000000000 := zc
  have tm : Int.tmod (c + q * v.getD k 0) 1000000000 = (c + q * v.getD k 0) % 1000000000 := zH hs
  have td : Int.tdiv (c + q * v.getD k 0) 1000000000 = (c + q * v.getD k 0) / 1000000000 := zN hs
  have wr : w64 (w64 (w64 (w.getD (j + k) 0) - b) - w64 ((c + q * v.getD k 0) % 1000000000)) = w.getD (j + k) 0 - b - (c + q * v.getD k 0) % 1000000000 := by
   rw [aaA (x := w.getD (j + k) 0) zc, aaA (x := w.getD (j + k) 0 - b) zc, aaA (x := (c + q * v.getD k 0) % 1000000000) zc, aaA zc]
  have w5 : w64 ((k : Int) + 1) = ((k + 1 : Nat) : Int) := by rw [aaA (x := (k : Int) + 1) zc]; omega
  have wd : abE ((c + q * v.getD k 0) / 1000000000) = (c + q * v.getD k 0) / 1000000000 := aaN zc
  simp only [wv, wp, tm, td, wr, w5, wd]
  generalize (c + q * v.getD k 0) % 1000000000 = D at *
  generalize (c + q * v.getD k 0) / 1000000000 = C at *
  have fin : ∀ x b' : Int, 0 ≤ x ∧ x < 1000000000 → 0 ≤ b' ∧ b' ≤ 1 → x = w.getD (j + k) 0 - b - D + 1000000000 * b' → ∃ k_1 : Nat, k_1 ≤ n ∧ ((k + 1 : Nat) : Int) = (k_1 : Int) ∧ 0 ≤ b' ∧ b' ≤ 1 ∧ 0 ≤ C ∧ C < 1000000000 ∧ (w.set (j + k) x).length = u.length ∧ Dg 1000000000 (w.set (j + k) x) ∧ (w.set (j + k) x).take j = u.take j ∧ (w.set (j + k) x).drop (j + k_1) = u.drop (j + k_1) ∧ V 1000000000 (w.set (j + k) x) = V 1000000000 u - 1000000000 ^ j * (q * V 1000000000 (v.take k_1)) + 1000000000 ^ (j + k_1) * (b' + C) := by
   intro x b' hx hb he
   refine ⟨k + 1, by omega, rfl, hb.1, hb.2, e3.1, e3.2, by simp; omega, aiT g8 hx _, by rw [axH _ zc, g9], ?_, ?_⟩
   ·rw [ahS _ zc, show j + (k + 1) = j + k + 1 by omega, ← yb (i := 1), g10, yb]
   ·rw [ayK _ zc, g11, ev, show j + (k + 1) = j + k + 1 by omega, zY, wy, he]
    have : (1000000000 : Int) ^ j * 1000000000 ^ k * (D + 1000000000 * C) = 1000000000 ^ j * 1000000000 ^ k * (c + q * v.getD k 0) := by rw [em]
    grind
  by_cases cc : w.getD (j + k) 0 - b - D < 0
  ·refine ⟨(((k + 1 : Nat) : Int), 1, C, w.set (j + k) (w.getD (j + k) 0 - b - D + 1000000000), ()), ?_, fin _ 1 zc zc zc, by dsimp only; omega⟩
   refine uT sd (uN sd (uN ⟨by omega, by omega⟩ (uV (uV (uT (zo cc) (uN ⟨by omega, by omega⟩ ?_))))))
   repeat refine za ?_
   rw [aaA (x := w.getD (j + k) 0 - b - D + 1000000000) zc, aa0 zc]
   rfl
  ·refine ⟨(((k + 1 : Nat) : Int), 0, C, w.set (j + k) (w.getD (j + k) 0 - b - D), ()), ?_, fin _ 0 zc zc zc, by dsimp only; omega⟩
   refine uT sd (uN sd (uN ⟨by omega, by omega⟩ (uV (uV (uF (zn cc) (uN ⟨by omega, by omega⟩ ?_))))))
   repeat refine za ?_
   rw [aa0 (x := w.getD (j + k) 0 - b - D) zc]
   rfl
 ·right
  have hkn : k = n := zc
  subst hkn
  rw [abG _ zc] at g11
  have hun := aa4 zc hu (j + k)
  have hget : w.getD (j + k) 0 = u.getD (j + k) 0 := by
   have h1 : (w.drop (j + k)).getD 0 0 = (u.drop (j + k)).getD 0 0 := by rw [g10]
   simpa [yd, yZ] using h1
  have wl : len v = (k : Int) := by rw [aaC, hn]
  have wt : w64 (w64 (u.getD (j + k) 0) - b) = u.getD (j + k) 0 - b := by rw [aaA (x := u.getD (j + k) 0) zc, aaA zc]
  have wc : w64 c = c := aaA zc
  simp only [wl, zp, hget, wt, wc]
  by_cases cb : u.getD (j + k) 0 - b < c
  ·-- one too great
   have hq1 : q = Q + 1 := by
    rcases hQ with h | h
    ·subst h
     obtain ⟨-, -, he⟩ := aGB (Q := q) g7 hjn g8 g9 g10 hz rfl hX0 zc g11
     omega
    ·exact h
   obtain ⟨w', e, r1, r2, r3, r4, r5, r6⟩ := aMK m o y y4 v ql u w j k q ((k : Int), b, c, w, ()) hv hn zc zc g8 zc hK
   obtain ⟨f1, f2, -⟩ := aGB (u := u) (w := w') (Q := Q) (Vv := V 1000000000 v) (e := b + c - e) (by rw [r2, g7]) hjn r3 (by rw [r4, g9]) (by rw [r5, g10]) hz rfl hX0 zc (by
    rw [r6, g11, hq1]
    grind)
   refine ⟨_, ?_, w'.set (j + k) 0, rfl, by simp; omega, aiT r3 zc _, f1, f2⟩
   refine uF sd (uN ⟨by omega, by omega⟩ (uT (zo cb) ?_))
   refine uO (0, 0, w, ()) (by repeat refine za ?_; rfl) ?_
   rw [r1, hq1, Int.add_sub_cancel]
  ·have hq1 : q = Q := by
    rcases hQ with h | h
    ·exact h
    ·exfalso
     have := aQV (q := q) g8 g9 g10 hz rfl (by rw [h, wX]; omega) g11
     omega
   subst hq1
   obtain ⟨f1, f2, -⟩ := aGB (Q := q) g7 hjn g8 g9 g10 hz rfl hX0 zc g11
   refine ⟨_, ?_, w.set (j + k) 0, rfl, by simp; omega, aiT g8 zc _, f1, f2⟩
   refine uF sd (uN ⟨by omega, by omega⟩ (uF (zn cb) (uN ⟨by omega, by omega⟩ (uN (by rw [wl] at hK; exact hK) ?_))))
   repeat refine za ?_
   rw [aaK, aa0 (x := q) zc, aaA (x := (j : Int) - 1) zc]
theorem ar3 {N : Nat} {s : List Int} (h : s.length ≤ N) : over (List.replicate N 0) 0 s = s ++ List.replicate (N - s.length) 0 := by
 unfold over
 simp
theorem aR9 {N : Nat} {s : List Int} (h : s.length ≤ N) : V 1000000000 (over (List.replicate N 0) 0 s) = V 1000000000 s := by
 rw [ar3 h, ad3, as2]; omega
theorem aMM (m o : List Int) (y : Int × Unit) (y4 : List Int × Unit) (v ql u : List Int) (j n : Nat) (U Q : Int) (hv : Dg 1000000000 v) (hn : v.length = n + 2) (hN : u.length ≤ 1000000000000) (hjn : j + n + 2 < u.length) (hu : Dg 1000000000 u) (hz : V 1000000000 (u.drop (j + n + 2 + 1)) = 0) (hU : U = V 1000000000 (u.drop j)) (hUB : U < V 1000000000 v * 1000000000) (hQ1 : Q * V 1000000000 v ≤ U) (hQ2 : U < (Q + 1) * V 1000000000 v) (hQ0 : 0 ≤ Q) (htop : 1 ≤ v.getD (n + 1) 0) :
  ∃ q, (q = Q ∨ q = Q + 1) ∧ 0 ≤ q ∧ q < 1000000000 ∧ ac6 (fun i1 => (agQ m o y (v, ()) y4 ((j : Int), ql, u, ()) i1).toO) ((u.getD (j + n + 2) 0 * 1000000000 + u.getD (j + n + 1) 0) % v.getD (n + 1) 0, (u.getD (j + n + 2) 0 * 1000000000 + u.getD (j + n + 1) 0) / v.getD (n + 1) 0, ()) = some (.inl (q, ())) := by
 have wb1 : w64 (len v - 1) = ((n + 1 : Nat) : Int) := by rw [aaC, hn, aaA zc]; omega
 have wb2 : w64 (len v - 2) = ((n : Nat) : Int) := by rw [aaC, hn, aaA zc]; omega
 have wa : w64 (w64 ((j : Int) + len v) + 1) = ((j + n + 2 + 1 : Nat) : Int) := by rw [aaC, hn, aaA (x := (j : Int) + ((n + 2 : Nat) : Int)) zc, aaA zc]; omega
 have wb : ((((j + n + 2 + 1 : Nat) : Int).toNat - (j : Int).toNat : Nat) : Int) = ((n + 3 : Nat) : Int) := zc
 have dv1 := aa4 zc hv (n + 1)
 have dv2 := aa4 zc hv n
 have du0 := aa4 zc hu (j + n + 2)
 have du1 := aa4 zc hu (j + n + 1)
 have du2 := aa4 zc hu (j + n)
 -- the divisor
 have hP : (0 : Int) < 1000000000 ^ n := yK zc
 have hP1 : (0 : Int) < 1000000000 ^ (n + 1) := yK zc
 have s1 := ab9 1000000000 v n
 have s2 := aaU 1000000000 v n
 have s3 := aaU 1000000000 v (n + 1)
 rw [acW (k := n + 1 + 1) _ zc, wB, vq] at s3
 rw [s3] at s2
 have s4 := ac8 zc hv n
 have s5 := aaT zc (ab8 hv n)
 have s6 := ab9 1000000000 v (n + 1)
 rw [s3] at s6
 have s7 := aaT zc (ab8 hv (n + 1))
 -- the window
 have t1 := ab9 1000000000 (u.drop j) n
 have t2 : V 1000000000 ((u.drop j).drop n) = (u.getD (j + n + 2) 0 * 1000000000 + u.getD (j + n + 1) 0) * 1000000000 + u.getD (j + n) 0 := by
  rw [yb]
  have a1 := aaU 1000000000 u (j + n)
  have a2 := aaU 1000000000 u (j + n + 1)
  have a3 := aaU 1000000000 u (j + n + 1 + 1)
  rw [show j + n + 1 + 1 + 1 = j + n + 2 + 1 by omega, hz] at a3
  rw [a1, a2, a3]
  show _ + 1000000000 * (_ + 1000000000 * (u.getD (j + n + 2) 0 + 1000000000 * 0)) = _
  omega
 have t3 := ac8 zc (acM hu j) n
 have t4 := aaT zc (ab8 (acM hu j) n)
 rw [← hU, t2] at t1
 generalize hH : u.getD (j + n + 2) 0 * 1000000000 + u.getD (j + n + 1) 0 = H at *
 have hH0 : 0 ≤ H ∧ H < 1000000000000000000 := zc
 generalize hv1 : v.getD (n + 1) 0 = v1 at *
 generalize hv2 : v.getD n 0 = v2 at *
 generalize hu2 : u.getD (j + n) 0 = u2 at *
 generalize V 1000000000 (v.take n) = V3 at *
 generalize V 1000000000 ((u.drop j).take n) = U3 at *
 generalize V 1000000000 (v.take (n + 1)) = V4 at *
 have hVe : V 1000000000 v = (v1 * 1000000000 + v2) * 1000000000 ^ n + V3 := by rw [s1, s2]; grind
 have hVv : v1 * 1000000000 ^ (n + 1) ≤ V 1000000000 v := by
  have : (1000000000 : Int) ^ (n + 1) * v1 = v1 * 1000000000 ^ (n + 1) := yN _ _
  omega
 have hVB : 1000000000 * 1000000000 ^ n ≤ V 1000000000 v := by
  have a1 : 1 * 1000000000 ^ (n + 1) ≤ v1 * 1000000000 ^ (n + 1) := zu htop zc
  have a2 : (1000000000 : Int) ^ (n + 1) = 1000000000 * 1000000000 ^ n := by rw [zY, yN]
  omega
 have hUlo : (H * 1000000000 + u2) * 1000000000 ^ n ≤ U := by
  have : (1000000000 : Int) ^ n * (H * 1000000000 + u2) = (H * 1000000000 + u2) * 1000000000 ^ n := yN _ _
  omega
 have hUhi : U < (H * 1000000000 + u2 + 1) * 1000000000 ^ n := by
  have : (H * 1000000000 + u2 + 1) * 1000000000 ^ n = 1000000000 ^ n * (H * 1000000000 + u2) + 1000000000 ^ n := by grind
  omega
 have hUhi1 : U < (H + 1) * 1000000000 ^ (n + 1) := by
  have a1 : (H * 1000000000 + u2 + 1) * 1000000000 ^ n ≤ ((H + 1) * 1000000000) * 1000000000 ^ n := zu zc zc
  have a2 : ((H + 1) * 1000000000) * 1000000000 ^ n = (H + 1) * 1000000000 ^ (n + 1) := by rw [zY]; grind
  omega
 have hVpos : 0 < V 1000000000 v := by have := vB (show (0 : Int) < 1000000000 by omega) hP; omega
 have hQB : Q < 1000000000 := by
  have : Q * V 1000000000 v < 1000000000 * V 1000000000 v := zc
  exact yi this zc
 have hstart := aM2 hP1 zc hVv hUhi1 hQ1 hQ0
 have hdm := ym H v1
 have hr0 := yR H (show v1 ≠ 0 by omega)
 have hr1 := yC H (show 0 < v1 by omega)
 refine Exists.elim (adP (R := fun i1 => (agQ m o y (v, ()) y4 ((j : Int), ql, u, ()) i1).toO) (fun i : Int × Int × Unit => 0 ≤ i.1 ∧ i.1 < 1000000000 ∧ Q ≤ i.2.1 ∧ i.2.1 * v1 + i.1 = H) (fun i => i.2.1.toNat) (fun r => ∃ q, (q = Q ∨ q = Q + 1) ∧ 0 ≤ q ∧ q < 1000000000 ∧ r = Sum.inl (q, ())) ?step (H % v1, H / v1, ()) ⟨hr0, by dsimp only; omega, hstart, by dsimp only; rw [yN]; omega⟩) ?fin
 case fin =>
  rintro a ⟨h1, q, h2, h3, h4, rfl⟩
  exact ⟨q, h2, h3, h4, h1⟩
 rintro ⟨r, q, u5⟩ ⟨g1, g2, g3, g4⟩
 dsimp only at g1 g2 g3 g4
 have hqH : q ≤ H := by
  have : q * 1 ≤ q * v1 := zD htop zc
  omega
 have down : Q ≤ q - 1 → ((r + v1 ≥ 1000000000 → ∃ q', (q' = Q ∨ q' = Q + 1) ∧ 0 ≤ q' ∧ q' < 1000000000 ∧ q' = q - 1)) := by
  intro hdn hr
  have hqB : q - 1 < 1000000000 := by
   have a1 : (q - 1) * v1 = H - (r + v1) := by rw [Int.sub_mul]; omega
   have a2 : H < (v1 + 1) * 1000000000 := by
    have b1 : H * 1000000000 ^ (n + 1) ≤ U := by
     have a2 : (H * 1000000000) * 1000000000 ^ n = H * 1000000000 ^ (n + 1) := by rw [zY]; grind
     have a3 : (H * 1000000000) * 1000000000 ^ n ≤ (H * 1000000000 + u2) * 1000000000 ^ n := zu zc zc
     omega
    have b2 : V 1000000000 v < (v1 + 1) * 1000000000 ^ (n + 1) := by
     have a2 : (v1 + 1) * 1000000000 ^ (n + 1) = (v1 * 1000000000 + 1000000000) * 1000000000 ^ n := by rw [zY]; grind
     have a3 : (v1 * 1000000000 + v2 + 1) * 1000000000 ^ n ≤ (v1 * 1000000000 + 1000000000) * 1000000000 ^ n := zu zc zc
     have a4 : (v1 * 1000000000 + v2 + 1) * 1000000000 ^ n = (v1 * 1000000000 + v2) * 1000000000 ^ n + 1000000000 ^ n := by grind
     omega
    have b3 : H * 1000000000 ^ (n + 1) < ((v1 + 1) * 1000000000) * 1000000000 ^ (n + 1) := by
     have : ((v1 + 1) * 1000000000) * 1000000000 ^ (n + 1) = ((v1 + 1) * 1000000000 ^ (n + 1)) * 1000000000 := by grind
     omega
    exact yi b3 zc
   have a3 : (q - 1) * v1 < 1000000000 * v1 := by
    have : (v1 + 1) * 1000000000 = 1000000000 * v1 + 1000000000 := by grind
    omega
   exact yi a3 zc
  have hm := ar8 (a := q - 1) (b := v2) (B := 1000000000) ⟨by omega, hqB⟩ dv2
  have hmB : 1000000000 * 1000000000 ≤ (r + v1) * 1000000000 := zc
  have := aH6 (q := q - 1) (r := r + v1) hP (by rw [Int.sub_mul]; omega) hVe s4 s5 hUlo zc hqB hVB hQ2 zc
  exact ⟨q - 1, by omega, by omega, hqB, rfl⟩
 have wv1 : abE v1 = v1 := aaN zc
 have wr : abE (r + v1) = r + v1 := aaN zc
 have hgi1 : gi v ((n + 1 : Nat) : Int) 0 = v1 := by rw [aaM, hv1]
 have hgi2 : gi v ((n : Nat) : Int) 0 = v2 := by rw [aaM, hv2]
 simp only [agQ, ahQ, wb1, wb2, hgi1, hgi2, wv1, wr, wa, wb, zp, zw, hu2]
 have stepdn : Q ≤ q - 1 → 1 ≤ q → ((r + v1 ≥ 1000000000 → ∃ q', ((q' = Q ∨ q' = Q + 1) ∧ 0 ≤ q' ∧ q' < 1000000000) ∧ abE (q - 1) = q') ∧ (¬ r + v1 ≥ 1000000000 → (0 ≤ r + v1 ∧ r + v1 < 1000000000 ∧ Q ≤ q - 1 ∧ (q - 1) * v1 + (r + v1) = H) ∧ abE (q - 1) = q - 1)) := by
  intro h1 h2
  have wq : abE (q - 1) = q - 1 := aaN zc
  refine ⟨fun h => ?_, fun h => ⟨⟨by omega, by omega, h1, by rw [Int.sub_mul]; omega⟩, wq⟩⟩
  obtain ⟨q', e1, e2, e3, e4⟩ := down h1 h
  exact ⟨q', ⟨e1, e2, e3⟩, by rw [wq, e4]⟩
 by_cases c1 : q ≥ 1000000000
 ·obtain ⟨d1, d2⟩ := stepdn zc zc
  by_cases c2 : r + v1 ≥ 1000000000
  ·right
   obtain ⟨q', e1, e2⟩ := d1 c2
   refine ⟨.inl (q', ()), ?_, q', e1.1, e1.2.1, e1.2.2, rfl⟩
   refine uT (zo c1) (uT (zo c2) ?_)
   repeat refine za ?_
   rw [aaK, e2]
  ·left
   obtain ⟨e1, e2⟩ := d2 c2
   refine ⟨(r + v1, q - 1, ()), ?_, e1, by dsimp only; omega⟩
   refine uT (zo c1) (uF (zn c2) ?_)
   repeat refine za ?_
   rw [aaK, e2]
 ·have hm := ar8 (a := q) (b := v2) (B := 1000000000) ⟨by omega, by omega⟩ dv2
  have wm : abE (q * abE v2) = q * v2 := by rw [aaN (x := v2) zc, aaN zc]
  have wn : abE (abE (r * 1000000000) + abE u2) = r * 1000000000 + u2 := by rw [aaN (x := r * 1000000000) zc, aaN (x := u2) zc, aaN zc]
  simp only [wm, wn]
  by_cases c3 : q * v2 > r * 1000000000 + u2
  ·have hdn := aPJ (q := q) (r := r) (xf hVpos) hP g4 zc hUhi hQ1 zc c3
   obtain ⟨d1, d2⟩ := stepdn hdn zc
   by_cases c2 : r + v1 ≥ 1000000000
   ·right
    obtain ⟨q', e1, e2⟩ := d1 c2
    refine ⟨.inl (q', ()), ?_, q', e1.1, e1.2.1, e1.2.2, rfl⟩
    refine uF (zn c1) (uN ⟨by omega, by rw [aaC, hn]; omega⟩ (uN ⟨by omega, by omega⟩ (uT (zo c3) (uT (zo c2) ?_))))
    repeat refine za ?_
    rw [aaK, e2]
   ·left
    obtain ⟨e1, e2⟩ := d2 c2
    refine ⟨(r + v1, q - 1, ()), ?_, e1, by dsimp only; omega⟩
    refine uF (zn c1) (uN ⟨by omega, by rw [aaC, hn]; omega⟩ (uN ⟨by omega, by omega⟩ (uT (zo c3) (uF (zn c2) ?_))))
    repeat refine za ?_
    rw [aaK, e2]
  ·right
   have hdone := aH6 (q := q) (r := r) hP g4 hVe s4 s5 hUlo zc zc hVB hQ2 zc
   refine ⟨.inl (q, ()), ?_, q, by omega, by omega, by omega, rfl⟩
   refine uF (zn c1) (uN ⟨by omega, by rw [aaC, hn]; omega⟩ (uN ⟨by omega, by omega⟩ (uF (zn c3) ?_)))
   repeat refine za ?_
   rfl
theorem aLe {b s t L : Nat} (hs : s * (t + 1) ≤ 1000000000) (hs1 : 1 ≤ s) (h1 : 1000000000 ^ L * t ≤ b) (h2 : b < 1000000000 ^ L * (t + 1)) (ht : 1 ≤ t) : (mag (b * s)).length = L + 1 := by
 have a1 : b * s < 1000000000 ^ (L + 1) := by
  have c1 : b * s < (1000000000 ^ L * (t + 1)) * s := Nat.mul_lt_mul_of_pos_right h2 zc
  have c2 : (1000000000 ^ L * (t + 1)) * s = 1000000000 ^ L * (s * (t + 1)) := by rw [wE, yH (t + 1)]
  have c3 : 1000000000 ^ L * (s * (t + 1)) ≤ 1000000000 ^ L * 1000000000 := yv _ hs
  rw [yD]; omega
 have a2 := mag_length_le_iff.2 a1
 have a3 : 1000000000 ^ L ≤ b * s := by
  have c1 : 1000000000 ^ L * 1 ≤ 1000000000 ^ L * t := yv _ ht
  have c2 : b * 1 ≤ b * s := yv _ hs1
  omega
 rcases zr L (mag (b * s)).length with h | h
 ·omega
 ·have := mag_length_le_iff.1 h; omega
theorem aMN (m o : List Int) (y : Int × Unit) (y4 : List Int × Unit) (v q u : List Int) (j n : Nat) (qq : Int) (X : (Int × List Int × List Int × Unit) ⊕ (List Int × List Int × Unit)) (hvd : Dg 1000000000 v) (g7 : Dg 1000000000 u) (lv : v.length = n + 2) (g6 : u.length = m.length + 1) (hN : m.length ≤ 1000000000000) (hj : j + n + 2 < u.length) (hvtop : 1 ≤ v.getD (n + 1) 0)
  (p4 : ac6 (fun i1 => (agQ m o y (v, ()) y4 ((j : Int), q, u, ()) i1).toO) ((u.getD (j + n + 2) 0 * 1000000000 + u.getD (j + n + 1) 0) % v.getD (n + 1) 0, (u.getD (j + n + 2) 0 * 1000000000 + u.getD (j + n + 1) 0) / v.getD (n + 1) 0, ()) = some (.inl (qq, ())))
  (r1 : ac6 (fun i1 => (agP m o y (v, ()) y4 ((j : Int), q, u, ()) (qq, ()) i1).toO) (0, 0, 0, u, ()) = some X) : (aiF m o y (v, ()) y4 ((j : Int), q, u, ())).toO = some X := by
 have wlv : len v = ((n + 2 : Nat) : Int) := by rw [aaC, lv]
 have wa : w64 (w64 ((j : Int) + len v) + 1) = ((j + n + 2 + 1 : Nat) : Int) := by rw [wlv, aaA (x := (j : Int) + ((n + 2 : Nat) : Int)) zc, aaA zc]; omega
 have wb : ((((j + n + 2 + 1 : Nat) : Int).toNat - (j : Int).toNat : Nat) : Int) = ((n + 3 : Nat) : Int) := zc
 have wb1 : w64 (len v - 1) = ((n + 1 : Nat) : Int) := by rw [wlv, aaA zc]; omega
 have w2 : w64 (len m + 1) = ((m.length + 1 : Nat) : Int) := by rw [aaC, aaA zc]; omega
 have dv1 := aa4 zc hvd (n + 1)
 have du0 := aa4 zc g7 (j + n + 2)
 have du1 := aa4 zc g7 (j + n + 1)
 have hgi1 : abE (gi v ((n + 1 : Nat) : Int) 0) = v.getD (n + 1) 0 := by rw [aaM, aaN zc]
 have wH : abE (abE (abE (u.getD (j + (n + 2)) 0) * 1000000000) + abE (u.getD (j + (n + 1)) 0)) = u.getD (j + n + 2) 0 * 1000000000 + u.getD (j + n + 1) 0 := by
  rw [show j + (n + 2) = j + n + 2 by omega, show j + (n + 1) = j + n + 1 by omega, aaN (x := u.getD (j + n + 2) 0) zc, aaN (x := u.getD (j + n + 2) 0 * 1000000000) zc, aaN (x := u.getD (j + n + 1) 0) zc, aaN zc]
 have hH0 : 0 ≤ u.getD (j + n + 2) 0 * 1000000000 + u.getD (j + n + 1) 0 := zc
 have tm := zH (b := v.getD (n + 1) 0) hH0
 have td := zN (b := v.getD (n + 1) 0) hH0
 have hdle : (u.getD (j + n + 2) 0 * 1000000000 + u.getD (j + n + 1) 0) / v.getD (n + 1) 0 ≤ u.getD (j + n + 2) 0 * 1000000000 + u.getD (j + n + 1) 0 := Int.ediv_le_self _ hH0
 have hdge : 0 ≤ (u.getD (j + n + 2) 0 * 1000000000 + u.getD (j + n + 1) 0) / v.getD (n + 1) 0 := xJ hH0 zc
 have wq : abE ((u.getD (j + n + 2) 0 * 1000000000 + u.getD (j + n + 1) 0) / v.getD (n + 1) 0) = (u.getD (j + n + 2) 0 * 1000000000 + u.getD (j + n + 1) 0) / v.getD (n + 1) 0 := aaN zc
 simp only [aiF, wa, wb, wb1, hgi1, w2, zp, zw]
 have wlt : (len v).toNat = n + 2 := by rw [wlv]; omega
 simp only [wlt, wH, tm, td, wq]
 refine uT sd (uN ⟨by omega, by omega⟩ (uN ⟨by omega, by omega⟩ (uN ⟨by omega, by omega⟩ (uN ⟨by omega, by omega⟩ (uN ⟨by omega, by omega⟩ (uN zc (uN zc ?_)))))))
 refine uL (qq, ()) ?_ ?_
 ·refine uO ((u.getD (j + n + 2) 0 * 1000000000 + u.getD (j + n + 1) 0) % v.getD (n + 1) 0, (u.getD (j + n + 2) 0 * 1000000000 + u.getD (j + n + 1) 0) / v.getD (n + 1) 0, ()) ?_ p4
  repeat refine za ?_
  rfl
 ·unfold at6
  refine uO (0, 0, 0, u, ()) (by repeat refine za ?_; rfl) ?_
  exact r1
set_option maxHeartbeats 1000000 in
theorem ap5 (m o : List Int) (y) (h : abC (m, o, ()) = some y) : (akK m o).toO = some y := by
 obtain ⟨⟨a, b⟩, hp, hx, rfl⟩ := aaD h
 obtain ⟨rfl, hx2⟩ := Prod.mk.inj hx; obtain ⟨rfl, -⟩ := Prod.mk.inj hx2; dsimp only
 obtain ⟨la, lb, hb0⟩ := hp
 simp only at la lb hb0
 clear h hx hx2
 unfold akK
 have hcmp : adS (mag a, mag b, ()) = some (auC a b, ()) := aaI (enc := fun p : Nat × Nat => (mag p.1, mag p.2, ())) (a, b) ⟨by dsimp only; omega, by dsimp only; omega⟩ (fun b hb => adF hb)
 refine uC _ hcmp ?_
 by_cases hab : a < b
 ·refine uT (zo (by unfold auC; rw [if_pos zc]; show (-1 : Int) < 0; omega)) ?_
  rw [xd hab, yG hab, mag_zero]; rfl
 refine uF (zn (by unfold auC; rw [if_neg zc]; split <;> decide)) ?_
 have hbl : 1 ≤ (mag b).length := by
  rcases zE (mag b).length with h5 | h5
  ·exact absurd (mag_nil_iff.1 (zV.1 h5)) hb0
  ·exact h5
 have hshort : ∀ x d : Nat, (mag x).length ≤ 1000000000000 → 0 < d → d < 4294967296 → ajY (mag x, (d : Int), ()) = some (mag (x / d), ((x % d : Nat) : Int), ()) := by
  intro x d h1 h2 h3
  refine aaI (enc := fun p : Nat × Nat => (mag p.1, (p.2 : Int), ())) (x, d) ⟨h1, h2, h3⟩ (fun b hb => ?_)
  obtain ⟨e1, e2⟩ := Prod.mk.inj hb
  obtain ⟨e2, -⟩ := Prod.mk.inj e2
  exact Prod.ext (adO e1) (Int.ofNat.inj e2)
 by_cases h1 : (mag b).length = 1
 ·refine uT sd (uN ⟨by simp [asT], by exact sn⟩ ?_)
  have hb1 : b < 1000000000 := by have := mag_length_le_iff.1 (vo h1); simpa using this
  have hg : gi (mag b) 0 0 = (b : Int) := by rw [apY hb0 hb1]; rfl
  rw [hg]
  refine uC _ (hshort a b zc zc zc) ?_
  have hm := yX a (show 0 < b by omega)
  generalize a % b = r at hm ⊢
  refine uC (mag r, ()) ?_ rfl
  dsimp only
  rw [aaN (x := (r : Int)) zc]
  unfold abO
  rw [if_pos zl]
  simp
 refine uF sd ?_
 obtain ⟨n, hnl⟩ : ∃ n, (mag b).length = n + 2 := ⟨(mag b).length - 2, by omega⟩
 have hml : n + 2 ≤ (mag a).length := by rw [← hnl]; exact abR zc
 obtain ⟨t, ht, t1, t2, t3, t4⟩ := aGl hb0
 have w1 : w64 (len (mag b) - 1) = ((n + 1 : Nat) : Int) := by rw [aaC, hnl, aaA zc]; omega
 rw [hnl, show n + 2 - 1 = n + 1 by omega] at ht t3 t4
 have hg : gi (mag b) ((n + 1 : Nat) : Int) 0 = (t : Int) := by rw [aaM, ht]
 have wt : adY ((t : Int) + 1) = ((t + 1 : Nat) : Int) := by rw [aa0 zc]; omega
 obtain ⟨s, hs⟩ : ∃ s, s = 1000000000 / (t + 1) := ⟨_, rfl⟩
 have hs1 : 1 ≤ s := by rw [hs]; exact (xZ zc).2 zc
 have hs2 : s * (t + 1) ≤ 1000000000 := by rw [hs]; exact Nat.div_mul_le_self _ _
 have hs3 : s < 1000000000 := by
  have : s * 2 ≤ s * (t + 1) := yv _ zc
  omega
 have ws : adY (Int.tdiv 1000000000 ((t + 1 : Nat) : Int)) = (s : Int) := by
  have : Int.tdiv 1000000000 ((t + 1 : Nat) : Int) = (s : Int) := by
   rw [zN zc, hs]; rfl
  rw [this, aa0 zc]
 simp only [w1, hg, wt, ws]
 refine uN sd (uN zc ?_)
 have hms : mag s = [(s : Int)] := apY zc hs3
 have lv : (mag (b * s)).length = n + 2 := aLe hs2 hs1 t3 t4 t1
 have htimes : ∀ x : Nat, (mag x).length ≤ 1000000000000 → acD (mag x, [(s : Int)], ()) = some (mag (x * s), ()) := by
  intro x hx
  rw [← hms]
  exact aaI (enc := fun p : Nat × Nat => (mag p.1, mag p.2, ())) (x, s) ⟨hx, by rw [hms]; simp⟩ (fun b hb => adF hb)
 refine uC _ (htimes b zc) ?_
 have w2 : w64 (len (mag a) + 1) = (((mag a).length + 1 : Nat) : Int) := by rw [aaC, aaA zc]; omega
 obtain ⟨K, hK⟩ : ∃ K, (mag a).length = K + n + 2 := ⟨(mag a).length - (n + 2), by omega⟩
 have w3 : w64 (len (mag a) - len (mag (b * s))) = (K : Int) := by rw [aaC, aaC, lv, hK, aaA zc]; omega
 have w4 : w64 ((K : Int) + 1) = ((K + 1 : Nat) : Int) := by rw [aaA zc]; omega
 simp only [w2, w3, w4]
 refine uN zc ?_
 refine uC _ (htimes a zc) ?_
 refine uN zc ?_
 have las : (mag (a * s)).length ≤ (mag a).length + 1 := by
  have := agD a s
  rw [hms] at this; simpa using this
 have htk : List.take (mag a).length.succ (mag (a * s)) = mag (a * s) := zz las
 -- the start
 have hu0d : Dg 1000000000 (over (List.replicate ((mag a).length + 1) 0) 0 (mag (a * s))) := by
  rw [ar3 las]; exact aeK (agY _) (agH zc _)
 have hu0V : V 1000000000 (over (List.replicate ((mag a).length + 1) 0) 0 (mag (a * s))) = ((a * s : Nat) : Int) := by rw [aR9 las, amD]
 have hu0l : (over (List.replicate ((mag a).length + 1) 0) 0 (mag (a * s))).length = (mag a).length + 1 := by rw [ar3 las]; simp; omega
 refine uO ((K : Int), List.replicate (K + 1) 0, over (List.replicate ((mag a).length + 1) 0) 0 (mag (a * s)), ()) ?_ ?_
 ·repeat refine za ?_
  simp only [zp, w4]
  rw [show List.take ((mag a).length + 1) (mag (a * s)) = mag (a * s) from htk]
  rfl
 generalize hu0 : over (List.replicate ((mag a).length + 1) 0) 0 (mag (a * s)) = u0 at *
 have hvd := agY (b * s)
 have hvV := amD (b * s)
 have hvpos : 0 < b * s := Nat.mul_pos zc zc
 have hvtop : 1 ≤ (mag (b * s)).getD (n + 1) 0 := by
  obtain ⟨t', e1, e2, -⟩ := aGl (n := b * s) zc
  rw [lv, show n + 2 - 1 = n + 1 by omega] at e1
  omega
 generalize hv : mag (b * s) = v at *
 have hdrop0 : V 1000000000 (u0.drop (K + 1)) < V 1000000000 v := by
  have e1 := ab9 1000000000 u0 (K + 1)
  have e2 := aaT zc (ab8 hu0d (K + 1))
  have e3 := aaT zc (acM hu0d (K + 1))
  rw [hu0V] at e1
  have a1 : a < 1000000000 ^ (K + 1) * b := by
   have c1 := mag_length_le_iff.1 (vo hK)
   have c2 : 1000000000 ^ (n + 1) ≤ b := by
    have : 1000000000 ^ (n + 1) * 1 ≤ 1000000000 ^ (n + 1) * t := yv _ t1
    omega
   have c3 : 1000000000 ^ (K + 1) * 1000000000 ^ (n + 1) ≤ 1000000000 ^ (K + 1) * b := yv _ c2
   rw [← xv, show K + 1 + (n + 1) = K + n + 2 by omega] at c3
   omega
  have a2 : a * s < (1000000000 ^ (K + 1) * b) * s := Nat.mul_lt_mul_of_pos_right a1 zc
  have a3 : ((a * s : Nat) : Int) < (((1000000000 ^ (K + 1) * b) * s : Nat) : Int) := Int.ofNat_lt.2 a2
  have a4 : ((((1000000000 ^ (K + 1) * b) * s : Nat)) : Int) = 1000000000 ^ (K + 1) * V 1000000000 v := by
   rw [hvV, wE, yq, we]; rfl
  rw [a4] at a3
  have a5 : 1000000000 ^ (K + 1) * V 1000000000 (u0.drop (K + 1)) < 1000000000 ^ (K + 1) * V 1000000000 v := zc
  exact yU a5 (xf (yK zc))
 refine aaO (fun i : Int × List Int × List Int × Unit => ∃ k : Nat, k ≤ K + 1 ∧ i.1 = (k : Int) - 1 ∧ i.2.1.length = K + 1 ∧ Dg 1000000000 i.2.1 ∧ (∀ p, p < k → i.2.1.getD p 0 = 0) ∧ i.2.2.1.length = (mag a).length + 1 ∧ Dg 1000000000 i.2.2.1 ∧ V 1000000000 (i.2.2.1.drop k) < V 1000000000 v ∧ ((a * s : Nat) : Int) = V 1000000000 i.2.1 * V 1000000000 v + V 1000000000 i.2.2.1) (fun i => (i.1 + 1).toNat) (fun _ => (mag (a / b), mag (a % b), ())) ?_ _ ⟨K + 1, zq _, by dsimp only; omega, by simp, agH zc _, fun p _ => by simp [yd, List.getElem?_replicate]; split <;> rfl, hu0l, hu0d, hdrop0, by rw [as2, hu0V]; omega⟩
 rintro ⟨i, q, u, u6⟩ ⟨k, g1, g2, g3, g4, g5, g6, g7, g8, g9⟩
 dsimp only at g2 g3 g4 g5 g6 g7 g8 g9
 subst g2
 cases k with
 | zero =>
  right
  rw [yQ] at g8
  obtain ⟨x, hx⟩ := zv (aaT zc g4)
  obtain ⟨r, hr⟩ := zv (aaT zc g7)
  rw [hx, hr, hvV] at g9
  rw [hr, hvV] at g8
  have h8 : a * s = x * (b * s) + r := by
   have : ((a * s : Nat) : Int) = ((x * (b * s) + r : Nat) : Int) := by rw [g9]; simp
   exact Int.ofNat.inj this
  have h9 : x = a / b := by
   have : a * s / (b * s) = x := by rw [h8, xe, wP _ _ hvpos, xd zc, zw]
   rw [← this, Nat.mul_div_mul_right _ _ zc]
  have h10 : r = (a % b) * s := by
   have : a * s % (b * s) = r := by rw [h8, xe, wh, yG zc]
   rw [← this, Nat.mul_mod_mul_right]
  have hrl : (mag r).length ≤ n + 2 := by rw [← lv, ← hv]; exact abR zc
  have hVtake : V 1000000000 (u.take (n + 2)) = r := by
   have e1 := ab9 1000000000 u (n + 2)
   have e2 := aaT zc (ab8 g7 (n + 2))
   have e3 := aaT zc (acM g7 (n + 2))
   have e4 : V 1000000000 u < 1000000000 ^ (n + 2) := by
    have := aKz zc hvd
    rw [lv] at this
    omega
   have e5 : V 1000000000 (u.drop (n + 2)) < 1 := by
    have : 1000000000 ^ (n + 2) * V 1000000000 (u.drop (n + 2)) < 1000000000 ^ (n + 2) * 1 := zc
    exact yU this (xf (yK zc))
   have e6 : V 1000000000 (u.drop (n + 2)) = 0 := zc
   rw [e6, wB] at e1
   omega
  have wlv : len v = ((n + 2 : Nat) : Int) := by rw [aaC, lv]
  simp only [aiF, w1, hg, wt, ws, w2, w3, w4, wlv, zp]
  have wkk : w64 (w64 (len (mag a) - ((n + 2 : Nat) : Int)) + 1) = ((K + 1 : Nat) : Int) := by rw [← wlv, w3, w4]
  simp only [wkk, zp]
  refine uF sd (uN ⟨by omega, by omega⟩ ?_)
  have htr : ∀ (l : List Int) (z : Nat), Dg 1000000000 l → l.length ≤ 2000000000000 → V 1000000000 l = z → acG (l, ()) = some (mag z, ()) := by
   intro l z h1 h2 h3
   unfold acG
   rw [if_pos ⟨h1, h2⟩]
   simp only [h3, zp]
  refine uC _ (htr _ r (ab8 g7 _) (by rw [yp]; omega) hVtake) ?_
  refine uC _ (hshort r s zc zc zc) ?_
  have htq : List.take (K + 1) q = q := zz zc
  rw [htq]
  refine uC _ (htr q x g4 zc hx) ?_
  rw [aaK, h9, h10, wI _ zc]
 | succ j =>
  left
  have e6 : ((j + 1 : Nat) : Int) - 1 = (j : Int) := zc
  rw [e6]
  have wlv : len v = ((n + 2 : Nat) : Int) := by rw [aaC, lv]
  have wa : w64 (w64 ((j : Int) + len v) + 1) = ((j + n + 2 + 1 : Nat) : Int) := by rw [wlv, aaA (x := (j : Int) + ((n + 2 : Nat) : Int)) zc, aaA zc]; omega
  have wb : ((((j + n + 2 + 1 : Nat) : Int).toNat - (j : Int).toNat : Nat) : Int) = ((n + 3 : Nat) : Int) := zc
  have wb1 : w64 (len v - 1) = ((n + 1 : Nat) : Int) := by rw [wlv, aaA zc]; omega
  have hvpos' : 0 < V 1000000000 v := by rw [hvV]; omega
  have du := aa4 zc g7 j
  have eU := aaU 1000000000 u j
  have hU0 := aaT zc (acM g7 j)
  have hUB : V 1000000000 (u.drop j) < V 1000000000 v * 1000000000 := zc
  have hvlt : V 1000000000 v < 1000000000 ^ (n + 2) := by have := aKz zc hvd; rwa [lv] at this
  have hz : V 1000000000 (u.drop (j + n + 2 + 1)) = 0 := by
   have e1 := ab9 1000000000 (u.drop (j + 1)) (n + 2)
   rw [yb, show j + 1 + (n + 2) = j + n + 2 + 1 by omega] at e1
   have e2 := aaT zc (ab8 (acM g7 (j + 1)) (n + 2))
   have e3 := aaT zc (acM g7 (j + n + 2 + 1))
   have e5 : V 1000000000 (u.drop (j + n + 2 + 1)) < 1 := by
    have : 1000000000 ^ (n + 2) * V 1000000000 (u.drop (j + n + 2 + 1)) < 1000000000 ^ (n + 2) * 1 := zc
    exact yU this (xf (yK zc))
   omega
  obtain ⟨Q, hQ⟩ : ∃ Q, Q = V 1000000000 (u.drop j) / V 1000000000 v := ⟨_, rfl⟩
  have hdm := ym (V 1000000000 (u.drop j)) (V 1000000000 v)
  have hr0 := yR (V 1000000000 (u.drop j)) (show V 1000000000 v ≠ 0 by omega)
  have hr1 := yC (V 1000000000 (u.drop j)) hvpos'
  have hQ0 : 0 ≤ Q := by rw [hQ]; exact xJ hU0 zc
  rw [← hQ, yN] at hdm
  have hQB : Q < 1000000000 := by
   have : Q * V 1000000000 v < 1000000000 * V 1000000000 v := zc
   exact yi this zc
  obtain ⟨qq, p1, p2, p3, p4⟩ := aMM (mag a) (mag b) (auC a b, ()) (mag (a * s), ()) v q u j n (V 1000000000 (u.drop j)) Q hvd lv zc zc g7 hz rfl hUB zc (by rw [wX]; omega) hQ0 hvtop
  obtain ⟨u', r1, r2, r3, r4, r5⟩ := aML (mag a) (mag b) (auC a b, ()) (mag (a * s), ()) v q u j (n + 2) qq Q hvd lv zc zc g7 ⟨p2, p3⟩ (by rw [w3, w4]; exact ⟨by omega, by omega⟩) hz p1 zc zc hQ0
  have k1 : j ≤ K + 1 := Nat.le_of_succ_le g1
  have k3 : (q.set j Q).length = K + 1 := by rw [xn]; exact g3
  have k4 := aiT g4 ⟨hQ0, hQB⟩ j
  have k6 : u'.length = (mag a).length + 1 := by rw [r2]; exact g6
  have k8 : V 1000000000 (u'.drop j) < V 1000000000 v := by rw [r5]; omega
  have k9 : ((j : Int) - 1 + 1).toNat < ((j : Int) + 1).toNat := zc
  refine ⟨((j : Int) - 1, q.set j Q, u', ()), ?_, ⟨j, k1, rfl, k3, k4, ?_, k6, r3, k8, ?_⟩, k9, ze⟩
  ·exact aMN (mag a) (mag b) (auC a b, ()) (mag (a * s), ()) v q u j n qq _ hvd g7 lv g6 zc zc hvtop p4 r1
  ·intro p hp
   dsimp only
   rw [aoN _ zc]
   exact g5 p zc
  ·dsimp only
   rw [ayK _ zc, g5 j zc, r4, g9]
   grind
theorem aIz (n o : SgT) (y) (h : ayL (n, o, ()) = some y) : (alI n o).toO = some y := by
 obtain ⟨⟨a, b⟩, hp, hx, rfl⟩ := aaD h
 obtain ⟨rfl, hx2⟩ := Prod.mk.inj hx; obtain ⟨rfl, -⟩ := Prod.mk.inj hx2; dsimp only
 obtain ⟨l1, l2⟩ := hp
 simp only at l1 l2
 unfold alI
 dsimp only
 refine uC _ (aCP (aaH l2 zc)) ?_
 refine uC (sg (a + -b), ()) (aP0 l1 (by rw [xN]; exact l2)) ?_
 rw [← Int.sub_eq_add_neg]; rfl
theorem aQw {a b : Int} : a * b = 0 ∨ (!(decide (a < 0) == decide (b < 0))) = decide (a * b < 0) := by
 rcases xm a 0 with ha | ha | ha
 ·rcases xm b 0 with hb | hb | hb
  ·right
   have := wo ha hb
   rw [zo ha, zo hb, zn zc]; rfl
  ·left; rw [hb, wB]
  ·right
   have := wi ha hb
   rw [zo ha, zn zc, zo this]; rfl
 ·left; rw [ha, Int.zero_mul]
 ·rcases xm b 0 with hb | hb | hb
  ·right
   have := wj ha hb
   rw [zn zc, zo hb, zo this]; rfl
  ·left; rw [hb, wB]
  ·right
   have := vB ha hb
   rw [zn zc, zn zc, zn zc]; rfl
theorem azB (n o : SgT) (y) (h : aiL (n, o, ()) = some y) : (alH n o).toO = some y := by
 obtain ⟨⟨a, b⟩, hp, hx, rfl⟩ := aaD h
 obtain ⟨rfl, hx2⟩ := Prod.mk.inj hx; obtain ⟨rfl, -⟩ := Prod.mk.inj hx2; dsimp only
 obtain ⟨l1, l2⟩ := hp
 simp only at l1 l2
 unfold alH
 dsimp only
 refine uC _ (atA (aaH l1 zc) (aaH l2 zc)) ?_
 exact uC (sg (a * b), ()) (aA8 (by rw [yy]) aQw) rfl
def axB (l : List Int) (j : Nat) : Bool := (List.range j).any (fun i => decide (l.getD (i + 1) 0 < l.getD i 0))
def arQ (l : List Int) (j : Nat) : Bool := (List.range j).any (fun i => decide (l.getD (i + 1) 0 > l.getD i 0))
theorem aEB (l : List Int) (j : Nat) : axB l (j + 1) = (axB l j || decide (l.getD (j + 1) 0 < l.getD j 0)) := by
 unfold axB; rw [List.range_succ, List.any_append]; simp
theorem aDm (l : List Int) (j : Nat) : arQ l (j + 1) = (arQ l j || decide (l.getD (j + 1) 0 > l.getD j 0)) := by
 unfold arQ; rw [List.range_succ, List.any_append]; simp
theorem aIR {c : CvT} (h : ab1 c) : c.2.1.length ≤ 17 ∧ (c.1 = 3 → 1 ≤ c.2.2.1.length ∧ c.2.2.1.length ≤ 4) := by
 rcases h with ⟨h1, h2, h3⟩ | ⟨h1, h2, h3⟩ | ⟨h1, h2, h3⟩
 ·rw [h2]; exact ⟨by simp, fun h => by omega⟩
 ·exact ⟨h2.2.1, fun h => by omega⟩
 ·rw [h2]; exact ⟨by simp, fun _ => ⟨h3.1, h3.2.1⟩⟩
theorem aG4 (c : CvT) (y) (h : amJ (c, ()) = some y) : (ax3 c).toO = some y := by
 injection h with h
 subst h
 obtain ⟨kind, tab, l, u0⟩ := c
 unfold ax3
 dsimp only
 refine uC _ (arH (kind, tab, l, ())) ?_
 by_cases hr : ab1 (kind, tab, l, ())
 case neg =>
  have hr' : ¬ ab1 (kind, tab, l, u0) := hr
  rw [if_neg hr']
  rw [if_neg hr]
  exact uT rfl rfl
 have hr' : ab1 (kind, tab, l, u0) := hr
 rw [if_pos hr']
 rw [if_pos hr]
 obtain ⟨hl1, hl2⟩ := aIR hr
 dsimp only at hl1 hl2
 refine uF rfl (uO (1, false, false, ()) rfl ?_)
 refine aaO (fun i : Int × Bool × Bool × Unit => ∃ j : Nat, j ≤ tab.length - 1 ∧ i.1 = (j : Int) + 1 ∧ i.2.1 = axB tab j ∧ i.2.2.1 = arQ tab j) (fun i => ((tab.length : Int) - i.1).toNat) (fun _ => (aK0 (kind, tab, l, u0), 0, ())) ?_ _ ⟨0, by omega, rfl, rfl, rfl⟩
 rintro ⟨i, dn, up, u⟩ ⟨j, h1, h2, h3, h4⟩
 dsimp only at h2 h3 h4
 subst h2
 simp only [aAW]
 have hw1 : w64 ((j : Int) + 1 + 1) = (((j + 1 : Nat) : Int)) + 1 := by rw [aaA zc]; omega
 have hw2 : w64 ((j : Int) + 1 - 1) = (j : Int) := by rw [aaA zc]; omega
 have hj1 : (j : Int) + 1 = ((j + 1 : Nat) : Int) := rfl
 rcases zr (j + 1) tab.length with hk | hk
 ·left
  refine ⟨((((j + 1 : Nat) : Int)) + 1, axB tab (j + 1), arQ tab (j + 1), ()), ?_, ⟨j + 1, by omega, rfl, rfl, rfl⟩, by dsimp only; omega, ze⟩
  refine uT sd ?_
  rw [hw1, hw2, hj1, aEB, aDm, ← h3, ← h4]
  simp only [aaM]
  cases up
  ·refine uF rfl (uN ⟨by exact sn, by exact sn⟩ (uN ⟨by exact sn, by exact sn⟩ ?_))
   cases dn
   ·exact uF rfl (uN ⟨by exact sn, by exact sn⟩ (uN ⟨by exact sn, by exact sn⟩ rfl))
   ·exact uT rfl rfl
  ·refine uT rfl ?_
   cases dn
   ·exact uF rfl (uN ⟨by exact sn, by exact sn⟩ (uN ⟨by exact sn, by exact sn⟩ rfl))
   ·exact uT rfl rfl
 ·right
  refine uF sd ?_
  have hj : j = tab.length - 1 := zc
  subst hj
  have h3' : dn = aQ6 tab := h3
  have h4' : up = arQ tab (tab.length - 1) := h4
  unfold aK0
  dsimp only
  by_cases k3 : kind = 3
  ·obtain ⟨g1, g2⟩ := hl2 k3
   rw [if_pos k3]
   subst k3
   refine uT rfl (uN ⟨by exact sn, by exact sn⟩ ?_)
   have hg : gi l 0 zs = l.getD 0 zs := aaM l 0 zs
   rw [hg]
   by_cases g3 : l.length > 1
   ·have e1 : (!decide (len l > 1)) = false := by rw [zo (by rw [aaC]; omega)]; rfl
    rw [if_pos g3, e1]
    by_cases g4 : (l.getD 0 zs).2.1 < 0
    ·exact uT (zo g4) (uF rfl rfl)
    ·exact uF (zn g4) (uF rfl (uF rfl rfl))
   ·have e1 : (!decide (len l > 1)) = true := by rw [zn (by rw [aaC]; omega)]; rfl
    rw [if_neg g3, e1]
    by_cases g4 : (l.getD 0 zs).2.1 < 0
    ·rw [if_pos g4]; exact uT (zo g4) (uT rfl rfl)
    ·rw [if_neg g4]; exact uF (zn g4) (uT rfl rfl)
  ·rw [if_neg k3]
   have h5 : up = aQy tab := h4'
   refine uF (beq_eq_false_iff_ne.2 k3) ?_
   rw [h3', h5]
   cases aQ6 tab
   ·exact uT rfl rfl
   ·refine uF rfl ?_
    cases aQy tab
    ·exact uT rfl rfl
    ·exact uF rfl rfl
set_option maxRecDepth 100000
open Go Go.Vg Go.Proofs
noncomputable section
def aFL : LTab := [(126, 26, 2048, ⟨0, (Int) × Unit, .dat (.s 5) uk <| .nil, [0, 1], [], 0⟩)]
def atK (a : Int) (b : Int) (i : (Int) × Unit) : TT sh :=
 .ite (decide (i.1 ≤ a))
 (.ite (decide (i.1 ≤ b))
 (.need (i.1 ≠ 0) <| .ite (Int.tmod a i.1 == 0)
 (.need (i.1 ≠ 0) <| .ite (Int.tmod b i.1 == 0)
 (.ok (.inr ((true, ()))))
 (.tt <| .lt (w64 (i.1 + 1) : Int) fun z => .vT (vW z a b) <| .tr <| .ok (.inl ((z, ())))))
 (.tt <| .lt (w64 (i.1 + 1) : Int) fun z1 => .vT (vW z1 a b) <| .tr <| .ok (.inl ((z1, ())))))
 (.ok (.inr ((false, ())))))
 (.ok (.inr ((false, ()))))
def aoC (a : Int) (b : Int) : TT uI :=
 .loop 0 (.tt <| .vT (vW (2 : Int) a b) <| .tr <| .ok ((2, ()))) (atK a b)
end
theorem aBH (a b : Int) (y) (h : abM (a, b, ()) = some y) : (aoC a b).toO = some y := by
 unfold abM at h
 split at h
 case isFalse => cases h
 case isTrue hp =>
 injection h with h
 subst h
 obtain ⟨⟨a1, a2⟩, b1, b2⟩ := hp
 dsimp only at a1 a2 b1 b2 ⊢
 obtain ⟨m, rfl⟩ := zv (show 0 ≤ a by omega)
 obtain ⟨n, rfl⟩ := zv (show 0 ≤ b by omega)
 unfold aoC
 refine uO (2, ()) rfl ?_
 refine aaO (fun i : Int × Unit => ∃ k : Nat, 2 ≤ k ∧ k ≤ 50 ∧ i.1 = (k : Int) ∧ ∀ j, 2 ≤ j → j < k → ¬ (j ∣ m ∧ j ∣ n)) (fun i => ((60 : Int) - i.1).toNat) (fun _ => (!decide (Nat.gcd (m : Int).natAbs (n : Int).natAbs = 1), ())) ?_ _ ⟨2, by omega, by omega, rfl, fun j h1 h2 => by omega⟩
 rintro ⟨i, u⟩ ⟨k, h1, h1', h2, h3⟩
 dsimp only at h2
 subst h2
 simp only [atK, zM]
 have hstop : ¬ (k ≤ m ∧ k ≤ n) → (!decide (Nat.gcd m n = 1)) = false := by
  intro hk
  refine (fun hg : Nat.gcd m n = 1 => by rw [zo hg]; rfl) ?_
  have g1 : 0 < Nat.gcd m n := Nat.gcd_pos_of_pos_left _ zc
  have g2 := xO m n
  have g3 := xL m n
  have g4 := Nat.le_of_dvd zc g2
  have g5 := Nat.le_of_dvd zc g3
  rcases zr 1 (Nat.gcd m n) with g6 | g6
  ·exact absurd ⟨g2, g3⟩ (h3 _ zc zc)
  ·omega
 have hdiv : ∀ z : Nat, ((Int.tmod (z : Int) (k : Int)) == 0) = decide (k ∣ z) := by
  intro z
  rw [← Int.ofNat_tmod]
  by_cases c : k ∣ z
  ·rw [zo c, Nat.mod_eq_zero_of_dvd c]; rfl
  ·rw [zn c, beq_eq_false_iff_ne]
   intro h
   exact c (Nat.dvd_of_mod_eq_zero zc)
 by_cases c1 : k ≤ m
 ·by_cases c2 : k ≤ n
  ·by_cases d1 : k ∣ m
   ·by_cases d2 : k ∣ n
    ·right
     rw [zn (fun h : Nat.gcd m n = 1 => by have := Nat.dvd_gcd d1 d2; rw [h] at this; have := Nat.le_of_dvd zc this; omega)]
     exact uT sd (uT sd (uN zc (uT (by rw [hdiv]; exact zo d1) (uN zc (uT (by rw [hdiv]; exact zo d2) rfl)))))
    ·left
     refine ⟨(((k + 1 : Nat) : Int), ()), ?_, ⟨k + 1, by omega, by omega, rfl, fun j j1 j2 => ?_⟩, by dsimp only; omega, ze⟩
     ·refine uT sd (uT sd (uN zc (uT (by rw [hdiv]; exact zo d1) (uN zc (uF (by rw [hdiv]; exact zn d2) ?_)))))
      rw [aaA (x := (k : Int) + 1) zc]; rfl
     ·rcases zr j k with hj | hj
      ·exact h3 j j1 hj
      ·obtain rfl : j = k := zc
       exact fun h => d2 h.2
   ·left
    refine ⟨(((k + 1 : Nat) : Int), ()), ?_, ⟨k + 1, by omega, by omega, rfl, fun j j1 j2 => ?_⟩, by dsimp only; omega, ze⟩
    ·refine uT sd (uT sd (uN zc (uF (by rw [hdiv]; exact zn d1) ?_)))
     rw [aaA (x := (k : Int) + 1) zc]; rfl
    ·rcases zr j k with hj | hj
     ·exact h3 j j1 hj
     ·obtain rfl : j = k := zc
      exact fun h => d1 h.1
  ·right
   rw [hstop (fun h => c2 h.2)]
   exact uT sd (uF sd rfl)
 ·right
  rw [hstop (fun h => c1 h.1)]
  exact uF sd rfl
theorem aRu {n : Int} {d : Nat} (hn : aa8 n) (hd : d ≠ 0) (h2 : d ≤ 9223372036854775807) : aRt (n, (d : Int), ()) = some (fx (mkRat n d), ()) := afN hn hd h2
set_option maxRecDepth 100000
open Go Go.Vg Go.Proofs
noncomputable section
def aNj : LTab := []
def axM (p : uj × Int × Bool × Unit) (x : List UInt8 × List UInt8 × Unit) : TT uH :=
 .call (aaF (p.1.2.1, ())) ae4 fun y =>
 .call (aeD (y.1, (x.1, x.2.1, ()), ())) afR fun y1 =>
 .ite (y1.2.1 != 0)
 (.ok (((#[].toList, #[].toList, ()), y1.2.1, ())))
 (.call (aaF (p.1.2.2.1, ())) ae4 fun y2 =>
 .call (adU ((y1.1.1, y1.1.2.1, ()), y2.1, ())) afR fun y3 =>
 .ite (y3.2.1 != 0)
 (.ok (((#[].toList, #[].toList, ()), y3.2.1, ())))
 (.call (aaF (1000000, ())) ae4 fun y4 =>
 .call (afL ((y3.1.1, y3.1.2.1, ()), y4.1, ())) afR fun y5 =>
 .ok (((y5.1.1, y5.1.2.1, ()), y5.2.1, ()))))
def aCD : LTab := []
def aqJ (c : um × Unit) (x : List UInt8 × List UInt8 × Unit) : TT uH :=
 .ok (((x.1, x.2.1, ()), 0, ()))
def aEU : LTab := [(47, 27, 5120, ⟨0, (Int) × (Int) × (Int) × (Int) × (Int) × (Int) × (Int) × (Bool) × Unit, .dat (.c 4 0) uk <| .dat (.c 4 1) uk <| .dat (.c 4 2) uk <| .dat (.c 4 3) uk <| .dat (.c 4 4) uk <| .dat (.c 4 5) uk <| .dat (.c 4 6) uk <| .dat (.c 4 7) tU <| .nil, [6, 5, 4, 3], [4, 2, 1, 0], 0⟩), (128, 14, 17408, ⟨1, (Int) × (Int) × (Int) × (Int) × (Int) × (Int) × (Int) × (Int) × (Int) × (Bool) × Unit, .dat (.s 9) uk <| .dat (.s 3) uk <| .dat (.c 4 0) uk <| .dat (.c 4 1) uk <| .dat (.c 4 2) uk <| .dat (.c 4 3) uk <| .dat (.c 4 4) uk <| .dat (.c 4 5) uk <| .dat (.c 4 6) uk <| .dat (.c 4 7) tU <| .nil, [8, 7, 0], [11, 7, 4, 2, 1, 0], 0⟩), (47, 447, 19456, ⟨2, (List UInt8) × (List UInt8) × Unit, .dat (.c 15 0) (Ty.str) <| .dat (.c 15 1) (Ty.str) <| .nil, [10, 6, 5, 4], [15, 4, 2, 1, 0], 0⟩), (47, 28666, 28672, ⟨3, (Int) × (List UInt8) × (List UInt8) × Unit, .dat (.s 62) uk <| .dat (.c 20 0) (Ty.str) <| .dat (.c 20 1) (Ty.str) <| .nil, [61, 15, 14, 6, 4], [20, 15, 4, 2, 1, 0], 0⟩)]
def aqM (c : um × Unit) (x : List UInt8 × List UInt8 × Unit) (i : (Int) × (Int) × (Int) × (Int) × (Int) × (Int) × (Int) × (Int) × (Int) × (Bool) × Unit) : TT (((Int) × (Int) × (Int) × (Int) × (Int) × (Int) × (Int) × (Int) × (Int) × (Bool) × Unit) ⊕ (((Int) × (Int) × (Int) × (Int) × (Int) × (Int) × (Int) × (Bool) × Unit) ⊕ uH)) :=
 .ite (decide (i.1 < len c.1.2.2.1))
 (.need (inb i.1 (len c.1.2.2.1)) <| .call (ab0 ((gi c.1.2.2.1 i.1 (0, 0, 0, 0, 0, 0, ())).1, 1000000, ())) ae4 fun y =>
 .call (ah4 ((x.1, x.2.1, ()), y.1, ())) aFj fun y1 =>
 .ite (decide (y1.1 ≤ 0))
 (.tt <| .lt ((gi c.1.2.2.1 i.1 (0, 0, 0, 0, 0, 0, ())).1 : Int) fun z => .lt ((gi c.1.2.2.1 i.1 (0, 0, 0, 0, 0, 0, ())).2.1 : Int) fun z1 => .lt ((gi c.1.2.2.1 i.1 (0, 0, 0, 0, 0, 0, ())).2.2.1 : Int) fun z2 => .lt ((gi c.1.2.2.1 i.1 (0, 0, 0, 0, 0, 0, ())).2.2.2.1 : Int) fun z3 => .lt ((gi c.1.2.2.1 i.1 (0, 0, 0, 0, 0, 0, ())).2.2.2.2.1 : Int) fun z4 => .lt ((gi c.1.2.2.1 i.1 (0, 0, 0, 0, 0, 0, ())).2.2.2.2.2.1 : Int) fun z5 => .lt (i.2.1 : Int) fun z6 => .lt (i.1 == 0 : Bool) fun z7 => .vT (tb ∧ (vU (0 : Int) <| uQ ∧ uy ∧ True)) <| .vT (vS (ud 122 z z1 z2 z3 z4 z5 z6 <| uc z7) <| vS (vW 36 (#[].toList : List UInt8) (#[].toList : List UInt8)) <| vS (vW 36 x.1 x.2.1) <| vS (vV 96 c.1.1 c.1.2.1 c.1.2.2.1) True) <| .ok (.inr (.inl ((z, z1, z2, z3, z4, z5, z6, z7, ())))))
 (.tt <| .lt (w64 (i.1 + 1) : Int) fun z8 => .lt ((gi c.1.2.2.1 i.1 (0, 0, 0, 0, 0, 0, ())).1 : Int) fun z9 => .lt ((gi c.1.2.2.1 i.1 (0, 0, 0, 0, 0, 0, ())).2.1 : Int) fun z10 => .lt ((gi c.1.2.2.1 i.1 (0, 0, 0, 0, 0, 0, ())).2.2.1 : Int) fun z11 => .lt ((gi c.1.2.2.1 i.1 (0, 0, 0, 0, 0, 0, ())).2.2.2.1 : Int) fun z12 => .lt ((gi c.1.2.2.1 i.1 (0, 0, 0, 0, 0, 0, ())).2.2.2.2.1 : Int) fun z13 => .lt ((gi c.1.2.2.1 i.1 (0, 0, 0, 0, 0, 0, ())).2.2.2.2.2.1 : Int) fun z14 => .lt (i.2.1 : Int) fun z15 => .lt (i.1 == 0 : Bool) fun z16 => .vT (ub z9 z8 (len c.1.2.2.1) c.1.2.2.1 <| tG ∧ True) <| .vT (vS (ui (LoopState.ready : LoopState) (none : Option Code) 86 (#[20] : Array Tmp) (alE (acN Tryz.f47) [1, 0, 1, 1, 0, 1, 0, 0]) (alE (acN Tryz.f47) [1, 0, 1, 1, 0, 1, 0, 1]) <| (vU (128 : FuncId) <| True ∧ tJ ∧ True) ∧ (vU ((c.1.1, c.1.2.1, c.1.2.2.1, ()) : Int × List Int × List uj × Unit) <| uq ∧ (tb ∧ (vU (0 : Int) <| uQ ∧ uy ∧ uq ∧ uf c x)))) <| vS (vV 42 c.1.1 c.1.2.1 c.1.2.2.1) <| vS (ud 122 z9 z10 z11 z12 z13 z14 z15 <| uc z16) <| vS (vW 36 (#[].toList : List UInt8) (#[].toList : List UInt8)) <| vS (vW 36 x.1 x.2.1) <| vS (vV 96 c.1.1 c.1.2.1 c.1.2.2.1) True) <| .ok (.inl ((z8, z9, z9, z10, z11, z12, z13, z14, z15, z16, ())))))
 (.tt <| .lt (i.2.2.1 : Int) fun z17 => .lt (i.2.2.2.1 : Int) fun z18 => .lt (i.2.2.2.2.1 : Int) fun z19 => .lt (i.2.2.2.2.2.1 : Int) fun z20 => .lt (i.2.2.2.2.2.2.1 : Int) fun z21 => .lt (i.2.2.2.2.2.2.2.1 : Int) fun z22 => .lt (i.2.2.2.2.2.2.2.2.1 : Int) fun z23 => .lt (i.2.2.2.2.2.2.2.2.2.1 : Bool) fun z24 => .vT (tb ∧ (vU (0 : Int) <| uQ ∧ uy ∧ True)) <| .vT (vS (ud 122 z17 z18 z19 z20 z21 z22 z23 <| uc z24) <| vS (vW 36 (#[].toList : List UInt8) (#[].toList : List UInt8)) <| vS (vW 36 x.1 x.2.1) <| vS (vV 96 c.1.1 c.1.2.1 c.1.2.2.1) True) <| .ok (.inr (.inl ((z17, z18, z19, z20, z21, z22, z23, z24, ())))))
def akU (c : um × Unit) (x : List UInt8 × List UInt8 × Unit) (j : Int × Int × Int × Int × Int × Int × Int × Bool × Unit) (y2 : ul × Int × Unit) (j1 : List UInt8 × List UInt8 × Unit) (i1 : (Int) × (List UInt8) × (List UInt8) × Unit) : TT (((Int) × (List UInt8) × (List UInt8) × Unit) ⊕ uH) :=
 .ite (decide (i1.1 < w64 (j.2.2.2.1 - 1)))
 (.tt <| .tt <| .call (aeD ((i1.2.1, i1.2.2.1, ()), (j1.1, j1.2.1, ()), ())) afR fun y5 =>
 .ite (y5.2.1 != 0)
 (.ok (.inr (((#[].toList, #[].toList, ()), y5.2.1, ()))))
 (.tt <| .lt (w64 (i1.1 + 1) : Int) fun z30 => .lt (y5.1.1 : List UInt8) fun z31 => .lt (y5.1.2.1 : List UInt8) fun z32 => .vT (ua z30 (w64 (j.2.2.2.1 - 1)) <| (vU (103 : FuncId) <| True ∧ (uh 20 0 true) ∧ (uh 15 0 true) ∧ True) ∧ (uh 20 0 true) ∧ tb ∧ uQ ∧ True) <| .vT (vS (vW 36 z31 z32) <| vS (vW 36 j1.1 j1.2.1) <| vS (ud 122 j.1 j.2.1 j.2.2.1 j.2.2.2.1 j.2.2.2.2.1 j.2.2.2.2.2.1 j.2.2.2.2.2.2.1 <| uc j.2.2.2.2.2.2.2.1) <| vS (vW 36 (#[].toList : List UInt8) (#[].toList : List UInt8)) <| vS (vW 36 x.1 x.2.1) <| vS (vV 96 c.1.1 c.1.2.1 c.1.2.2.1) True) <| .ok (.inl ((z30, z31, z32, ())))))
 (.call (ab0 (j.2.2.2.2.2.1, 1000000, ())) ae4 fun y6 =>
 .call (adU ((i1.2.1, i1.2.2.1, ()), y6.1, ())) afR fun y7 =>
 .ite (y7.2.1 != 0)
 (.ok (.inr (((#[].toList, #[].toList, ()), y7.2.1, ()))))
 (.call (ac1 ((y7.1.1, y7.1.2.1, ()), ())) ae4 fun y8 =>
 .ok (.inr (((y8.1.1, y8.1.2.1, ()), 0, ())))))
def aqK (c : um × Unit) (x : List UInt8 × List UInt8 × Unit) (j : Int × Int × Int × Int × Int × Int × Int × Bool × Unit) (y2 : ul × Int × Unit) (j1 : (List UInt8) × (List UInt8) × Unit) : TT uH :=
 .loop 3 (.tt <| .lt (j1.2.1 : List UInt8) fun z29 => .vT (ua (0 : Int) (w64 (j.2.2.2.1 - 1)) <| (vU (103 : FuncId) <| True ∧ (uh 20 0 true) ∧ (uh 15 0 true) ∧ True) ∧ (uh 20 0 true) ∧ tb ∧ uQ ∧ True) <| .vT (vS (vW 36 j1.1 z29) <| vS (vW 36 j1.1 z29) <| vS (ud 122 j.1 j.2.1 j.2.2.1 j.2.2.2.1 j.2.2.2.2.1 j.2.2.2.2.2.1 j.2.2.2.2.2.2.1 <| uc j.2.2.2.2.2.2.2.1) <| vS (vW 36 (#[].toList : List UInt8) (#[].toList : List UInt8)) <| vS (vW 36 x.1 x.2.1) <| vS (vV 96 c.1.1 c.1.2.1 c.1.2.2.1) True) <| .ok ((0, j1.1, z29, ()))) (akU c x j y2 j1)
def aqL (c : um × Unit) (x : List UInt8 × List UInt8 × Unit) (j : (Int) × (Int) × (Int) × (Int) × (Int) × (Int) × (Int) × (Bool) × Unit) : TT uH :=
 .ite (j.2.2.2.2.1 != 1)
 (.ok (((#[].toList, #[].toList, ()), 5, ())))
 (.call (aj4 (((j.1, j.2.1, j.2.2.1, j.2.2.2.1, j.2.2.2.2.1, j.2.2.2.2.2.1, ()), j.2.2.2.2.2.2.1, j.2.2.2.2.2.2.2.1, ()), (x.1, x.2.1, ()), ())) afR fun y2 =>
 .ite (y2.2.1 != 0)
 (.ok (((#[].toList, #[].toList, ()), y2.2.1, ())))
 (.join 2 (ι := (List UInt8) × (List UInt8) × Unit) (.call (aq6 ((y2.1.1, y2.1.2.1, ()), ())) aFj fun y3 =>
 .ite (decide (y3.1 < 0))
 (.call (aaF (0, ())) ae4 fun y4 =>
 .tt <| .lt (y4.1.1 : List UInt8) fun z25 => .lt (y4.1.2.1 : List UInt8) fun z26 => .vT tR <| .vT (vS (vW 36 z25 z26) <| vS (ud 122 j.1 j.2.1 j.2.2.1 j.2.2.2.1 j.2.2.2.2.1 j.2.2.2.2.2.1 j.2.2.2.2.2.2.1 <| uc j.2.2.2.2.2.2.2.1) <| vS (vW 36 (#[].toList : List UInt8) (#[].toList : List UInt8)) <| vS (vW 36 x.1 x.2.1) <| vS (vV 96 c.1.1 c.1.2.1 c.1.2.2.1) True) <| .ok (.inl ((z25, z26, ()))))
 (.tt <| .lt (y2.1.1 : List UInt8) fun z27 => .lt (y2.1.2.1 : List UInt8) fun z28 => .vT tR <| .vT (vS (vW 36 z27 z28) <| vS (ud 122 j.1 j.2.1 j.2.2.1 j.2.2.2.1 j.2.2.2.2.1 j.2.2.2.2.2.1 j.2.2.2.2.2.2.1 <| uc j.2.2.2.2.2.2.2.1) <| vS (vW 36 (#[].toList : List UInt8) (#[].toList : List UInt8)) <| vS (vW 36 x.1 x.2.1) <| vS (vV 96 c.1.1 c.1.2.1 c.1.2.2.1) True) <| .ok (.inl ((z27, z28, ()))))) (aqK c x j y2)))
def al7 (c : um × Unit) (x : List UInt8 × List UInt8 × Unit) : TT uH :=
 .join 0 (ι := (Int) × (Int) × (Int) × (Int) × (Int) × (Int) × (Int) × (Bool) × Unit) (.tt <| .tt <| .tt <| .tt <| .loop 1 (.tt <| .vT (ub (0 : Int) (0 : Int) (len c.1.2.2.1) c.1.2.2.1 <| tG ∧ True) <| .vT (vS (ui (LoopState.ready : LoopState) (none : Option Code) 86 (#[20] : Array Tmp) (alE (acN Tryz.f47) [1, 0, 1, 1, 0, 1, 0, 0]) (alE (acN Tryz.f47) [1, 0, 1, 1, 0, 1, 0, 1]) <| (vU (128 : FuncId) <| True ∧ tJ ∧ True) ∧ (vU ((c.1.1, c.1.2.1, c.1.2.2.1, ()) : Int × List Int × List uj × Unit) <| uq ∧ (tb ∧ (vU (0 : Int) <| uQ ∧ uy ∧ uq ∧ uf c x)))) <| vS (vV 42 c.1.1 c.1.2.1 c.1.2.2.1) <| vS (ud 122 (0 : Int) (0 : Int) (0 : Int) (0 : Int) (0 : Int) (0 : Int) (0 : Int) <| uc false) <| vS (vW 36 (#[].toList : List UInt8) (#[].toList : List UInt8)) <| vS (vW 36 x.1 x.2.1) <| vS (vV 96 c.1.1 c.1.2.1 c.1.2.2.1) True) <| .ok ((0, 0, 0, 0, 0, 0, 0, 0, 0, false, ()))) (aqM c x)) (aqL c x)
def aPU : LTab := []
def aCH (c : Int × List Int × List uj × Unit) (x : List UInt8 × List UInt8 × Unit) : TT uH :=
 .call (afM ((c.1, c.2.1, c.2.2.1, ()), ())) Dd6 fun y =>
 .ite (y.1 != 0)
 (.ok (((#[].toList, #[].toList, ()), y.1, ())))
 (.call (aq8 ((x.1, x.2.1, ()), ())) Dd6 fun y1 =>
 .ite (y1.1 != 0)
 (.ok (((#[].toList, #[].toList, ()), y1.1, ())))
 (.need (inb (w64 (c.1 - 1)) (↑3 : Int)) <| .ite (w64 (c.1 - 1) == (↑2 : Int))
 (.call (ac1 ((x.1, x.2.1, ()), ())) ae4 fun y2 =>
 .call (aiP (((c.1, c.2.1, c.2.2.1, ()), ()), y2.1, ())) afR fun y3 =>
 .ok (((y3.1.1, y3.1.2.1, ()), y3.2.1, ())))
 (.ite (w64 (c.1 - 1) == (↑1 : Int))
 (.call (ac1 ((x.1, x.2.1, ()), ())) ae4 fun y4 =>
 .call (af7 (((c.1, c.2.1, c.2.2.1, ()), ()), y4.1, ())) afR fun y5 =>
 .ok (((y5.1.1, y5.1.2.1, ()), y5.2.1, ())))
 (.ite (w64 (c.1 - 1) == (↑0 : Int))
 (.call (ac1 ((x.1, x.2.1, ()), ())) ae4 fun y6 =>
 .call (ag5 (((c.1, c.2.1, c.2.2.1, ()), ()), y6.1, ())) afR fun y7 =>
 .ok (((y7.1.1, y7.1.2.1, ()), y7.2.1, ())))
 (.bad)))))
end
theorem aRE {q : Rat} (h : adK q) : shF (fx q) := by
 obtain ⟨h1, h2⟩ := h
 unfold Fit at h1 h2
 refine ⟨?_, ?_⟩
 ·show (dec q.num).length ≤ 1000000000000
  have := aqH q.num
  omega
 ·show (dec (q.den : Int)).length ≤ 1000000000000
  have := aqH (q.den : Int)
  omega
theorem auV (q : Rat) : wrF q = ay9 (acI q) := by
 unfold wrF acI
 by_cases c : adK q
 ·rw [if_pos c, if_pos c]; rfl
 ·rw [if_neg c, if_neg c]; rfl
theorem ae6 {q p : Rat} (h : acI q = some p) : adK p ∧ p = q := by
 unfold acI at h
 split at h
 ·injection h with h; subst h; exact ⟨by assumption, rfl⟩
 ·cases h
theorem arG {p q : Rat} (h1 : adK p) (h2 : adK q) : aeD (fx p, fx q, ()) = some (ay9 (acI (p * q))) := by
 unfold aeD aOf; dsimp only; rw [ae7 h1, ae7 h2, ← auV]
theorem aCV {p q : Rat} (h1 : adK p) (h2 : adK q) : adU (fx p, fx q, ()) = some (ay9 (acI (p + q))) := by
 unfold adU aOf; dsimp only; rw [ae7 h1, ae7 h2, ← auV]
theorem aP3 {p q : Rat} (h1 : adK p) (h2 : adK q) : af5 (fx p, fx q, ()) = some (ay9 (acI (p - q))) := by
 unfold af5 aOf; dsimp only; rw [ae7 h1, ae7 h2, ← auV]
theorem aIu {p q : Rat} (h1 : adK p) (h2 : adK q) (h3 : q ≠ 0) : afL (fx p, fx q, ()) = some (ay9 (acI (p / q))) := by
 unfold afL; dsimp only; rw [ae7 h1, ae7 h2]; dsimp only; rw [if_neg h3, ← auV]
theorem aHX {n : Int} (h : n ≠ 0) : mkRat n 1 ≠ 0 := by
 rw [aeE]; intro e; exact h (Rat.intCast_eq_zero_iff.1 e)
theorem aoK {n a b : Int} (h : inR n a b) (h1 : -9223372036854775808 ≤ a) (h2 : b ≤ 9223372036854775807) : aa8 n := ⟨by have := h.1; omega, by have := h.2; omega⟩
theorem aGY (p : PcT) (x : FxT) (y) (h : aj4 (p, x, ()) = some y) : (axM p x).toO = some y := by
 obtain ⟨⟨p', q⟩, ⟨hq, hn⟩, hx, rfl⟩ := aaD h
 obtain ⟨rfl, hx2⟩ := Prod.mk.inj hx; obtain ⟨rfl, -⟩ := Prod.mk.inj hx2; dsimp only
 dsimp only at hq hn
 have im := aoK hn.1 zc zc
 have ia := aoK hn.2.1 zc zc
 have i6 : aa8 1000000 := ⟨by omega, by omega⟩
 unfold axM
 unfold aB3
 refine uC _ (ab7 im) (uC _ (arG (ad2 im) hq) ?_)
 cases h1 : acI (mkRat p.1.2.1 1 * q) with
 | none => exact uT rfl rfl
 | some u =>
  have hu := (ae6 h1).1
  refine uF rfl (uC _ (ab7 ia) (uC _ (aCV hu (ad2 ia)) ?_))
  simp only [zX]
  cases h2 : acI (u + mkRat p.1.2.2.1 1) with
  | none => exact uT rfl rfl
  | some v =>
   have hv := (ae6 h2).1
   exact uF rfl (uC _ (ab7 i6) (uC _ (aIu hv (ad2 i6) (aHX zc)) rfl))
theorem aEz : adK 0 := by have := ad2 (n := 0) ⟨by omega, by omega⟩; rwa [aeE] at this
theorem aSP : mkRat 0 1 = (0 : Rat) := by rw [aeE]; rfl
theorem aOS {u : Rat} (h : adK u) : adK (aDL u) := by
 unfold aDL; split
 ·exact aEz
 ·exact h
theorem am8 {n : Int} (h : aa8 n) : adK (mkRat n 1000000) := ad8 zc (abJ h) (abJ ⟨by omega, by omega⟩)
theorem atJ (u : Rat) : u.num.sign < 0 ↔ u < 0 := by
 have e : u < 0 ↔ u.num < 0 := by rw [← vO, ← Rat.num_nonneg]; omega
 rw [e]
 constructor
 ·intro h
  rcases xm u.num 0 with g | g | g
  ·exact g
  ·rw [g] at h; exact absurd h zf
  ·rw [xw g] at h; omega
 ·intro h; rw [xg h]; omega
noncomputable def aRy (off : Int) (y : Rat) : Option Rat := (acI (y + mkRat off 1000000)).map abU
theorem aoA : ∀ (l : List adJ) (last : Int), ahE last l → last ≠ 1000000 → ∃ s ∈ l, s.1 = 1000000
 | [], _, h, hn => absurd h hn
 | s :: r, last, h, _ => by
  by_cases c : s.1 = 1000000
  ·exact ⟨s, zT .., c⟩
  ·obtain ⟨t, ht, e⟩ := aoA r s.1 h.2 c
   exact ⟨t, zF _ ht, e⟩
theorem aMm : mkRat 1000000 1000000 = (1 : Rat) := zf
theorem aHL {x : Rat} {l : List adJ} (h : ac0 l) (hx : x ≤ 1) : ae2 x l < l.length := by
 obtain ⟨s, hs, e⟩ := aoA l 0 h.2.2 zc
 exact List.findIdx_lt_length_of_exists ⟨s, hs, zo (by rw [e, aMm]; exact hx)⟩
theorem arP : ∀ (l : List adJ) (last : Int), 0 ≤ last → ahE last l → ∀ s ∈ l, agX s ∧ inR s.1 0 1000000
 | [], _, _, _, s, hs => by cases hs
 | t :: r, last, h0, h, s, hs => by
  have a := h.1.2.1
  rcases zx.1 hs with e | e
  ·subst e; exact ⟨h.1.1, by omega, h.1.2.2⟩
  ·exact arP r t.1 zc h.2 s e
theorem asW (c : CvT × Unit) (x : FxT) (j : Int × Int × Int × Int × Int × Int × Int × Bool × Unit) (y2 : FxT × Int × Unit) (u : Rat) (hu : adK u) (h1 : inR j.2.2.2.1 1 36) (io : aa8 j.2.2.2.2.2.1) :
  ac6 (fun i1 => (akU c x j y2 (fx u) i1).toO) (0, dec u.num, aa3 u.den, ()) = some (ay9 ((adC u (j.2.2.2.1 - 1).toNat u).bind (aRy j.2.2.2.2.2.1))) := by
 obtain ⟨n, hn⟩ : ∃ n : Nat, j.2.2.2.1 - 1 = (n : Int) := zv (by have := h1.1; omega)
 have hn2 : n ≤ 35 := by have := h1.2; omega
 have hw : w64 (j.2.2.2.1 - 1) = (n : Int) := by rw [aaA zc]; exact hn
 rw [hn, zp]
 refine aaO (fun i : Int × List UInt8 × List UInt8 × Unit => ∃ (k : Nat) (q : Rat), k ≤ n ∧ i = ((k : Int), dec q.num, aa3 q.den, ()) ∧ adK q ∧ adC u n u = adC u (n - k) q) (fun i => ((n : Int) - i.1).toNat) (fun _ => ay9 ((adC u n u).bind (aRy j.2.2.2.2.2.1))) ?_ _ ⟨0, u, by omega, rfl, hu, rfl⟩
 rintro i ⟨k, q, k1, rfl, hq, k2⟩
 simp only [akU, hw]
 rcases zr k n with hk | hk
 ·obtain ⟨m, hm⟩ : ∃ m, n - k = m + 1 := ⟨n - k - 1, by omega⟩
  rw [hm, show adC u (m + 1) q = (acI (q * u)).bind (adC u m) from rfl] at k2
  cases h2 : acI (q * u) with
  | none =>
   right
   rw [h2] at k2
   rw [k2]
   exact uT sd (uC _ (arG hq hu) (by rw [h2]; exact uT rfl rfl))
  | some w =>
   left
   rw [h2] at k2
   refine ⟨(((k + 1 : Nat) : Int), dec w.num, aa3 w.den, ()), ?_, ⟨k + 1, w, by omega, rfl, (ae6 h2).1, ?_⟩, by dsimp only; omega, ze⟩
   ·refine uT sd (uC _ (arG hq hu) ?_)
    rw [h2]
    refine uF rfl ?_
    rw [aaA (x := (k : Int) + 1) zc]
    rfl
   ·rw [k2, show n - (k + 1) = m by omega]; rfl
 ·right
  obtain rfl : k = n := zc
  rw [Nat.sub_self, show adC u 0 q = some q from rfl] at k2
  rw [k2]
  refine uF sd (uC _ (afN (d := 1000000) io zc zc) (uC _ (aCV hq (am8 io)) ?_))
  simp only [zX, aRy]
  cases h3 : acI (q + mkRat j.2.2.2.2.2.1 1000000) with
  | none => exact uT rfl rfl
  | some w => exact uF rfl (uC _ (ag6 (ae6 h3).1) rfl)
theorem asF {l : List adJ} {k : Nat} (hk : k < l.length) : l.getD k zs = l[k] := by simp [hk]
theorem aOW {x : Rat} {l : List adJ} {k : Nat} (hk : k < l.length) (h1 : x ≤ mkRat (l.getD k zs).1 1000000) (h2 : ∀ j, j < k → ¬ x ≤ mkRat (l.getD j zs).1 1000000) : ae2 x l = k := by
 unfold ae2
 refine (List.findIdx_eq hk).2 ⟨?_, fun j hj => ?_⟩
 ·rw [asF hk] at h1
  exact zo h1
 ·have := h2 j hj
  rw [asF (show j < l.length by omega)] at this
  exact zn this
theorem aOV {x : Rat} {l : List adJ} {k : Nat} (h2 : ∀ j, j < k → ¬ x ≤ mkRat (l.getD j zs).1 1000000) (hp : ae2 x l < l.length) : k ≤ ae2 x l := by
 rcases zr (ae2 x l) k with h | h
 ·refine absurd ?_ (h2 _ h)
  have := List.findIdx_getElem (p := fun s : adJ => decide (x ≤ mkRat s.1 1000000)) (xs := l) (w := hp)
  rw [asF hp]
  exact of_decide_eq_true this
 ·exact h
theorem avT {l : List adJ} (h : ac0 l) {k : Nat} (hk : k < l.length) : agX (l.getD k zs) ∧ inR (l.getD k zs).1 0 1000000 := by
 refine arP l 0 zc h.2.2 _ ?_
 rw [asF hk]
 exact yg hk
theorem ay4 {p : PcT} {q : Rat} (h1 : adK q) (h2 : agX p.1) : aj4 (p, fx q, ()) = some (ay9 (aB3 p.1.2.1 p.1.2.2.1 q)) := aaI (enc := fun p : PcT × Rat => (p.1, fx p.2, ())) (p, q) ⟨h1, h2⟩ (fun b hb => by
 obtain ⟨e1, e2⟩ := Prod.mk.inj hb
 obtain ⟨e2, -⟩ := Prod.mk.inj e2
 exact Prod.ext e1 (anX e2))
theorem aMq {m a : Int} {x u : Rat} (hl : aB3 m a x = some u) : adK u := by
 unfold aB3 at hl
 cases g1 : acI (mkRat m 1 * x) with
 | none => rw [g1] at hl; cases hl
 | some w =>
  rw [g1] at hl; simp only [zX] at hl
  cases g2 : acI (w + mkRat a 1) with
  | none => rw [g2] at hl; cases hl
  | some v => rw [g2] at hl; exact (ae6 hl).1
theorem azQ (c : CvT × Unit) (x : FxT) (y) (h : aiP (c, x, ()) = some y) : (al7 c x).toO = some y := by
 obtain ⟨⟨c', q⟩, ⟨hq, hx1, hl⟩, hx, rfl⟩ := aaD h
 obtain ⟨rfl, hx2⟩ := Prod.mk.inj hx; obtain ⟨rfl, -⟩ := Prod.mk.inj hx2; dsimp only
 dsimp only at hq hx1 hl
 have hlen := hl.2.1
 have hp := aHL hl hx1
 obtain ⟨kind, tab, l, u0⟩ := c'
 dsimp only at hl hlen hp
 unfold al7
 dsimp only
 have hsg := avT hl hp
 refine uL ((l.getD (ae2 q l) zs).1, (l.getD (ae2 q l) zs).2.1, (l.getD (ae2 q l) zs).2.2.1, (l.getD (ae2 q l) zs).2.2.2.1, (l.getD (ae2 q l) zs).2.2.2.2.1, (l.getD (ae2 q l) zs).2.2.2.2.2.1, abD l (ae2 q l), (ae2 q l : Int) == 0, ()) ?_ ?_
 ·refine uO (0, 0, 0, 0, 0, 0, 0, 0, 0, false, ()) rfl ?_
  refine aaO (fun i : Int × Int × Int × Int × Int × Int × Int × Int × Int × Bool × Unit => ∃ k : Nat, k ≤ l.length ∧ i.1 = (k : Int) ∧ i.2.1 = abD l k ∧ ∀ j, j < k → ¬ q ≤ mkRat (l.getD j zs).1 1000000) (fun i => ((l.length : Int) - i.1).toNat) (fun _ => Sum.inl ((l.getD (ae2 q l) zs).1, (l.getD (ae2 q l) zs).2.1, (l.getD (ae2 q l) zs).2.2.1, (l.getD (ae2 q l) zs).2.2.2.1, (l.getD (ae2 q l) zs).2.2.2.2.1, (l.getD (ae2 q l) zs).2.2.2.2.2.1, abD l (ae2 q l), (ae2 q l : Int) == 0, ())) ?_ _ ⟨0, by omega, rfl, rfl, fun j hj => by omega⟩
  rintro ⟨i, last, r⟩ ⟨k, h3, h5, h6, h4⟩
  dsimp only at h5 h6
  subst h5
  simp only [aqM, aaM]
  have hk := aOV h4 hp
  have hk' : k < l.length := zc
  have hi := aoK (avT hl hk').2 zc zc
  by_cases g : q ≤ mkRat (l.getD k zs).1 1000000
  ·right
   rw [aOW hk' g h4, ← h6]
   exact uT sd (uN sd (uC _ (afN (d := 1000000) hi zc zc) (uC _ (aCU hq (am8 hi)) (uT (zo ((ar4 _ _).2 g)) rfl))))
  ·left
   refine ⟨(((k + 1 : Nat) : Int), (l.getD k zs).1, (l.getD k zs).1, (l.getD k zs).2.1, (l.getD k zs).2.2.1, (l.getD k zs).2.2.2.1, (l.getD k zs).2.2.2.2.1, (l.getD k zs).2.2.2.2.2.1, last, (k : Int) == 0, ()), ?_, ⟨k + 1, by omega, rfl, ?_, fun j hj => ?_⟩, by dsimp only; omega, ze⟩
   ·refine uT sd (uN sd (uC _ (afN (d := 1000000) hi zc zc) (uC _ (aCU hq (am8 hi)) (uF (zn (fun h => g ((ar4 _ _).1 h))) ?_))))
    rw [aaA (x := (k : Int) + 1) zc]; rfl
   ·unfold abD; rw [if_neg zc, xC]
   ·rcases zr j k with g2 | g2
    ·exact h4 j g2
    ·obtain rfl : j = k := zc
     exact g
 ·unfold auP
  generalize l.getD (ae2 q l) zs = s at hsg ⊢
  obtain ⟨hn, hr⟩ := hsg
  have io := aoK hn.2.2.1 zc zc
  unfold aqL
  dsimp only
  by_cases hd : s.2.2.2.2.1 = 1
  ·rw [if_pos hd]
   refine uF (by rw [hd]; rfl) (uC _ (ay4 hq hn) ?_)
   dsimp only
   unfold aEs
   cases hl : aB3 s.2.1 s.2.2.1 q with
   | none => exact uT rfl rfl
   | some u =>
    have hu := aMq hl
    refine uF rfl ?_
    have hp := aOS hu
    refine uL (fx (aDL u)) ?_ ?_
    ·refine uC (u.num.sign, 0, ()) (by unfold aq6; dsimp only [ay9]; rw [ae7 hu]) ?_
     unfold aDL
     by_cases c : u < 0
     ·rw [if_pos c]
      exact uT (zo ((atJ u).2 c)) (uC _ (ab7 ⟨by omega, by omega⟩) (by rw [aSP]; rfl))
     ·rw [if_neg c]
      exact uF (zn (fun h => c ((atJ u).1 h))) rfl
    ·simp only [zX]
     unfold aqK
     exact uO (0, dec (aDL u).num, aa3 (aDL u).den, ()) rfl (asW _ _ _ _ _ hp hn.2.2.2.1 io)
  ·rw [if_neg hd]
   exact uT (by simpa using hd) rfl
theorem aAS {q : Rat} (h : adK q) : adK (abU q) := by
 have e1 : mkRat 1 1 = (1 : Rat) := by rw [aeE]; rfl
 unfold abU
 split
 ·exact aEz
 ·split
  ·rw [← e1]; exact ad2 ⟨by omega, by omega⟩
  ·exact h
theorem aNt (q : Rat) : abU q ≤ 1 := by
 unfold abU
 split
 ·decide
 ·split
  ·exact Rat.le_refl
  ·rename_i h; exact wT.1 h
theorem aCC (q : Rat) : 0 ≤ abU q := by
 unfold abU
 split
 ·exact Rat.le_refl
 ·split
  ·decide
  ·rename_i h _; exact wT.1 h
theorem aGU {p q : CvT × Rat} (hb : ((p.1, ()), fx p.2, ()) = ((q.1, ()), fx q.2, ())) : p = q := by
 obtain ⟨e1, e2⟩ := Prod.mk.inj hb
 obtain ⟨e2, -⟩ := Prod.mk.inj e2
 exact Prod.ext (Prod.mk.inj e1).1 (anX e2)
theorem aFh {c : CvT} {q : Rat} (h1 : adK q) (h2 : q ≤ 1) (h3 : ac0 c.2.2.1) : aiP ((c, ()), fx q, ()) = some (auP c.2.2.1 q) := aaI (enc := fun p : CvT × Rat => ((p.1, ()), fx p.2, ())) (c, q) ⟨h1, h2, h3⟩ (fun b hb => aGU hb)
theorem aBi {c : CvT} {q : Rat} (h1 : adK q) (h0 : 0 ≤ q) (h2 : q ≤ 1) (h3 : adZ c.2.1) : af7 ((c, ()), fx q, ()) = some (ay9 (aOd c.2.1 q)) := aaI (enc := fun p : CvT × Rat => ((p.1, ()), fx p.2, ())) (c, q) ⟨h1, h0, h2, h3⟩ (fun b hb => aGU hb)
theorem aCW {c : CvT} {q : Rat} (h1 : adK q) : ag5 ((c, ()), fx q, ()) = some (fx q, 0, ()) := aaI (enc := fun p : CvT × Rat => ((p.1, ()), fx p.2, ())) (c, q) h1 (fun b hb => aGU hb)
theorem axY (c : CvT × Unit) (x : FxT) (y) (h : ag5 (c, x, ()) = some y) : (aqJ c x).toO = some y := by
 obtain ⟨⟨c', q⟩, hq, hx, rfl⟩ := aaD h
 obtain ⟨rfl, hx2⟩ := Prod.mk.inj hx; obtain ⟨rfl, -⟩ := Prod.mk.inj hx2; dsimp only
 rfl
theorem aKg (c : CvT) (x : FxT) (y) (h : acA (c, x, ()) = some y) : (aCH c x).toO = some y := by
 injection h with h
 subst h
 obtain ⟨kind, tab, l, u0⟩ := c
 unfold aCH
 dsimp only
 refine uC _ (arH (kind, tab, l, ())) ?_
 by_cases hr : ab1 (kind, tab, l, ())
 case neg =>
  have hr' : ¬ ab1 (kind, tab, l, u0) := hr
  rw [if_neg hr', if_neg hr]
  exact uT rfl rfl
 have hr' : ab1 (kind, tab, l, u0) := hr
 rw [if_pos hr', if_pos hr]
 refine uF rfl (uC (if (rdF x).isSome then 0 else 20, ()) rfl ?_)
 cases hx : rdF x with
 | none => exact uT rfl rfl
 | some q =>
  obtain ⟨hq, rfl⟩ := ah7 hx
  refine uF rfl ?_
  have hc := aAS hq
  have hl := aNt q
  have h0 := aCC q
  unfold aqC
  dsimp only
  rcases hr with ⟨k1, k2, k3⟩ | ⟨k1, k2, k3⟩ | ⟨k1, k2, k3⟩
  ·dsimp only at k1; subst k1
   refine uN ⟨by decide, by decide⟩ (uF rfl (uF rfl (uT rfl (uC _ (ag6 hq) (uC _ (aCW hc) ?_)))))
   rfl
  ·dsimp only at k1; subst k1
   refine uN ⟨by decide, by decide⟩ (uF rfl (uT rfl (uC _ (ag6 hq) (uC _ (aBi (c := (2, tab, l, ())) hc h0 hl k2) ?_))))
   rfl
  ·dsimp only at k1; subst k1
   refine uN ⟨by decide, by decide⟩ (uT rfl (uC _ (ag6 hq) (uC _ (aFh (c := (3, tab, l, ())) hc hl k3) ?_)))
   rfl
set_option maxRecDepth 100000
open Go Go.Vg Go.Proofs
noncomputable section
def aPT : LTab := [(120, 58, 11264, ⟨0, (Int) × (Int) × (Int) × (Int) × Unit, .dat (.s 14) uk <| .dat (.s 5) uk <| .dat (.c 5 0) uk <| .dat (.c 5 1) uk <| .nil, [13, 12, 4, 2], [5, 0], 0⟩)]
def aEW (bands : List uo) (i : (Int) × (Int) × (Int) × (Int) × Unit) : TT (((Int) × (Int) × (Int) × (Int) × Unit) ⊕ uA) :=
 .ite (decide (i.1 < len (List.take (List.length bands - Int.toNat 1) (List.drop (Int.toNat 1) bands))))
 (.need (inb i.1 (len (List.take (List.length bands - Int.toNat 1) (List.drop (Int.toNat 1) bands)))) <| .call (arA ((i.2.2.1, i.2.2.2.1, ()), ((gi (List.take (List.length bands - Int.toNat 1) (List.drop (Int.toNat 1) bands)) i.1 (0, 0, ())).1, (gi (List.take (List.length bands - Int.toNat 1) (List.drop (Int.toNat 1) bands)) i.1 (0, 0, ())).2.1, ()), ())) atE fun y =>
 .ite (y.2.1 != 0)
 (.ok (.inr (((0, 0, ()), y.2.1, ()))))
 (.tt <| .lt (w64 (i.1 + 1) : Int) fun z2 => .lt (y.2.1 : Int) fun z3 => .lt (y.1.1 : Int) fun z4 => .lt (y.1.2.1 : Int) fun z5 => .vT (ub z3 z2 (len (List.take (List.length bands - Int.toNat 1) (List.drop (Int.toNat 1) bands)) : Int) (List.take (List.length bands - Int.toNat 1) (List.drop (Int.toNat 1) bands)) <| (uh 5 0 true) ∧ uq ∧ True) <| .vT (vS (vW 53 z4 z5) <| vS ur True) <| .ok (.inl ((z2, z3, z4, z5, ())))))
 (.ok (.inr (((i.2.2.1, i.2.2.2.1, ()), 0, ()))))
def aCF (bands : List uo) : TT uA :=
 .need (asT Int 0 ≤ 0 ∧ 0 < len bands) <| .need (asT Int 0 ≤ 1 ∧ 1 ≤ len bands) <| .loop 0 (.tt <| .lt ((gi bands 0 (0, 0, ())).1 : Int) fun z => .lt ((gi bands 0 (0, 0, ())).2.1 : Int) fun z1 => .vT (ub (0 : Int) (0 : Int) (len (List.take (List.length bands - Int.toNat 1) (List.drop (Int.toNat 1) bands)) : Int) (List.take (List.length bands - Int.toNat 1) (List.drop (Int.toNat 1) bands)) <| (uh 5 0 true) ∧ uq ∧ True) <| .vT (vS (vW 53 z z1) <| vS ur True) <| .ok ((0, 0, z, z1, ()))) (aEW bands)
def aKf : LTab := [(118, 58, 9216, ⟨0, (Int) × (List uo) × Unit, .dat (.s 14) uk <| .row 4 tH <| .nil, [13, 12, 4, 2], [4, 0], 0⟩)]
def ax2 (values : List ul) (i : (Int) × (List uo) × Unit) : TT (((Int) × (List uo) × Unit) ⊕ uA) :=
 .ite (decide (i.1 < len values))
 (.need (inb i.1 (len values)) <| .call (agA (((gi values i.1 ([], [], ())).1, (gi values i.1 ([], [], ())).2.1, ()), ())) atE fun y =>
 .ite (y.2.1 != 0)
 (.ok (.inr (((0, 0, ()), y.2.1, ()))))
 (.need (inb i.1 (↑(Int.toNat (len values)) : Int)) <| .tt <| .lt (w64 (i.1 + 1) : Int) fun z1 => .lt (List.set i.2.1 (0 + Int.toNat i.1) (y.1.1, y.1.2.1, ()) : List uo) fun z2 => .vT (ue z1 (len values) values <| (vY 4 0 (Int.toNat (len values)) true) ∧ uq ∧ True) <| .vT (vS (vX 53 z2) <| vS ur True) <| .ok (.inl ((z1, z2, ())))))
 (.call (aiQ (List.take (Int.toNat (len values)) i.2.1, ())) atE fun y1 =>
 .ok (.inr (((y1.1.1, y1.1.2.1, ()), y1.2.1, ()))))
def asZ (values : List ul) : TT uA :=
 .need (0 ≤ len values ∧ len values ≤ len values ∧ len values * (↑16 : Int) ≤ 140737488355328) <| .loop 0 (.tt <| .lt (List.replicate (Int.toNat (len values)) (0, 0, ()) : List uo) fun z => .vT (ue (0 : Int) (len values) values <| (vY 4 0 (Int.toNat (len values)) true) ∧ uq ∧ True) <| .vT (vS (vX 53 z) <| vS ur True) <| .ok ((0, z, ()))) (ax2 values)
def aGW : LTab := []
def aoW (p : uj × Int × Bool × Unit) (lo : Int) (hi : Int) : TT uA :=
 .call (ab0 (lo, 1000000000000, ())) ae4 fun y =>
 .call (aj4 (((p.1.1, p.1.2.1, p.1.2.2.1, p.1.2.2.2.1, p.1.2.2.2.2.1, p.1.2.2.2.2.2.1, ()), p.2.1, p.2.2.1, ()), y.1, ())) afR fun y1 =>
 .ite (y1.2.1 != 0)
 (.ok (((0, 0, ()), y1.2.1, ())))
 (.call (ab0 (hi, 1000000000000, ())) ae4 fun y2 =>
 .call (aj4 (((p.1.1, p.1.2.1, p.1.2.2.1, p.1.2.2.2.1, p.1.2.2.2.2.1, p.1.2.2.2.2.2.1, ()), p.2.1, p.2.2.1, ()), y2.1, ())) afR fun y3 =>
 .ite (y3.2.1 != 0)
 (.ok (((0, 0, ()), y3.2.1, ())))
 (.call (ae0 (List.take 2 [(y1.1.1, y1.1.2.1, ()), (y3.1.1, y3.1.2.1, ())], ())) atE fun y4 =>
 .ite (y4.2.1 != 0)
 (.ok (((0, 0, ()), y4.2.1, ())))
 (.call (ayQ ((if 0 > y4.1.1 then 0 else y4.1.1, if 0 > y4.1.2.1 then 0 else y4.1.2.1, ()), p.1.2.2.2.1, p.1.2.2.2.2.1, ())) atE fun y5 =>
 .ite (y5.2.1 != 0)
 (.ok (((0, 0, ()), y5.2.1, ())))
 (.call (ab0 (p.1.2.2.2.2.2.1, 1000000, ())) ae4 fun y6 =>
 .call (agA (y6.1, ())) atE fun y7 =>
 .ite (y7.2.1 != 0)
 (.ok (((0, 0, ()), y7.2.1, ())))
 (.call (aHi ((y5.1.1, y5.1.2.1, ()), (y7.1.1, y7.1.2.1, ()), ())) atE fun y8 =>
 .ite (y8.2.1 != 0)
 (.ok (((0, 0, ()), y8.2.1, ())))
 (.call (aj5 ((y8.1.1, y8.1.2.1, ()), 0, 1000000000000, ())) atE fun y9 =>
 .ok (((y9.1.1, y9.1.2.1, ()), y9.2.1, ()))))))))
def asV : LTab := []
def ajK (c : um × Unit) (x : Int × Int × Unit) : TT uA :=
 .ok (((x.1, x.2.1, ()), 0, ()))
end
theorem aj8 {l : List Int} (h : adZ l) {k : Nat} (hk : k < l.length) : inR (l.getD k 0) 0 65535 := by
 refine h.2.2 _ ?_
 have : l.getD k 0 = l[k] := by simp [hk]
 rw [this]
 exact yg hk
theorem aO1 {a b : BdT} (h1 : okB a.1 a.2.1) (h2 : okB b.1 b.2.1) : okB (ae3 a b).1 (ae3 a b).2.1 := by
 obtain ⟨a1, a2, u⟩ := a
 obtain ⟨b1, b2, w⟩ := b
 unfold okB ae3 at *
 dsimp only at *
 omega
theorem aPv {a b : BdT} (h1 : okB a.1 a.2.1) (h2 : okB b.1 b.2.1) : aQ1 a b = (ae3 a b, 0, ()) := by
 unfold aQ1; rw [if_pos ⟨h1, h2⟩]; rfl
theorem aOb {a b : BdT} (h1 : okB a.1 a.2.1) (h2 : okB b.1 b.2.1) : arA (a, b, ()) = some (ae3 a b, 0, ()) := by
 unfold arA; dsimp only; rw [aPv h1 h2]
theorem aKe (l : List BdT) (y) (h : aiQ (l, ()) = some y) : (aCF l).toO = some y := by
 unfold aiQ at h
 split at h
 case isFalse => cases h
 case isTrue hp =>
 injection h with h
 subst h
 obtain ⟨hn, hl, ho⟩ := hp
 dsimp only at hn hl ho ⊢
 cases l with
 | nil => exact absurd rfl hn
 | cons b r =>
  have hr : r.length ≤ 1000000 := by simp only [zL] at hl; omega
  unfold aCF
  refine uN ⟨by decide, by simp only [aaC, zL]; omega⟩ (uN ⟨by decide, by simp only [aaC, zL]; omega⟩ ?_)
  refine uO (0, 0, b.1, b.2.1, ()) rfl ?_
  have hb := ho b (zT ..)
  have htail : List.take ((b :: r).length - Int.toNat 1) (List.drop (Int.toNat 1) (b :: r)) = r := by
   show List.take ((b :: r).length - 1) r = r
   simp
  refine aaO (fun i : Int × Int × Int × Int × Unit => ∃ (k : Nat) (w : BdT), k ≤ r.length ∧ i = ((k : Int), 0, w.1, w.2.1, ()) ∧ okB w.1 w.2.1 ∧ anT (b :: r) = (r.drop k).foldl ae3 w) (fun i => ((r.length : Int) - i.1).toNat) (fun _ => (anT (b :: r), 0, ())) ?_ _ ⟨0, b, by omega, rfl, hb, rfl⟩
  rintro i ⟨k, w, k1, rfl, hw, k2⟩
  simp only [aEW, htail, aaM]
  rcases zr k r.length with hk | hk
  ·have e : r.getD k (0, 0, ()) = r[k] := by simp [hk]
   have ho2 := ho r[k] (zF _ (yg hk))
   left
   refine ⟨(((k + 1 : Nat) : Int), 0, (ae3 w r[k]).1, (ae3 w r[k]).2.1, ()), ?_, ⟨k + 1, ae3 w r[k], by omega, rfl, aO1 hw ho2, ?_⟩, by dsimp only; omega, ze⟩
   ·refine uT sd (uN sd (uC (ae3 w r[k], 0, ()) (by rw [e]; exact aOb hw ho2) (uF rfl ?_)))
    rw [aaA (x := (k : Int) + 1) zc]
    rfl
   ·rw [k2, yA hk]; rfl
  ·right
   obtain rfl : k = r.length := zc
   rw [List.drop_length] at k2
   refine uF sd ?_
   rw [aaK, k2]; rfl
theorem aOx {q : Rat} (h : (agJ q q).2.1 = 0) : okB (agJ q q).1.1 (agJ q q).1.2.1 := by
 unfold agJ mkB at *
 split at h
 ·rename_i c; rw [if_pos c]; exact c
 ·exact absurd h zf
theorem ay5 {q : Rat} (h : adK q) : agA (fx q, ()) = some (agJ q q) := by
 unfold agA; dsimp only; rw [ae7 h]
theorem aEX (l : List FxT) (y) (h : ae0 (l, ()) = some y) : (asZ l).toO = some y := by
 obtain ⟨r, ⟨hn, hl, ho⟩, hx, rfl⟩ := aaD h
 obtain ⟨rfl, -⟩ := Prod.mk.inj hx
 have hlen : len (r.map (fun q => fx q)) = (r.length : Int) := by rw [aaC, vK]
 unfold asZ
 simp only [hlen, zp]
 refine uN ⟨by omega, by omega, by omega⟩ (uO (0, List.replicate r.length (0, 0, ()), ()) rfl ?_)
 refine aaO (fun i : Int × List BdT × Unit => ∃ k : Nat, k ≤ r.length ∧ i.1 = (k : Int) ∧ i.2.1.length = r.length ∧ i.2.1.take k = (r.take k).map (fun q => (agJ q q).1)) (fun i => ((r.length : Int) - i.1).toNat) (fun _ => (anT (r.map fun q => (agJ q q).1), 0, ())) ?_ _ ⟨0, by omega, rfl, by simp, by simp⟩
 rintro ⟨i, bs, u⟩ ⟨k, k1, k2, k3, k4⟩
 dsimp only at k2 k3 k4
 subst k2
 simp only [ax2, hlen, aaM, zp]
 rcases zr k r.length with hk | hk
 ·have e : (r.map (fun q => fx q)).getD k ([], [], ()) = fx r[k] := by simp [hk]
  obtain ⟨f1, f2⟩ := ho r[k] (yg hk)
  left
  refine ⟨(((k + 1 : Nat) : Int), bs.set k (agJ r[k] r[k]).1, ()), ?_, ⟨k + 1, by omega, rfl, by simp [k3], ?_⟩, by dsimp only; omega, ze⟩
  ·refine uT sd (uN ⟨by omega, by omega⟩ (uC (agJ r[k] r[k]) (by rw [e]; exact ay5 f1) (uF (by rw [f2]; rfl) (uN ⟨by omega, by omega⟩ ?_))))
   rw [aaA (x := (k : Int) + 1) zc, zw]
   rfl
  ·rw [zW hk, xW, ← k4]
   rw [zW (by rw [xn]; omega), List.take_set_of_le (zq k)]
   simp
 ·right
  obtain rfl : k = r.length := zc
  rw [zt] at k4
  refine uF sd (uC (anT (r.map fun q => (agJ q q).1), 0, ()) ?_ rfl)
  rw [k4]
  unfold aiQ
  refine if_pos ⟨by simpa using hn, by simpa using hl, fun b hb => ?_⟩
  obtain ⟨q, hq, rfl⟩ := zG.1 hb
  exact aOx (ho q hq).2
theorem afP {z : Int} (h1 : -1000000000000000000000000 ≤ z) (h2 : z ≤ 1000000000000000000000000) : Fit z := by
 unfold Fit
 refine zC ((abF (k := 30) zc).2 ?_) zc
 omega
theorem au4 {m a n : Int} (hm : inR m (-100000000) 100000000) (ha : inR a (-100000000) 100000000) (hn : inU n) : -200000000000000000000 ≤ ab2 m a n ∧ ab2 m a n ≤ 200000000000000000000 := by
 obtain ⟨m1, m2⟩ := hm
 obtain ⟨a1, a2⟩ := ha
 obtain ⟨n1, n2⟩ := hn
 unfold ab2
 have c1 : (m + 100000000) * n ≥ 0 := ye zc n1
 have c2 : (100000000 - m) * n ≥ 0 := ye zc n1
 rw [wX] at c1
 rw [Int.sub_mul] at c2
 constructor <;> omega
end Go.Vs
