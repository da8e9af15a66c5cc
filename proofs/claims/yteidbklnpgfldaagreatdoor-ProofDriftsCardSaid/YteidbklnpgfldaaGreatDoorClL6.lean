/-
  Trees of what the functions compute, and their laws. Own work; no condition.
-/
import Derived.Test.YteidbklnpgfldaaGreatDoorClL5
import Derived.Test.YteidbklnpgfldaaGreatDoorProg
import Derived.KernelRfl
set_option linter.unusedVariables false
set_option linter.unusedSimpArgs false
namespace Go.Vs
open Go Go.Vg
theorem aIU {H v1 V P U Q : Int} (hP : 0 < P) (h1 : 0 < v1) (hV : v1 * P ≤ V) (hU : U < (H + 1) * P) (hQ : Q * V ≤ U) (hQ0 : 0 ≤ Q) : Q ≤ H / v1 := by
 rw [Int.le_ediv_iff_mul_le h1]
 have a1 : Q * (v1 * P) ≤ Q * V := zy hV hQ0
 have a2 : Q * v1 * P < (H + 1) * P := by rw [Int.mul_assoc]; omega
 have := yc a2 zb
 omega
theorem aLQ {q r H v1 v2 V P U Q u2 B : Int} (hV0 : 0 ≤ V) (hP : 0 < P) (hinv : q * v1 + r = H) (hV : (v1 * B + v2) * P ≤ V) (hU : U < (H * B + u2 + 1) * P) (hQ : Q * V ≤ U) (hq : 0 ≤ q) (h : q * v2 > r * B + u2) : Q ≤ q - 1 := by
 have a1 : H * B + u2 + 1 ≤ q * (v1 * B + v2) := by
  have : q * (v1 * B + v2) = (q * v1 + r) * B - r * B + q * v2 := by grind
  rw [this, hinv]; omega
 have a2 : (H * B + u2 + 1) * P ≤ (q * (v1 * B + v2)) * P := zI a1 zb
 have a3 : q * ((v1 * B + v2) * P) ≤ q * V := zy hV hq
 rw [Int.mul_assoc] at a2
 have a4 : Q * V < q * V := zb
 have := yc a4 hV0
 omega
theorem aD7 {q r H v1 v2 V V3 P U u2 B Q : Int} (hP : 0 < P) (hinv : q * v1 + r = H) (hVe : V = (v1 * B + v2) * P + V3) (hV3 : V3 < P) (hV30 : 0 ≤ V3) (hU : (H * B + u2) * P ≤ U) (hq : 0 ≤ q) (hqB : q < B) (hVB : B * P ≤ V) (hUQ : U < (Q + 1) * V) (h : q * v2 ≤ r * B + u2) : q ≤ Q + 1 := by
 have a1 : q * (v1 * B + v2) ≤ H * B + u2 := by
  have : q * (v1 * B + v2) = (q * v1 + r) * B - r * B + q * v2 := by grind
  rw [this, hinv]; omega
 have a2 : (q * (v1 * B + v2)) * P ≤ (H * B + u2) * P := zI a1 zb
 have a3 : q * V3 ≤ B * P := by
  have b1 : q * V3 ≤ q * P := zy zb hq
  have b2 : q * P ≤ B * P := zI zb zb
  omega
 have a4 : q * V = (q * (v1 * B + v2)) * P + q * V3 := by rw [hVe]; grind
 have a5 : q * V < (Q + 2) * V := by
  have : (Q + 2) * V = (Q + 1) * V + V := by grind
  omega
 have hVpos : 0 < V := by
  have : 0 < B * P := Int.mul_pos zb hP
  omega
 have := yc a5 zb
 omega
theorem aCJ {u w : List Int} {j n : Nat} {Q Vv e U : Int} (hlen : w.length = u.length) (hjn : j + n < u.length) (hw : Dg 1000000000 w)
  (htk : w.take j = u.take j) (hdr : w.drop (j + n) = u.drop (j + n)) (hz : V 1000000000 (u.drop (j + n + 1)) = 0) (hU : U = V 1000000000 (u.drop j)) (hX0 : 0 ≤ U - Q * Vv) (hX1 : U - Q * Vv < 1000000000 ^ n)
  (hV : V 1000000000 w = V 1000000000 u - 1000000000 ^ j * (Q * Vv) + 1000000000 ^ (j + n) * e) :
  V 1000000000 (w.set (j + n) 0) = V 1000000000 u - 1000000000 ^ j * (Q * Vv) ∧ V 1000000000 ((w.set (j + n) 0).drop j) = U - Q * Vv ∧ e = u.getD (j + n) 0 := by
 have sw := ab0 1000000000 w j
 have su := ab0 1000000000 u j
 rw [htk] at sw
 have hPj : (0 : Int) < 1000000000 ^ j := yG zb
 have hPn : (0 : Int) < 1000000000 ^ n := yG zb
 have e1 : V 1000000000 (w.drop j) = U - Q * Vv + 1000000000 ^ n * e := by
  have : 1000000000 ^ j * V 1000000000 (w.drop j) = 1000000000 ^ j * (U - Q * Vv + 1000000000 ^ n * e) := by
   rw [xI] at hV
   rw [hU]
   have : (1000000000 : Int) ^ j * (V 1000000000 (u.drop j) - Q * Vv + 1000000000 ^ n * e) = 1000000000 ^ j * V 1000000000 (u.drop j) - 1000000000 ^ j * (Q * Vv) + 1000000000 ^ j * 1000000000 ^ n * e := by grind
   omega
  exact Int.eq_of_mul_eq_mul_left zb this
 have s2 := ab0 1000000000 (w.drop j) n
 rw [zT, hdr] at s2
 have s3 := aaJ 1000000000 u (j + n)
 rw [hz, wF, wT] at s3
 rw [s3] at s2
 have l1 := ac4 zb (acB hw j) n
 have l2 := aaH zb (abZ (acB hw j) n)
 have hget : w.getD (j + n) 0 = u.getD (j + n) 0 := by
  have h1 : (w.drop (j + n)).getD 0 0 = (u.drop (j + n)).getD 0 0 := by rw [hdr]
  simpa [zP, yJ] using h1
 have he : e = u.getD (j + n) 0 := by
  have h1 : 1000000000 ^ n * (u.getD (j + n) 0 - e) = (U - Q * Vv) - V 1000000000 ((w.drop j).take n) := by
   rw [Int.mul_sub]; omega
  have h2 : u.getD (j + n) 0 - e < 1 := by
   have : 1000000000 ^ n * (u.getD (j + n) 0 - e) < 1000000000 ^ n * 1 := zb
   exact yM this zb
  have h3 : -1 < u.getD (j + n) 0 - e := by
   have : 1000000000 ^ n * (-1) < 1000000000 ^ n * (u.getD (j + n) 0 - e) := zb
   exact yM this zb
  omega
 refine ⟨?_, ?_, he⟩
 ·rw [auJ _ zb, hget, hV, he, Int.mul_sub]
  omega
 ·have s4 : (w.set (j + n) 0).drop j = (w.drop j).set n 0 := by
   rw [List.drop_set, if_neg zb]; congr 1; omega
  rw [s4, auJ _ (by rw [yf]; omega)]
  have : (w.drop j).getD n 0 = u.getD (j + n) 0 := by
   rw [← hget]; simp [zP, yJ]
  rw [this, e1, he, Int.mul_sub]
  omega
theorem aOk {u w : List Int} {j n : Nat} {q Vv e U : Int} (hw : Dg 1000000000 w)
  (htk : w.take j = u.take j) (hdr : w.drop (j + n) = u.drop (j + n)) (hz : V 1000000000 (u.drop (j + n + 1)) = 0) (hU : U = V 1000000000 (u.drop j)) (hX0 : U - q * Vv < 0)
  (hV : V 1000000000 w = V 1000000000 u - 1000000000 ^ j * (q * Vv) + 1000000000 ^ (j + n) * e) : u.getD (j + n) 0 < e := by
 have sw := ab0 1000000000 w j
 have su := ab0 1000000000 u j
 rw [htk] at sw
 have hPj : (0 : Int) < 1000000000 ^ j := yG zb
 have hPn : (0 : Int) < 1000000000 ^ n := yG zb
 have e1 : V 1000000000 (w.drop j) = U - q * Vv + 1000000000 ^ n * e := by
  have : 1000000000 ^ j * V 1000000000 (w.drop j) = 1000000000 ^ j * (U - q * Vv + 1000000000 ^ n * e) := by
   rw [xI] at hV
   rw [hU]
   have : (1000000000 : Int) ^ j * (V 1000000000 (u.drop j) - q * Vv + 1000000000 ^ n * e) = 1000000000 ^ j * V 1000000000 (u.drop j) - 1000000000 ^ j * (q * Vv) + 1000000000 ^ j * 1000000000 ^ n * e := by grind
   omega
  exact Int.eq_of_mul_eq_mul_left zb this
 have s2 := ab0 1000000000 (w.drop j) n
 rw [zT, hdr] at s2
 have s3 := aaJ 1000000000 u (j + n)
 rw [hz, wF, wT] at s3
 rw [s3] at s2
 have l2 := aaH zb (abZ (acB hw j) n)
 have : 1000000000 ^ n * u.getD (j + n) 0 < 1000000000 ^ n * e := zb
 exact yM this zb
theorem asV (l : List Int) {k j : Nat} (h : j ≤ k) (x : Int) : (l.set (k) x).take j = l.take j := by
 rw [List.take_set_of_le h]
theorem aIG (m o : List Int) (y : Int × Unit) (y4 : List Int × Unit) (v ql u w0 : List Int) (j n : Nat) (q : Int) (i2 : Int × Int × Int × List Int × Unit) (hv : Dg 1000000000 v) (hn : v.length = n) (hN : w0.length ≤ 1000000000000) (hjn : j + n < w0.length) (hw : Dg 1000000000 w0) (hq : 1 ≤ q ∧ q < 1000000000) (hK : inb (j : Int) (↑(Int.toNat (w64 (w64 (len m - len v) + 1))) : Int)) :
  ∃ w' e, acD (fun i3 => (agO m o y (v, ()) y4 ((j : Int), ql, u, ()) (q, ()) i2 i3).toO) (0, 0, w0, ()) = some (.inr (.inl ((j : Int) - 1, ql.set j (q - 1), w'.set (j + n) 0, ()))) ∧ w'.length = w0.length ∧ Dg 1000000000 w' ∧ w'.take j = w0.take j ∧ w'.drop (j + n) = w0.drop (j + n) ∧ V 1000000000 w' = V 1000000000 w0 + 1000000000 ^ j * V 1000000000 v - 1000000000 ^ (j + n) * e := by
 have wa : w64 (w64 ((j : Int) + len v) + 1) = ((j + n + 1 : Nat) : Int) := by rw [aaB, hn, aaC (x := (j : Int) + n) zb, aaC zb]; omega
 have wb : ((((j + n + 1 : Nat) : Int).toNat - (j : Int).toNat : Nat) : Int) = ((n + 1 : Nat) : Int) := zb
 refine Exists.elim (afV (R := fun i3 => (agO m o y (v, ()) y4 ((j : Int), ql, u, ()) (q, ()) i2 i3).toO) (fun i : Int × Int × List Int × Unit => ∃ k : Nat, k ≤ n ∧ i.1 = (k : Int) ∧ 0 ≤ i.2.1 ∧ i.2.1 ≤ 1 ∧ i.2.2.1.length = w0.length ∧ Dg 1000000000 i.2.2.1 ∧ i.2.2.1.take j = w0.take j ∧ i.2.2.1.drop (j + k) = w0.drop (j + k) ∧ V 1000000000 i.2.2.1 = V 1000000000 w0 + 1000000000 ^ j * V 1000000000 (v.take k) - 1000000000 ^ (j + k) * i.2.1) (fun i => ((n : Int) - i.1).toNat)
  (fun r => ∃ w' e, r = Sum.inr (Sum.inl ((j : Int) - 1, ql.set j (q - 1), w'.set (j + n) 0, ())) ∧ w'.length = w0.length ∧ Dg 1000000000 w' ∧ w'.take j = w0.take j ∧ w'.drop (j + n) = w0.drop (j + n) ∧ V 1000000000 w' = V 1000000000 w0 + 1000000000 ^ j * V 1000000000 v - 1000000000 ^ (j + n) * e) ?step (0, 0, w0, ()) ⟨0, by omega, rfl, by simp, by simp, rfl, hw, rfl, rfl, by simp [V]⟩) ?fin
 case fin =>
  rintro a ⟨h1, w', e, rfl, h3⟩
  exact ⟨w', e, h1, h3⟩
 rintro ⟨i, c, w, u5⟩ ⟨k, g1, g2, g3, g4, g5, g6, g7, g8, g9⟩
 dsimp only at g2 g3 g4 g5 g6 g7 g8 g9
 subst g2
 have dv := aaU zb hv k
 have dw := aaU zb g6 (j + k)
 have ev := abA 1000000000 v k
 simp only [agO, aaQ, wa, wb, zn, zp]
 rcases zD k n with hk | hk
 ·left
  have w1 : agC (agC (w.getD (j + k) 0 + v.getD k 0) + c) = w.getD (j + k) 0 + v.getD k 0 + c := by rw [aa5 (x := w.getD (j + k) 0 + v.getD k 0) zb, aa5 zb]
  have w5 : w64 ((k : Int) + 1) = ((k + 1 : Nat) : Int) := by rw [aaC (x := (k : Int) + 1) zb]; omega
  simp only [w1, w5]
  have fin : ∀ x c' : Int, 0 ≤ x ∧ x < 1000000000 → 0 ≤ c' ∧ c' ≤ 1 → x + 1000000000 * c' = w.getD (j + k) 0 + v.getD k 0 + c → ∃ k_1 : Nat, k_1 ≤ n ∧ ((k + 1 : Nat) : Int) = (k_1 : Int) ∧ 0 ≤ c' ∧ c' ≤ 1 ∧ (w.set (j + k) x).length = w0.length ∧ Dg 1000000000 (w.set (j + k) x) ∧ (w.set (j + k) x).take j = w0.take j ∧ (w.set (j + k) x).drop (j + k_1) = w0.drop (j + k_1) ∧ V 1000000000 (w.set (j + k) x) = V 1000000000 w0 + 1000000000 ^ j * V 1000000000 (v.take k_1) - 1000000000 ^ (j + k_1) * c' := by
   intro x c' hx hc he
   refine ⟨k + 1, by omega, rfl, hc.1, hc.2, by simp; omega, ai4 g6 hx _, by rw [asV _ zb, g7], ?_, ?_⟩
   ·rw [af1 _ zb, show j + (k + 1) = j + k + 1 by omega, ← zT (i := 1), g8, zT]
   ·rw [auJ _ zb, g9, ev, show j + (k + 1) = j + k + 1 by omega, yE, xI]
    have : (1000000000 : Int) ^ j * 1000000000 ^ k * (x + 1000000000 * c') = 1000000000 ^ j * 1000000000 ^ k * (w.getD (j + k) 0 + v.getD k 0 + c) := by rw [he]
    grind
  by_cases cc : w.getD (j + k) 0 + v.getD k 0 + c ≥ 1000000000
  ·refine ⟨(((k + 1 : Nat) : Int), 1, w.set (j + k) (w.getD (j + k) 0 + v.getD k 0 + c - 1000000000), ()), ?_, fin _ 1 zb zb zb, by dsimp only; omega⟩
   refine uT sd (uN sd (uN ⟨by omega, by omega⟩ (uT (zm cc) (uN ⟨by omega, by omega⟩ ?_))))
   repeat refine za ?_
   rw [aa5 (x := w.getD (j + k) 0 + v.getD k 0 + c - 1000000000) zb]
   rfl
  ·refine ⟨(((k + 1 : Nat) : Int), 0, w.set (j + k) (w.getD (j + k) 0 + v.getD k 0 + c), ()), ?_, fin _ 0 zb zb zb, by dsimp only; omega⟩
   refine uT sd (uN sd (uN ⟨by omega, by omega⟩ (uF (zk cc) (uN ⟨by omega, by omega⟩ ?_))))
   repeat refine za ?_
   rfl
 ·right
  have hkn : k = n := zb
  subst hkn
  rw [ab7 _ zb] at g9
  refine ⟨_, ?_, w, c, rfl, g5, g6, g7, g8, g9⟩
  refine uF sd (uN ⟨by simp [len], by rw [aaB, hn]; omega⟩ (uN hK ?_))
  repeat refine za ?_
  have w6 : agC (abG (q - 1)) = q - 1 := by rw [aaL (x := q - 1) zb, aa5 zb]
  rw [aaM, w6, aaC (x := (j : Int) - 1) zb, aaB, hn, zn]
theorem an0 {a b B : Int} (ha : 0 ≤ a ∧ a < B) (hb : 0 ≤ b ∧ b < B) : 0 ≤ a * b ∧ a * b ≤ (B - 1) * (B - 1) := by
 refine ⟨xK ha.1 hb.1, ?_⟩
 have h1 : a * b ≤ a * (B - 1) := zy zb ha.1
 have h2 : a * (B - 1) ≤ (B - 1) * (B - 1) := zI zb zb
 omega
theorem aIH (m o : List Int) (y : Int × Unit) (y4 : List Int × Unit) (v ql u : List Int) (j n : Nat) (q Q : Int) (hv : Dg 1000000000 v) (hn : v.length = n) (hN : u.length ≤ 1000000000000) (hjn : j + n < u.length) (hu : Dg 1000000000 u) (hq : 0 ≤ q ∧ q < 1000000000) (hK : inb (j : Int) (↑(Int.toNat (w64 (w64 (len m - len v) + 1))) : Int))
  (hz : V 1000000000 (u.drop (j + n + 1)) = 0) (hQ : q = Q ∨ q = Q + 1) (hX0 : 0 ≤ V 1000000000 (u.drop j) - Q * V 1000000000 v) (hX1 : V 1000000000 (u.drop j) - Q * V 1000000000 v < V 1000000000 v) (hQ0 : 0 ≤ Q) :
  ∃ u', acD (fun i2 => (aeV m o y (v, ()) y4 ((j : Int), ql, u, ()) (q, ()) i2).toO) (0, 0, 0, u, ()) = some (.inl ((j : Int) - 1, ql.set j Q, u', ())) ∧ u'.length = u.length ∧ Dg 1000000000 u' ∧ V 1000000000 u' = V 1000000000 u - 1000000000 ^ j * (Q * V 1000000000 v) ∧ V 1000000000 (u'.drop j) = V 1000000000 (u.drop j) - Q * V 1000000000 v := by
 have wa : w64 (w64 ((j : Int) + len v) + 1) = ((j + n + 1 : Nat) : Int) := by rw [aaB, hn, aaC (x := (j : Int) + n) zb, aaC zb]; omega
 have wb : ((((j + n + 1 : Nat) : Int).toNat - (j : Int).toNat : Nat) : Int) = ((n + 1 : Nat) : Int) := zb
 have hVn : V 1000000000 v < 1000000000 ^ n := by have := aF6 zb hv; rwa [hn] at this
 refine Exists.elim (afV (R := fun i2 => (aeV m o y (v, ()) y4 ((j : Int), ql, u, ()) (q, ()) i2).toO) (fun i : Int × Int × Int × List Int × Unit => ∃ k : Nat, k ≤ n ∧ i.1 = (k : Int) ∧ 0 ≤ i.2.1 ∧ i.2.1 ≤ 1 ∧ 0 ≤ i.2.2.1 ∧ i.2.2.1 < 1000000000 ∧ i.2.2.2.1.length = u.length ∧ Dg 1000000000 i.2.2.2.1 ∧ i.2.2.2.1.take j = u.take j ∧ i.2.2.2.1.drop (j + k) = u.drop (j + k) ∧ V 1000000000 i.2.2.2.1 = V 1000000000 u - 1000000000 ^ j * (q * V 1000000000 (v.take k)) + 1000000000 ^ (j + k) * (i.2.1 + i.2.2.1)) (fun i => ((n : Int) - i.1).toNat)
  (fun r => ∃ u', r = Sum.inl ((j : Int) - 1, ql.set j Q, u', ()) ∧ u'.length = u.length ∧ Dg 1000000000 u' ∧ V 1000000000 u' = V 1000000000 u - 1000000000 ^ j * (Q * V 1000000000 v) ∧ V 1000000000 (u'.drop j) = V 1000000000 (u.drop j) - Q * V 1000000000 v) ?step (0, 0, 0, u, ()) ⟨0, by omega, rfl, by simp, by simp, by simp, by simp, rfl, hu, rfl, rfl, by simp [V]⟩) ?fin
 case fin =>
  rintro a ⟨h1, u', rfl, h3⟩
  exact ⟨u', h1, h3⟩
 rintro ⟨i, b, c, w, u5⟩ ⟨k, g1, g2, g3, g4, g5, g6, g7, g8, g9, g10, g11⟩
 dsimp only at g2 g3 g4 g5 g6 g7 g8 g9 g10 g11
 subst g2
 have dv := aaU zb hv k
 have dw := aaU zb g8 (j + k)
 have ev := abA 1000000000 v k
 have hm := an0 hq dv
 have hs : 0 ≤ c + q * v.getD k 0 := zb
 simp only [aeV, aaQ, wa, wb, zn, zp]
 rcases zD k n with hk | hk
 ·left
  have wv : abG (v.getD k 0) = v.getD k 0 := aaL zb
  have wp : abG (c + abG (q * v.getD k 0)) = c + q * v.getD k 0 := by rw [aaL (x := q * v.getD k 0) zb, aaL zb]
  have em := yg (c + q * v.getD k 0) 1000000000
  have e2 : 0 ≤ (c + q * v.getD k 0) % 1000000000 ∧ (c + q * v.getD k 0) % 1000000000 < 1000000000 := zb
  have e3 : 0 ≤ (c + q * v.getD k 0) / 1000000000 ∧ (c + q * v.getD k 0) / 1000000000 < 1000000000 := zb
  have tm : Int.tmod (c + q * v.getD k 0) 1000000000 = (c + q * v.getD k 0) % 1000000000 := yb hs
  have td : Int.tdiv (c + q * v.getD k 0) 1000000000 = (c + q * v.getD k 0) / 1000000000 := zQ hs
  have wr : w64 (w64 (w64 (w.getD (j + k) 0) - b) - w64 ((c + q * v.getD k 0) % 1000000000)) = w.getD (j + k) 0 - b - (c + q * v.getD k 0) % 1000000000 := by
   rw [aaC (x := w.getD (j + k) 0) zb, aaC (x := w.getD (j + k) 0 - b) zb, aaC (x := (c + q * v.getD k 0) % 1000000000) zb, aaC zb]
  have w5 : w64 ((k : Int) + 1) = ((k + 1 : Nat) : Int) := by rw [aaC (x := (k : Int) + 1) zb]; omega
  have wd : abG ((c + q * v.getD k 0) / 1000000000) = (c + q * v.getD k 0) / 1000000000 := aaL zb
  simp only [wv, wp, tm, td, wr, w5, wd]
  generalize (c + q * v.getD k 0) % 1000000000 = D at *
  generalize (c + q * v.getD k 0) / 1000000000 = C at *
  have fin : ∀ x b' : Int, 0 ≤ x ∧ x < 1000000000 → 0 ≤ b' ∧ b' ≤ 1 → x = w.getD (j + k) 0 - b - D + 1000000000 * b' → ∃ k_1 : Nat, k_1 ≤ n ∧ ((k + 1 : Nat) : Int) = (k_1 : Int) ∧ 0 ≤ b' ∧ b' ≤ 1 ∧ 0 ≤ C ∧ C < 1000000000 ∧ (w.set (j + k) x).length = u.length ∧ Dg 1000000000 (w.set (j + k) x) ∧ (w.set (j + k) x).take j = u.take j ∧ (w.set (j + k) x).drop (j + k_1) = u.drop (j + k_1) ∧ V 1000000000 (w.set (j + k) x) = V 1000000000 u - 1000000000 ^ j * (q * V 1000000000 (v.take k_1)) + 1000000000 ^ (j + k_1) * (b' + C) := by
   intro x b' hx hb he
   refine ⟨k + 1, by omega, rfl, hb.1, hb.2, e3.1, e3.2, by simp; omega, ai4 g8 hx _, by rw [asV _ zb, g9], ?_, ?_⟩
   ·rw [af1 _ zb, show j + (k + 1) = j + k + 1 by omega, ← zT (i := 1), g10, zT]
   ·rw [auJ _ zb, g11, ev, show j + (k + 1) = j + k + 1 by omega, yE, xI, he]
    have : (1000000000 : Int) ^ j * 1000000000 ^ k * (D + 1000000000 * C) = 1000000000 ^ j * 1000000000 ^ k * (c + q * v.getD k 0) := by rw [em]
    grind
  by_cases cc : w.getD (j + k) 0 - b - D < 0
  ·refine ⟨(((k + 1 : Nat) : Int), 1, C, w.set (j + k) (w.getD (j + k) 0 - b - D + 1000000000), ()), ?_, fin _ 1 zb zb zb, by dsimp only; omega⟩
   refine uT sd (uN sd (uN ⟨by omega, by omega⟩ (uV (uV (uT (zm cc) (uN ⟨by omega, by omega⟩ ?_))))))
   repeat refine za ?_
   rw [aaC (x := w.getD (j + k) 0 - b - D + 1000000000) zb, aa5 zb]
   rfl
  ·refine ⟨(((k + 1 : Nat) : Int), 0, C, w.set (j + k) (w.getD (j + k) 0 - b - D), ()), ?_, fin _ 0 zb zb zb, by dsimp only; omega⟩
   refine uT sd (uN sd (uN ⟨by omega, by omega⟩ (uV (uV (uF (zk cc) (uN ⟨by omega, by omega⟩ ?_))))))
   repeat refine za ?_
   rw [aa5 (x := w.getD (j + k) 0 - b - D) zb]
   rfl
 ·right
  have hkn : k = n := zb
  subst hkn
  rw [ab7 _ zb] at g11
  have hun := aaU zb hu (j + k)
  have hget : w.getD (j + k) 0 = u.getD (j + k) 0 := by
   have h1 : (w.drop (j + k)).getD 0 0 = (u.drop (j + k)).getD 0 0 := by rw [g10]
   simpa [zP, yJ] using h1
  have wl : len v = (k : Int) := by rw [aaB, hn]
  have wt : w64 (w64 (u.getD (j + k) 0) - b) = u.getD (j + k) 0 - b := by rw [aaC (x := u.getD (j + k) 0) zb, aaC zb]
  have wc : w64 c = c := aaC zb
  simp only [wl, zn, hget, wt, wc]
  by_cases cb : u.getD (j + k) 0 - b < c
  ·-- one too great
   have hq1 : q = Q + 1 := by
    rcases hQ with h | h
    ·subst h
     obtain ⟨-, -, he⟩ := aCJ (Q := q) g7 hjn g8 g9 g10 hz rfl hX0 zb g11
     omega
    ·exact h
   obtain ⟨w', e, r1, r2, r3, r4, r5, r6⟩ := aIG m o y y4 v ql u w j k q ((k : Int), b, c, w, ()) hv hn zb zb g8 zb hK
   obtain ⟨f1, f2, -⟩ := aCJ (u := u) (w := w') (Q := Q) (Vv := V 1000000000 v) (e := b + c - e) (by rw [r2, g7]) hjn r3 (by rw [r4, g9]) (by rw [r5, g10]) hz rfl hX0 zb (by
    rw [r6, g11, hq1]
    grind)
   refine ⟨_, ?_, w'.set (j + k) 0, rfl, by simp; omega, ai4 r3 zb _, f1, f2⟩
   refine uF sd (uN ⟨by omega, by omega⟩ (uT (zm cb) ?_))
   refine uO (0, 0, w, ()) (by repeat refine za ?_; rfl) ?_
   rw [r1, hq1, Int.add_sub_cancel]
  ·have hq1 : q = Q := by
    rcases hQ with h | h
    ·exact h
    ·exfalso
     have := aOk (q := q) g8 g9 g10 hz rfl (by rw [h, wo]; omega) g11
     omega
   subst hq1
   obtain ⟨f1, f2, -⟩ := aCJ (Q := q) g7 hjn g8 g9 g10 hz rfl hX0 zb g11
   refine ⟨_, ?_, w.set (j + k) 0, rfl, by simp; omega, ai4 g8 zb _, f1, f2⟩
   refine uF sd (uN ⟨by omega, by omega⟩ (uF (zk cb) (uN ⟨by omega, by omega⟩ (uN (by rw [wl] at hK; exact hK) ?_))))
   repeat refine za ?_
   rw [aaM, aa5 (x := q) zb, aaC (x := (j : Int) - 1) zb]
theorem anX {N : Nat} {s : List Int} (h : s.length ≤ N) : over (List.replicate N 0) 0 s = s ++ List.replicate (N - s.length) 0 := by
 unfold over
 simp
theorem aQE {N : Nat} {s : List Int} (h : s.length ≤ N) : V 1000000000 (over (List.replicate N 0) 0 s) = V 1000000000 s := by
 rw [anX h, aeQ, atM]; omega
theorem aII (m o : List Int) (y : Int × Unit) (y4 : List Int × Unit) (v ql u : List Int) (j n : Nat) (U Q : Int) (hv : Dg 1000000000 v) (hn : v.length = n + 2) (hN : u.length ≤ 1000000000000) (hjn : j + n + 2 < u.length) (hu : Dg 1000000000 u) (hz : V 1000000000 (u.drop (j + n + 2 + 1)) = 0) (hU : U = V 1000000000 (u.drop j)) (hUB : U < V 1000000000 v * 1000000000) (hQ1 : Q * V 1000000000 v ≤ U) (hQ2 : U < (Q + 1) * V 1000000000 v) (hQ0 : 0 ≤ Q) (htop : 1 ≤ v.getD (n + 1) 0) :
  ∃ q, (q = Q ∨ q = Q + 1) ∧ 0 ≤ q ∧ q < 1000000000 ∧ acD (fun i1 => (aeW m o y (v, ()) y4 ((j : Int), ql, u, ()) i1).toO) ((u.getD (j + n + 2) 0 * 1000000000 + u.getD (j + n + 1) 0) % v.getD (n + 1) 0, (u.getD (j + n + 2) 0 * 1000000000 + u.getD (j + n + 1) 0) / v.getD (n + 1) 0, ()) = some (.inl (q, ())) := by
 have wb1 : w64 (len v - 1) = ((n + 1 : Nat) : Int) := by rw [aaB, hn, aaC zb]; omega
 have wb2 : w64 (len v - 2) = ((n : Nat) : Int) := by rw [aaB, hn, aaC zb]; omega
 have wa : w64 (w64 ((j : Int) + len v) + 1) = ((j + n + 2 + 1 : Nat) : Int) := by rw [aaB, hn, aaC (x := (j : Int) + ((n + 2 : Nat) : Int)) zb, aaC zb]; omega
 have wb : ((((j + n + 2 + 1 : Nat) : Int).toNat - (j : Int).toNat : Nat) : Int) = ((n + 3 : Nat) : Int) := zb
 have dv1 := aaU zb hv (n + 1)
 have dv2 := aaU zb hv n
 have du0 := aaU zb hu (j + n + 2)
 have du1 := aaU zb hu (j + n + 1)
 have du2 := aaU zb hu (j + n)
 -- the divisor
 have hP : (0 : Int) < 1000000000 ^ n := yG zb
 have hP1 : (0 : Int) < 1000000000 ^ (n + 1) := yG zb
 have s1 := ab0 1000000000 v n
 have s2 := aaJ 1000000000 v n
 have s3 := aaJ 1000000000 v (n + 1)
 rw [acJ (k := n + 1 + 1) _ zb, wF, wT] at s3
 rw [s3] at s2
 have s4 := ac4 zb hv n
 have s5 := aaH zb (abZ hv n)
 have s6 := ab0 1000000000 v (n + 1)
 rw [s3] at s6
 have s7 := aaH zb (abZ hv (n + 1))
 -- the window
 have t1 := ab0 1000000000 (u.drop j) n
 have t2 : V 1000000000 ((u.drop j).drop n) = (u.getD (j + n + 2) 0 * 1000000000 + u.getD (j + n + 1) 0) * 1000000000 + u.getD (j + n) 0 := by
  rw [zT]
  have a1 := aaJ 1000000000 u (j + n)
  have a2 := aaJ 1000000000 u (j + n + 1)
  have a3 := aaJ 1000000000 u (j + n + 1 + 1)
  rw [show j + n + 1 + 1 + 1 = j + n + 2 + 1 by omega, hz] at a3
  rw [a1, a2, a3]
  show _ + 1000000000 * (_ + 1000000000 * (u.getD (j + n + 2) 0 + 1000000000 * 0)) = _
  omega
 have t3 := ac4 zb (acB hu j) n
 have t4 := aaH zb (abZ (acB hu j) n)
 rw [← hU, t2] at t1
 generalize hH : u.getD (j + n + 2) 0 * 1000000000 + u.getD (j + n + 1) 0 = H at *
 have hH0 : 0 ≤ H ∧ H < 1000000000000000000 := zb
 generalize hv1 : v.getD (n + 1) 0 = v1 at *
 generalize hv2 : v.getD n 0 = v2 at *
 generalize hu2 : u.getD (j + n) 0 = u2 at *
 generalize V 1000000000 (v.take n) = V3 at *
 generalize V 1000000000 ((u.drop j).take n) = U3 at *
 generalize V 1000000000 (v.take (n + 1)) = V4 at *
 have hVe : V 1000000000 v = (v1 * 1000000000 + v2) * 1000000000 ^ n + V3 := by rw [s1, s2]; grind
 have hVv : v1 * 1000000000 ^ (n + 1) ≤ V 1000000000 v := by
  have : (1000000000 : Int) ^ (n + 1) * v1 = v1 * 1000000000 ^ (n + 1) := xe _ _
  omega
 have hVB : 1000000000 * 1000000000 ^ n ≤ V 1000000000 v := by
  have a1 : 1 * 1000000000 ^ (n + 1) ≤ v1 * 1000000000 ^ (n + 1) := zI htop zb
  have a2 : (1000000000 : Int) ^ (n + 1) = 1000000000 * 1000000000 ^ n := by rw [yE, xe]
  omega
 have hUlo : (H * 1000000000 + u2) * 1000000000 ^ n ≤ U := by
  have : (1000000000 : Int) ^ n * (H * 1000000000 + u2) = (H * 1000000000 + u2) * 1000000000 ^ n := xe _ _
  omega
 have hUhi : U < (H * 1000000000 + u2 + 1) * 1000000000 ^ n := by
  have : (H * 1000000000 + u2 + 1) * 1000000000 ^ n = 1000000000 ^ n * (H * 1000000000 + u2) + 1000000000 ^ n := by grind
  omega
 have hUhi1 : U < (H + 1) * 1000000000 ^ (n + 1) := by
  have a1 : (H * 1000000000 + u2 + 1) * 1000000000 ^ n ≤ ((H + 1) * 1000000000) * 1000000000 ^ n := zI zb zb
  have a2 : ((H + 1) * 1000000000) * 1000000000 ^ n = (H + 1) * 1000000000 ^ (n + 1) := by rw [yE]; grind
  omega
 have hVpos : 0 < V 1000000000 v := by have := Int.mul_pos (show (0 : Int) < 1000000000 by omega) hP; omega
 have hQB : Q < 1000000000 := by
  have : Q * V 1000000000 v < 1000000000 * V 1000000000 v := zb
  exact yc this zb
 have hstart := aIU hP1 zb hVv hUhi1 hQ1 hQ0
 have hdm := yg H v1
 have hr0 := xy H (show v1 ≠ 0 by omega)
 have hr1 := xu H (show 0 < v1 by omega)
 refine Exists.elim (afV (R := fun i1 => (aeW m o y (v, ()) y4 ((j : Int), ql, u, ()) i1).toO) (fun i : Int × Int × Unit => 0 ≤ i.1 ∧ i.1 < 1000000000 ∧ Q ≤ i.2.1 ∧ i.2.1 * v1 + i.1 = H) (fun i => i.2.1.toNat) (fun r => ∃ q, (q = Q ∨ q = Q + 1) ∧ 0 ≤ q ∧ q < 1000000000 ∧ r = Sum.inl (q, ())) ?step (H % v1, H / v1, ()) ⟨hr0, by dsimp only; omega, hstart, by dsimp only; rw [xe]; omega⟩) ?fin
 case fin =>
  rintro a ⟨h1, q, h2, h3, h4, rfl⟩
  exact ⟨q, h2, h3, h4, h1⟩
 rintro ⟨r, q, u5⟩ ⟨g1, g2, g3, g4⟩
 dsimp only at g1 g2 g3 g4
 have hqH : q ≤ H := by
  have : q * 1 ≤ q * v1 := zy htop zb
  omega
 have down : Q ≤ q - 1 → ((r + v1 ≥ 1000000000 → ∃ q', (q' = Q ∨ q' = Q + 1) ∧ 0 ≤ q' ∧ q' < 1000000000 ∧ q' = q - 1)) := by
  intro hdn hr
  have hqB : q - 1 < 1000000000 := by
   have a1 : (q - 1) * v1 = H - (r + v1) := by rw [Int.sub_mul]; omega
   have a2 : H < (v1 + 1) * 1000000000 := by
    have b1 : H * 1000000000 ^ (n + 1) ≤ U := by
     have a2 : (H * 1000000000) * 1000000000 ^ n = H * 1000000000 ^ (n + 1) := by rw [yE]; grind
     have a3 : (H * 1000000000) * 1000000000 ^ n ≤ (H * 1000000000 + u2) * 1000000000 ^ n := zI zb zb
     omega
    have b2 : V 1000000000 v < (v1 + 1) * 1000000000 ^ (n + 1) := by
     have a2 : (v1 + 1) * 1000000000 ^ (n + 1) = (v1 * 1000000000 + 1000000000) * 1000000000 ^ n := by rw [yE]; grind
     have a3 : (v1 * 1000000000 + v2 + 1) * 1000000000 ^ n ≤ (v1 * 1000000000 + 1000000000) * 1000000000 ^ n := zI zb zb
     have a4 : (v1 * 1000000000 + v2 + 1) * 1000000000 ^ n = (v1 * 1000000000 + v2) * 1000000000 ^ n + 1000000000 ^ n := by grind
     omega
    have b3 : H * 1000000000 ^ (n + 1) < ((v1 + 1) * 1000000000) * 1000000000 ^ (n + 1) := by
     have : ((v1 + 1) * 1000000000) * 1000000000 ^ (n + 1) = ((v1 + 1) * 1000000000 ^ (n + 1)) * 1000000000 := by grind
     omega
    exact yc b3 zb
   have a3 : (q - 1) * v1 < 1000000000 * v1 := by
    have : (v1 + 1) * 1000000000 = 1000000000 * v1 + 1000000000 := by grind
    omega
   exact yc a3 zb
  have hm := an0 (a := q - 1) (b := v2) (B := 1000000000) ⟨by omega, hqB⟩ dv2
  have hmB : 1000000000 * 1000000000 ≤ (r + v1) * 1000000000 := zb
  have := aD7 (q := q - 1) (r := r + v1) hP (by rw [Int.sub_mul]; omega) hVe s4 s5 hUlo zb hqB hVB hQ2 zb
  exact ⟨q - 1, by omega, by omega, hqB, rfl⟩
 have wv1 : abG v1 = v1 := aaL zb
 have wr : abG (r + v1) = r + v1 := aaL zb
 have hgi1 : gi v ((n + 1 : Nat) : Int) 0 = v1 := by rw [aaQ, hv1]
 have hgi2 : gi v ((n : Nat) : Int) 0 = v2 := by rw [aaQ, hv2]
 simp only [aeW, afZ, wb1, wb2, hgi1, hgi2, wv1, wr, wa, wb, zn, zp, hu2]
 have stepdn : Q ≤ q - 1 → 1 ≤ q → ((r + v1 ≥ 1000000000 → ∃ q', ((q' = Q ∨ q' = Q + 1) ∧ 0 ≤ q' ∧ q' < 1000000000) ∧ abG (q - 1) = q') ∧ (¬ r + v1 ≥ 1000000000 → (0 ≤ r + v1 ∧ r + v1 < 1000000000 ∧ Q ≤ q - 1 ∧ (q - 1) * v1 + (r + v1) = H) ∧ abG (q - 1) = q - 1)) := by
  intro h1 h2
  have wq : abG (q - 1) = q - 1 := aaL zb
  refine ⟨fun h => ?_, fun h => ⟨⟨by omega, by omega, h1, by rw [Int.sub_mul]; omega⟩, wq⟩⟩
  obtain ⟨q', e1, e2, e3, e4⟩ := down h1 h
  exact ⟨q', ⟨e1, e2, e3⟩, by rw [wq, e4]⟩
 by_cases c1 : q ≥ 1000000000
 ·obtain ⟨d1, d2⟩ := stepdn zb zb
  by_cases c2 : r + v1 ≥ 1000000000
  ·right
   obtain ⟨q', e1, e2⟩ := d1 c2
   refine ⟨.inl (q', ()), ?_, q', e1.1, e1.2.1, e1.2.2, rfl⟩
   refine uT (zm c1) (uT (zm c2) ?_)
   repeat refine za ?_
   rw [aaM, e2]
  ·left
   obtain ⟨e1, e2⟩ := d2 c2
   refine ⟨(r + v1, q - 1, ()), ?_, e1, by dsimp only; omega⟩
   refine uT (zm c1) (uF (zk c2) ?_)
   repeat refine za ?_
   rw [aaM, e2]
 ·have hm := an0 (a := q) (b := v2) (B := 1000000000) ⟨by omega, by omega⟩ dv2
  have wm : abG (q * abG v2) = q * v2 := by rw [aaL (x := v2) zb, aaL zb]
  have wn : abG (abG (r * 1000000000) + abG u2) = r * 1000000000 + u2 := by rw [aaL (x := r * 1000000000) zb, aaL (x := u2) zb, aaL zb]
  simp only [wm, wn]
  by_cases c3 : q * v2 > r * 1000000000 + u2
  ·have hdn := aLQ (q := q) (r := r) (wA hVpos) hP g4 zb hUhi hQ1 zb c3
   obtain ⟨d1, d2⟩ := stepdn hdn zb
   by_cases c2 : r + v1 ≥ 1000000000
   ·right
    obtain ⟨q', e1, e2⟩ := d1 c2
    refine ⟨.inl (q', ()), ?_, q', e1.1, e1.2.1, e1.2.2, rfl⟩
    refine uF (zk c1) (uN ⟨by omega, by rw [aaB, hn]; omega⟩ (uN ⟨by omega, by omega⟩ (uT (zm c3) (uT (zm c2) ?_))))
    repeat refine za ?_
    rw [aaM, e2]
   ·left
    obtain ⟨e1, e2⟩ := d2 c2
    refine ⟨(r + v1, q - 1, ()), ?_, e1, by dsimp only; omega⟩
    refine uF (zk c1) (uN ⟨by omega, by rw [aaB, hn]; omega⟩ (uN ⟨by omega, by omega⟩ (uT (zm c3) (uF (zk c2) ?_))))
    repeat refine za ?_
    rw [aaM, e2]
  ·right
   have hdone := aD7 (q := q) (r := r) hP g4 hVe s4 s5 hUlo zb zb hVB hQ2 zb
   refine ⟨.inl (q, ()), ?_, q, by omega, by omega, by omega, rfl⟩
   refine uF (zk c1) (uN ⟨by omega, by rw [aaB, hn]; omega⟩ (uN ⟨by omega, by omega⟩ (uF (zk c3) ?_)))
   repeat refine za ?_
   rfl
theorem aGp {b s t L : Nat} (hs : s * (t + 1) ≤ 1000000000) (hs1 : 1 ≤ s) (h1 : 1000000000 ^ L * t ≤ b) (h2 : b < 1000000000 ^ L * (t + 1)) (ht : 1 ≤ t) : (mag (b * s)).length = L + 1 := by
 have a1 : b * s < 1000000000 ^ (L + 1) := by
  have c1 : b * s < (1000000000 ^ L * (t + 1)) * s := Nat.mul_lt_mul_of_pos_right h2 zb
  have c2 : (1000000000 ^ L * (t + 1)) * s = 1000000000 ^ L * (s * (t + 1)) := by rw [Nat.mul_assoc, xv (t + 1)]
  have c3 : 1000000000 ^ L * (s * (t + 1)) ≤ 1000000000 ^ L * 1000000000 := yd _ hs
  rw [yL]; omega
 have a2 := mag_length_le_iff.2 a1
 have a3 : 1000000000 ^ L ≤ b * s := by
  have c1 : 1000000000 ^ L * 1 ≤ 1000000000 ^ L * t := yd _ ht
  have c2 : b * 1 ≤ b * s := yd _ hs1
  omega
 rcases zD L (mag (b * s)).length with h | h
 ·omega
 ·have := mag_length_le_iff.1 h; omega
theorem aIJ (m o : List Int) (y : Int × Unit) (y4 : List Int × Unit) (v q u : List Int) (j n : Nat) (qq : Int) (X : (Int × List Int × List Int × Unit) ⊕ (List Int × List Int × Unit)) (hvd : Dg 1000000000 v) (g7 : Dg 1000000000 u) (lv : v.length = n + 2) (g6 : u.length = m.length + 1) (hN : m.length ≤ 1000000000000) (hj : j + n + 2 < u.length) (hvtop : 1 ≤ v.getD (n + 1) 0)
  (p4 : acD (fun i1 => (aeW m o y (v, ()) y4 ((j : Int), q, u, ()) i1).toO) ((u.getD (j + n + 2) 0 * 1000000000 + u.getD (j + n + 1) 0) % v.getD (n + 1) 0, (u.getD (j + n + 2) 0 * 1000000000 + u.getD (j + n + 1) 0) / v.getD (n + 1) 0, ()) = some (.inl (qq, ())))
  (r1 : acD (fun i1 => (aeV m o y (v, ()) y4 ((j : Int), q, u, ()) (qq, ()) i1).toO) (0, 0, 0, u, ()) = some X) : (agP m o y (v, ()) y4 ((j : Int), q, u, ())).toO = some X := by
 have wlv : len v = ((n + 2 : Nat) : Int) := by rw [aaB, lv]
 have wa : w64 (w64 ((j : Int) + len v) + 1) = ((j + n + 2 + 1 : Nat) : Int) := by rw [wlv, aaC (x := (j : Int) + ((n + 2 : Nat) : Int)) zb, aaC zb]; omega
 have wb : ((((j + n + 2 + 1 : Nat) : Int).toNat - (j : Int).toNat : Nat) : Int) = ((n + 3 : Nat) : Int) := zb
 have wb1 : w64 (len v - 1) = ((n + 1 : Nat) : Int) := by rw [wlv, aaC zb]; omega
 have w2 : w64 (len m + 1) = ((m.length + 1 : Nat) : Int) := by rw [aaB, aaC zb]; omega
 have dv1 := aaU zb hvd (n + 1)
 have du0 := aaU zb g7 (j + n + 2)
 have du1 := aaU zb g7 (j + n + 1)
 have hgi1 : abG (gi v ((n + 1 : Nat) : Int) 0) = v.getD (n + 1) 0 := by rw [aaQ, aaL zb]
 have wH : abG (abG (abG (u.getD (j + (n + 2)) 0) * 1000000000) + abG (u.getD (j + (n + 1)) 0)) = u.getD (j + n + 2) 0 * 1000000000 + u.getD (j + n + 1) 0 := by
  rw [show j + (n + 2) = j + n + 2 by omega, show j + (n + 1) = j + n + 1 by omega, aaL (x := u.getD (j + n + 2) 0) zb, aaL (x := u.getD (j + n + 2) 0 * 1000000000) zb, aaL (x := u.getD (j + n + 1) 0) zb, aaL zb]
 have hH0 : 0 ≤ u.getD (j + n + 2) 0 * 1000000000 + u.getD (j + n + 1) 0 := zb
 have tm := yb (b := v.getD (n + 1) 0) hH0
 have td := zQ (b := v.getD (n + 1) 0) hH0
 have hdle : (u.getD (j + n + 2) 0 * 1000000000 + u.getD (j + n + 1) 0) / v.getD (n + 1) 0 ≤ u.getD (j + n + 2) 0 * 1000000000 + u.getD (j + n + 1) 0 := Int.ediv_le_self _ hH0
 have hdge : 0 ≤ (u.getD (j + n + 2) 0 * 1000000000 + u.getD (j + n + 1) 0) / v.getD (n + 1) 0 := xE hH0 zb
 have wq : abG ((u.getD (j + n + 2) 0 * 1000000000 + u.getD (j + n + 1) 0) / v.getD (n + 1) 0) = (u.getD (j + n + 2) 0 * 1000000000 + u.getD (j + n + 1) 0) / v.getD (n + 1) 0 := aaL zb
 simp only [agP, wa, wb, wb1, hgi1, w2, zn, zp]
 have wlt : (len v).toNat = n + 2 := by rw [wlv]; omega
 simp only [wlt, wH, tm, td, wq]
 refine uT sd (uN ⟨by omega, by omega⟩ (uN ⟨by omega, by omega⟩ (uN ⟨by omega, by omega⟩ (uN ⟨by omega, by omega⟩ (uN ⟨by omega, by omega⟩ (uN zb (uN zb ?_)))))))
 refine uL (qq, ()) ?_ ?_
 ·refine uO ((u.getD (j + n + 2) 0 * 1000000000 + u.getD (j + n + 1) 0) % v.getD (n + 1) 0, (u.getD (j + n + 2) 0 * 1000000000 + u.getD (j + n + 1) 0) / v.getD (n + 1) 0, ()) ?_ p4
  repeat refine za ?_
  rfl
 ·unfold apA
  refine uO (0, 0, 0, u, ()) (by repeat refine za ?_; rfl) ?_
  exact r1
set_option maxHeartbeats 1000000 in
theorem axP (m o : List Int) (y) (h : aeM (m, o, ()) = some y) : (alS m o).toO = some y := by
 obtain ⟨⟨a, b⟩, hp, hx, rfl⟩ := aaP h
 obtain ⟨rfl, hx2⟩ := Prod.mk.inj hx; obtain ⟨rfl, -⟩ := Prod.mk.inj hx2; dsimp only
 obtain ⟨la, lb, hb0⟩ := hp
 simp only at la lb hb0
 clear h hx hx2
 unfold alS
 have hcmp : ad0 (mag a, mag b, ()) = some (aBx a b, ()) := aa0 (enc := fun p : Nat × Nat => (mag p.1, mag p.2, ())) (a, b) ⟨by dsimp only; omega, by dsimp only; omega⟩ (fun b hb => agS hb)
 refine uC _ hcmp ?_
 by_cases hab : a < b
 ·refine uT (zm (by unfold aBx; rw [if_pos zb]; show (-1 : Int) < 0; omega)) ?_
  rw [yW hab, yo hab, mag_zero]; rfl
 refine uF (zk (by unfold aBx; rw [if_neg zb]; split <;> decide)) ?_
 have hbl : 1 ≤ (mag b).length := by
  rcases zL (mag b).length with h5 | h5
  ·exact absurd (mag_nil_iff.1 (yk.1 h5)) hb0
  ·exact h5
 have hshort : ∀ x d : Nat, (mag x).length ≤ 1000000000000 → 0 < d → d < 4294967296 → ahW (mag x, (d : Int), ()) = some (mag (x / d), ((x % d : Nat) : Int), ()) := by
  intro x d h1 h2 h3
  refine aa0 (enc := fun p : Nat × Nat => (mag p.1, (p.2 : Int), ())) (x, d) ⟨h1, h2, h3⟩ (fun b hb => ?_)
  obtain ⟨e1, e2⟩ := Prod.mk.inj hb
  obtain ⟨e2, -⟩ := Prod.mk.inj e2
  exact Prod.ext (afU e1) (Int.ofNat.inj e2)
 by_cases h1 : (mag b).length = 1
 ·refine uT sd (uN ⟨by simp [asT], by exact sn⟩ ?_)
  have hb1 : b < 1000000000 := by have := mag_length_le_iff.1 (xN h1); simpa using this
  have hg : gi (mag b) 0 0 = (b : Int) := by rw [aAg hb0 hb1]; rfl
  rw [hg]
  refine uC _ (hshort a b zb zb zb) ?_
  have hm := xl a (show 0 < b by omega)
  generalize a % b = r at hm ⊢
  refine uC (mag r, ()) ?_ rfl
  dsimp only
  rw [aaL (x := (r : Int)) zb]
  unfold acQ
  rw [if_pos zh]
  simp
 refine uF sd ?_
 obtain ⟨n, hnl⟩ : ∃ n, (mag b).length = n + 2 := ⟨(mag b).length - 2, by omega⟩
 have hml : n + 2 ≤ (mag a).length := by rw [← hnl]; exact ac0 zb
 obtain ⟨t, ht, t1, t2, t3, t4⟩ := aCt hb0
 have w1 : w64 (len (mag b) - 1) = ((n + 1 : Nat) : Int) := by rw [aaB, hnl, aaC zb]; omega
 rw [hnl, show n + 2 - 1 = n + 1 by omega] at ht t3 t4
 have hg : gi (mag b) ((n + 1 : Nat) : Int) 0 = (t : Int) := by rw [aaQ, ht]
 have wt : agC ((t : Int) + 1) = ((t + 1 : Nat) : Int) := by rw [aa5 zb]; omega
 obtain ⟨s, hs⟩ : ∃ s, s = 1000000000 / (t + 1) := ⟨_, rfl⟩
 have hs1 : 1 ≤ s := by rw [hs]; exact (Nat.le_div_iff_mul_le zb).2 zb
 have hs2 : s * (t + 1) ≤ 1000000000 := by rw [hs]; exact Nat.div_mul_le_self _ _
 have hs3 : s < 1000000000 := by
  have : s * 2 ≤ s * (t + 1) := yd _ zb
  omega
 have ws : agC (Int.tdiv 1000000000 ((t + 1 : Nat) : Int)) = (s : Int) := by
  have : Int.tdiv 1000000000 ((t + 1 : Nat) : Int) = (s : Int) := by
   rw [zQ zb, hs]; rfl
  rw [this, aa5 zb]
 simp only [w1, hg, wt, ws]
 refine uN sd (uN zb ?_)
 have hms : mag s = [(s : Int)] := aAg zb hs3
 have lv : (mag (b * s)).length = n + 2 := aGp hs2 hs1 t3 t4 t1
 have htimes : ∀ x : Nat, (mag x).length ≤ 1000000000000 → ahV (mag x, [(s : Int)], ()) = some (mag (x * s), ()) := by
  intro x hx
  rw [← hms]
  exact aa0 (enc := fun p : Nat × Nat => (mag p.1, mag p.2, ())) (x, s) ⟨hx, by rw [hms]; simp⟩ (fun b hb => agS hb)
 refine uC _ (htimes b zb) ?_
 have w2 : w64 (len (mag a) + 1) = (((mag a).length + 1 : Nat) : Int) := by rw [aaB, aaC zb]; omega
 obtain ⟨K, hK⟩ : ∃ K, (mag a).length = K + n + 2 := ⟨(mag a).length - (n + 2), by omega⟩
 have w3 : w64 (len (mag a) - len (mag (b * s))) = (K : Int) := by rw [aaB, aaB, lv, hK, aaC zb]; omega
 have w4 : w64 ((K : Int) + 1) = ((K + 1 : Nat) : Int) := by rw [aaC zb]; omega
 simp only [w2, w3, w4]
 refine uN zb ?_
 refine uC _ (htimes a zb) ?_
 refine uN zb ?_
 have las : (mag (a * s)).length ≤ (mag a).length + 1 := by
  have := akX a s
  rw [hms] at this; simpa using this
 have htk : List.take (mag a).length.succ (mag (a * s)) = mag (a * s) := zr las
 -- the start
 have hu0d : Dg 1000000000 (over (List.replicate ((mag a).length + 1) 0) 0 (mag (a * s))) := by
  rw [anX las]; exact agB (ajM _) (agY zb _)
 have hu0V : V 1000000000 (over (List.replicate ((mag a).length + 1) 0) 0 (mag (a * s))) = ((a * s : Nat) : Int) := by rw [aQE las, atN]
 have hu0l : (over (List.replicate ((mag a).length + 1) 0) 0 (mag (a * s))).length = (mag a).length + 1 := by rw [anX las]; simp; omega
 refine uO ((K : Int), List.replicate (K + 1) 0, over (List.replicate ((mag a).length + 1) 0) 0 (mag (a * s)), ()) ?_ ?_
 ·repeat refine za ?_
  simp only [zn, w4]
  rw [show List.take ((mag a).length + 1) (mag (a * s)) = mag (a * s) from htk]
  rfl
 generalize hu0 : over (List.replicate ((mag a).length + 1) 0) 0 (mag (a * s)) = u0 at *
 have hvd := ajM (b * s)
 have hvV := atN (b * s)
 have hvpos : 0 < b * s := Nat.mul_pos zb zb
 have hvtop : 1 ≤ (mag (b * s)).getD (n + 1) 0 := by
  obtain ⟨t', e1, e2, -⟩ := aCt (n := b * s) zb
  rw [lv, show n + 2 - 1 = n + 1 by omega] at e1
  omega
 generalize hv : mag (b * s) = v at *
 have hdrop0 : V 1000000000 (u0.drop (K + 1)) < V 1000000000 v := by
  have e1 := ab0 1000000000 u0 (K + 1)
  have e2 := aaH zb (abZ hu0d (K + 1))
  have e3 := aaH zb (acB hu0d (K + 1))
  rw [hu0V] at e1
  have a1 : a < 1000000000 ^ (K + 1) * b := by
   have c1 := mag_length_le_iff.1 (xN hK)
   have c2 : 1000000000 ^ (n + 1) ≤ b := by
    have : 1000000000 ^ (n + 1) * 1 ≤ 1000000000 ^ (n + 1) * t := yd _ t1
    omega
   have c3 : 1000000000 ^ (K + 1) * 1000000000 ^ (n + 1) ≤ 1000000000 ^ (K + 1) * b := yd _ c2
   rw [← Nat.pow_add, show K + 1 + (n + 1) = K + n + 2 by omega] at c3
   omega
  have a2 : a * s < (1000000000 ^ (K + 1) * b) * s := Nat.mul_lt_mul_of_pos_right a1 zb
  have a3 : ((a * s : Nat) : Int) < (((1000000000 ^ (K + 1) * b) * s : Nat) : Int) := Int.ofNat_lt.2 a2
  have a4 : ((((1000000000 ^ (K + 1) * b) * s : Nat)) : Int) = 1000000000 ^ (K + 1) * V 1000000000 v := by
   rw [hvV, Nat.mul_assoc, xA, Int.natCast_pow]; rfl
  rw [a4] at a3
  have a5 : 1000000000 ^ (K + 1) * V 1000000000 (u0.drop (K + 1)) < 1000000000 ^ (K + 1) * V 1000000000 v := zb
  exact yM a5 (wA (yG zb))
 refine aa2 (fun i : Int × List Int × List Int × Unit => ∃ k : Nat, k ≤ K + 1 ∧ i.1 = (k : Int) - 1 ∧ i.2.1.length = K + 1 ∧ Dg 1000000000 i.2.1 ∧ (∀ p, p < k → i.2.1.getD p 0 = 0) ∧ i.2.2.1.length = (mag a).length + 1 ∧ Dg 1000000000 i.2.2.1 ∧ V 1000000000 (i.2.2.1.drop k) < V 1000000000 v ∧ ((a * s : Nat) : Int) = V 1000000000 i.2.1 * V 1000000000 v + V 1000000000 i.2.2.1) (fun i => (i.1 + 1).toNat) (fun _ => (mag (a / b), mag (a % b), ())) ?_ _ ⟨K + 1, zj _, by dsimp only; omega, by simp, agY zb _, fun p _ => by simp [zP, List.getElem?_replicate]; split <;> rfl, hu0l, hu0d, hdrop0, by rw [atM, hu0V]; omega⟩
 rintro ⟨i, q, u, u6⟩ ⟨k, g1, g2, g3, g4, g5, g6, g7, g8, g9⟩
 dsimp only at g2 g3 g4 g5 g6 g7 g8 g9
 subst g2
 cases k with
 | zero =>
  right
  rw [yz] at g8
  obtain ⟨x, hx⟩ := zM (aaH zb g4)
  obtain ⟨r, hr⟩ := zM (aaH zb g7)
  rw [hx, hr, hvV] at g9
  rw [hr, hvV] at g8
  have h8 : a * s = x * (b * s) + r := by
   have : ((a * s : Nat) : Int) = ((x * (b * s) + r : Nat) : Int) := by rw [g9]; simp
   exact Int.ofNat.inj this
  have h9 : x = a / b := by
   have : a * s / (b * s) = x := by rw [h8, xj, xY _ _ hvpos, yW zb, zp]
   rw [← this, Nat.mul_div_mul_right _ _ zb]
  have h10 : r = (a % b) * s := by
   have : a * s % (b * s) = r := by rw [h8, xj, xG, yo zb]
   rw [← this, Nat.mul_mod_mul_right]
  have hrl : (mag r).length ≤ n + 2 := by rw [← lv, ← hv]; exact ac0 zb
  have hVtake : V 1000000000 (u.take (n + 2)) = r := by
   have e1 := ab0 1000000000 u (n + 2)
   have e2 := aaH zb (abZ g7 (n + 2))
   have e3 := aaH zb (acB g7 (n + 2))
   have e4 : V 1000000000 u < 1000000000 ^ (n + 2) := by
    have := aF6 zb hvd
    rw [lv] at this
    omega
   have e5 : V 1000000000 (u.drop (n + 2)) < 1 := by
    have : 1000000000 ^ (n + 2) * V 1000000000 (u.drop (n + 2)) < 1000000000 ^ (n + 2) * 1 := zb
    exact yM this (wA (yG zb))
   have e6 : V 1000000000 (u.drop (n + 2)) = 0 := zb
   rw [e6, wF] at e1
   omega
  have wlv : len v = ((n + 2 : Nat) : Int) := by rw [aaB, lv]
  simp only [agP, w1, hg, wt, ws, w2, w3, w4, wlv, zn]
  have wkk : w64 (w64 (len (mag a) - ((n + 2 : Nat) : Int)) + 1) = ((K + 1 : Nat) : Int) := by rw [← wlv, w3, w4]
  simp only [wkk, zn]
  refine uF sd (uN ⟨by omega, by omega⟩ ?_)
  have htr : ∀ (l : List Int) (z : Nat), Dg 1000000000 l → l.length ≤ 2000000000000 → V 1000000000 l = z → acK (l, ()) = some (mag z, ()) := by
   intro l z h1 h2 h3
   unfold acK
   rw [if_pos ⟨h1, h2⟩]
   simp only [h3, zn]
  refine uC _ (htr _ r (abZ g7 _) (by rw [zY]; omega) hVtake) ?_
  refine uC _ (hshort r s zb zb zb) ?_
  have htq : List.take (K + 1) q = q := zr zb
  rw [htq]
  refine uC _ (htr q x g4 zb hx) ?_
  rw [aaM, h9, h10, Nat.mul_div_cancel _ zb]
 | succ j =>
  left
  have e6 : ((j + 1 : Nat) : Int) - 1 = (j : Int) := zb
  rw [e6]
  have wlv : len v = ((n + 2 : Nat) : Int) := by rw [aaB, lv]
  have wa : w64 (w64 ((j : Int) + len v) + 1) = ((j + n + 2 + 1 : Nat) : Int) := by rw [wlv, aaC (x := (j : Int) + ((n + 2 : Nat) : Int)) zb, aaC zb]; omega
  have wb : ((((j + n + 2 + 1 : Nat) : Int).toNat - (j : Int).toNat : Nat) : Int) = ((n + 3 : Nat) : Int) := zb
  have wb1 : w64 (len v - 1) = ((n + 1 : Nat) : Int) := by rw [wlv, aaC zb]; omega
  have hvpos' : 0 < V 1000000000 v := by rw [hvV]; omega
  have du := aaU zb g7 j
  have eU := aaJ 1000000000 u j
  have hU0 := aaH zb (acB g7 j)
  have hUB : V 1000000000 (u.drop j) < V 1000000000 v * 1000000000 := zb
  have hvlt : V 1000000000 v < 1000000000 ^ (n + 2) := by have := aF6 zb hvd; rwa [lv] at this
  have hz : V 1000000000 (u.drop (j + n + 2 + 1)) = 0 := by
   have e1 := ab0 1000000000 (u.drop (j + 1)) (n + 2)
   rw [zT, show j + 1 + (n + 2) = j + n + 2 + 1 by omega] at e1
   have e2 := aaH zb (abZ (acB g7 (j + 1)) (n + 2))
   have e3 := aaH zb (acB g7 (j + n + 2 + 1))
   have e5 : V 1000000000 (u.drop (j + n + 2 + 1)) < 1 := by
    have : 1000000000 ^ (n + 2) * V 1000000000 (u.drop (j + n + 2 + 1)) < 1000000000 ^ (n + 2) * 1 := zb
    exact yM this (wA (yG zb))
   omega
  obtain ⟨Q, hQ⟩ : ∃ Q, Q = V 1000000000 (u.drop j) / V 1000000000 v := ⟨_, rfl⟩
  have hdm := yg (V 1000000000 (u.drop j)) (V 1000000000 v)
  have hr0 := xy (V 1000000000 (u.drop j)) (show V 1000000000 v ≠ 0 by omega)
  have hr1 := xu (V 1000000000 (u.drop j)) hvpos'
  have hQ0 : 0 ≤ Q := by rw [hQ]; exact xE hU0 zb
  rw [← hQ, xe] at hdm
  have hQB : Q < 1000000000 := by
   have : Q * V 1000000000 v < 1000000000 * V 1000000000 v := zb
   exact yc this zb
  obtain ⟨qq, p1, p2, p3, p4⟩ := aII (mag a) (mag b) (aBx a b, ()) (mag (a * s), ()) v q u j n (V 1000000000 (u.drop j)) Q hvd lv zb zb g7 hz rfl hUB zb (by rw [wo]; omega) hQ0 hvtop
  obtain ⟨u', r1, r2, r3, r4, r5⟩ := aIH (mag a) (mag b) (aBx a b, ()) (mag (a * s), ()) v q u j (n + 2) qq Q hvd lv zb zb g7 ⟨p2, p3⟩ (by rw [w3, w4]; exact ⟨by omega, by omega⟩) hz p1 zb zb hQ0
  have k1 : j ≤ K + 1 := Nat.le_of_succ_le g1
  have k3 : (q.set j Q).length = K + 1 := by rw [wy]; exact g3
  have k4 := ai4 g4 ⟨hQ0, hQB⟩ j
  have k6 : u'.length = (mag a).length + 1 := by rw [r2]; exact g6
  have k8 : V 1000000000 (u'.drop j) < V 1000000000 v := by rw [r5]; omega
  have k9 : ((j : Int) - 1 + 1).toNat < ((j : Int) + 1).toNat := zb
  refine ⟨((j : Int) - 1, q.set j Q, u', ()), ?_, ⟨j, k1, rfl, k3, k4, ?_, k6, r3, k8, ?_⟩, k9, ze⟩
  ·exact aIJ (mag a) (mag b) (aBx a b, ()) (mag (a * s), ()) v q u j n qq _ hvd g7 lv g6 zb zb hvtop p4 r1
  ·intro p hp
   dsimp only
   rw [alN _ zb]
   exact g5 p zb
  ·dsimp only
   rw [auJ _ zb, g5 j zb, r4, g9]
   grind
set_option maxRecDepth 100000
open Go Go.Vg Go.Proofs
noncomputable section
def aF8 : LTab := [(221, 12, 1025, ⟨0, (List Int) × Unit, .dat (.s 0) uk <| .nil, [2], [], 0⟩)]
def aEq : LTab := [(165, 218, 5122, ⟨0, (Int) × Bool × (List Int) × Unit, .dat (.s 4) vC <| .appN (.s 3) 5 211 vH <| .nil, [2, 0], [], 1⟩), (165, 55834, 13314, ⟨1, (Int) × (Int) × Unit, .dat (.s 7) vC <| .dat (.s 6) vH <| .nil, [15, 5, 14, 13, 12, 3, 4, 2, 0], [], 0⟩), (165, 55834, 13313, ⟨2, (Int) × (Int) × Unit, .dat (.s 7) vC <| .dat (.s 6) vH <| .nil, [15, 5, 14, 13, 12, 3, 4, 2, 0], [5], 0⟩)]
end
set_option maxRecDepth 1000000
open Go Go.Vg Go.Proofs
noncomputable section
def aNi : OkC := ⟨77, _, aOb⟩
def arU : OkC := ⟨122, _, az2⟩
def aHR : OkC := ⟨4, _, aEV⟩
def aE5 := okT 113 (P1 .str) (P1 .bool) adB aES [] Tryz.func113 (fun x => anV x.1) fun _ y _ h => azX _ y h
def aE4 := okT 69 (P1 (P3 .str tL (.arr 3 (.int .i64)))) (P1 .bool) akM aER [aE5] Tryz.func69 (fun x => anU x.1) fun _ y _ h => azW _ y h
def aE6 := okT 41 (P1 (.sl (P3 .str tL (.arr 3 (.int .i64))))) (P1 tI) ahT aET [aE4] Tryz.func41 (fun x => anW x.1) fun _ y _ h => azY _ y h
def ao0 := okT 23 (P2 (.sl (P3 .str tL (.arr 3 (.int .i64)))) (.sl (P3 .str tL (.arr 3 (.int .i64))))) (P1 .bool) ae1 azT [aE6] Tryz.func23 (fun x => aoZ x.1 x.2.1) fun _ y _ h => at7 _ _ y h
def aE2 := okT 8 (P2 (.sl (P3 .str tL (.arr 3 (.int .i64)))) (.sl (P3 .str tL (.arr 3 (.int .i64))))) (P2 (.sl (.arr 2 (.int .i64))) tI) aeL aEO [ao0] Tryz.func8 (fun x => au2 x.1 x.2.1) fun _ y _ h => azU _ _ y h
def aCk := okT 70 (P1 .str) (P1 .bool) aeJ aBW [] Tryz.func70 (fun x => ak8 x.1) fun _ y _ h => aw4 _ y h
def aHT := okT 43 (P2 (P3 .str tL (.arr 3 (.int .i64))) tI) (P1 .bool) am4 aGC [aCk] Tryz.func43 (fun x => aq4 x.1 x.2.1) fun _ y _ h => aBV _ _ y h
def aCl := okT 25 (P1 (.sl (P3 .str tL (.arr 3 (.int .i64))))) (P1 .bool) af7 aBX [aHT] Tryz.func25 (fun x => ak9 x.1) fun _ y _ h => aw5 _ y h
def arS := okT 9 (P2 (.sl (P3 .str tL (.arr 3 (.int .i64)))) (.sl (P3 .str tL (.arr 3 (.int .i64))))) (P2 (.sl (.arr 2 (.int .i64))) tI) af6 aBT [aCl] Tryz.func9 (fun x => aq2 x.1 x.2.1) fun _ y _ h => aw2 _ _ y h
def aP0 := okT 45 (P1 tI) (P1 .str) atO aO6 [aNi] Tryz.func45 (fun x => aMd x.1) fun _ y _ h => aJ2 _ y h
def aHQ := okT 221 (P1 tM) (P1 tM) aJH aF8 [] Tryz.func221 (fun x => asC x.1) fun _ y _ h => asD _ y h
def aEX := okT 165 (P1 .str) (P1 tM) ahO aEq [aHQ] Tryz.func165 (fun x => an9 x.1) fun _ y _ h => apC _ y h
end
set_option maxRecDepth 1000000
open Go Go.Vg Go.Proofs
noncomputable section
def arV := okT 116 tF (P2 .str .bool) acR aCV [] Tryz.func116 (fun x => alY x.1 x.2.1) fun _ y hw h => ax5 _ _ (zt hw.1 zc) y h
def aLf := okT 115 (P1 .str) (P2 (P2 tM .bool) .bool) aiU aJ1 [aEX, arV] Tryz.func115 (fun x => awK x.1) fun _ y _ h => aEp _ y h
def aHS := okT 71 (P1 .str) (P1 tI) ahP aGb [aLf] Tryz.func71 (fun x => aqM x.1) fun _ y _ h => aBB _ y h
def amJ := okT 167 (P1 tM) (P1 tM) acK aIF [] Tryz.func167 (fun x => asC x.1) fun _ y _ h => asD _ y h
def aFc := okT 117 (P1 .str) (P1 tM) afM aFw [amJ] Tryz.func117 (fun x => an9 x.1) fun _ y _ h => apC _ y h
def aFb := okT 72 (P1 .str) (P1 (P2 tM .bool)) ahX aFv [arV, aFc] Tryz.func72 (fun x => avQ x.1) fun _ y _ h => aAK _ y h
def amI := okT 73 (P1 tM) (P1 .bool) adO aIE [] Tryz.func73 (fun x => asB x.1) fun _ y _ h => aCG _ y h
def au8 := okT 75 (P2 tM .bool) (P1 (P2 tM .bool)) adC aFu [amI] Tryz.func75 (fun x => avP x.1 x.2.1) fun _ y _ h => aAJ _ _ y h
def amK := okT 169 (P1 (.int .u64)) (P1 tM) acQ axS [] Tryz.func169 (fun x => amU x.1) fun _ y _ h => asL _ y h
def aE9 := okT 168 (P1 tM) (P1 (.int .u64)) akN aFr [] Tryz.func168 (fun x => avM x.1) fun _ y _ h => aAA _ y h
def aFa := okT 170 (P2 tM (.int .u32)) (P2 tM (.int .u32)) ahW aFs [amJ] Tryz.func170 (fun x => an7 x.1 x.2.1) fun _ y _ h => aAB _ _ y h
def az7 := okT 124 (P2 tM tM) (P1 tI) ad0 aAE [] Tryz.func124 (fun x => ajS x.1 x.2.1) fun _ y _ h => auC _ _ y h
end
set_option maxRecDepth 1000000
open Go Go.Vg Go.Proofs
noncomputable section
def aE8 := okT 171 (P2 tM tM) (P1 tM) ahV aFq [amJ] Tryz.func171 (fun x => an6 x.1 x.2.1) fun _ y _ h => aAz _ _ y h
def arT := okT 119 (P2 tM tM) (P2 tM tM) aeM aCI [amJ, aFa, az7, amK, aE8] Tryz.func119 (fun x => alS x.1 x.2.1) fun _ y _ h => axP _ _ y h
def aLj := okT 118 (P2 tM tM) (P1 tM) aqJ aLK [amK, aE9, arT, amI] Tryz.func118 (fun x => axO x.1 x.2.1) fun _ y _ h => aFt _ _ y h
def aCp := okT 74 (P2 (P2 tM .bool) tM) (P1 (P2 (P2 tM .bool) tM)) aiY aCL [aLj, arT, au8] Tryz.func74 (fun x => alT x.1 x.2.1) fun _ y _ h => axR _ _ y h
def aCo := okT 120 (P1 tM) (P1 tI) af9 aCH [amI, aNi] Tryz.func120 (fun x => alR x.1) fun _ y _ h => axN _ y h
def aHX := okT 121 (P1 (P2 tM .bool)) (P1 .str) am8 aIL [arU] Tryz.func121 (fun x => asK x.1) fun _ y _ h => aCK _ y h
def aE7 := okT 76 (P1 (P2 (P2 tM .bool) tM)) (P2 tF tI) ahU aFp [aCo, aHX, arU] Tryz.func76 (fun x => an4 x.1) fun _ y _ h => aAx _ y h
def aLk := okT 44 tF (P2 tF tI) am9 aLN [aHS, aFb, amI, au8, aCp, aE7] Tryz.func44 (fun x => axT x.1 x.2.1) fun _ y _ h => aFx _ _ y h
def aP1 := okT 29 tB (P2 tF tI) ahY aQj [aP0, aLk] Tryz.func29 (fun x => aNu x.1 x.2.1) fun _ y _ h => aLM _ _ y h
def axD := okT 26 (P1 tL) tB afE axA [] Tryz.func26 (fun x => amB x.1) fun _ y _ h => arL _ y h
def aE3 := okT 10 (P2 (.sl (P3 .str tL (.arr 3 (.int .i64)))) (.sl (P3 .str tL (.arr 3 (.int .i64))))) (P2 (.pair tI (P4 (.arr 3 (.pair .str (.pair .str .unit))) tF tF tI)) tI) afL aEP [aP1, axD, ao0] Tryz.func10 (fun x => au3 x.1 x.2.1) fun _ y _ h => azV _ _ y h
def amH := okT 164 (P1 tL) (P1 tL) abM aKA [] Tryz.func164 (fun x => aDA x.1) fun _ y _ h => aEJ _ y h
end
set_option maxRecDepth 1000000
open Go Go.Vg Go.Proofs
noncomputable section
def amG := okT 112 (P2 .bool tL) (P1 (P2 .bool tL)) abY aGF [amH] Tryz.func112 (fun x => azK x.1 x.2.1) fun _ y _ h => aB3 _ _ y h
def ajL := okT 68 (P1 tI) (P1 (P2 .bool tL)) abP azP [amG] Tryz.func68 (fun x => aoX x.1) fun _ y _ h => at5 _ y h
def az4 := okT 148 (P1 (P2 .bool tL)) (P1 (P2 .bool tL)) ahS aGH [amG] Tryz.func148 (fun x => azM x.1) fun _ y _ h => aB5 _ y h
def az3 := okT 262 (P2 tL tL) (P1 tL) abF azG [amH] Tryz.func262 (fun x => adQ x.1 x.2.1) fun _ y _ h => at4 _ _ y h
def au7 := okT 261 (P2 tL tL) (P1 tI) adZ aEI [] Tryz.func261 (fun x => anO x.1 x.2.1) fun _ y _ h => azJ _ _ y h
def ajK := okT 263 (P2 tL tL) (P1 tL) aaY arH [amH] Tryz.func263 (fun x => ajG x.1 x.2.1) fun _ y _ h => anQ _ _ y h
def aHU := okT 260 (P2 tL tI) (P2 tL tI) am5 aGE [amH] Tryz.func260 (fun x => arF x.1 x.2.1) fun _ y _ h => aB2 _ _ y h
def au6 := okT 213 (P2 tL tL) (P2 tL tL) ahR aEH [amH, az3, au7, ajK, aHU] Tryz.func213 (fun x => anN x.1 x.2.1) fun _ y _ h => azH _ _ y h
def az6 := okT 149 (P2 (P2 .bool tL) (P2 .bool tL)) (P1 (P2 .bool tL)) ae0 azQ [au6] Tryz.func149 (fun x => aoY x.1 x.2.1) fun _ y _ h => at6 _ _ y h
def aLi := okT 264 (P2 tL tL) (P1 tL) aqI aKz [] Tryz.func264 (fun x => aDz x.1 x.2.1) fun _ y _ h => aEG _ _ y h
def az5 := okT 214 (P2 (P2 .bool tL) (P2 .bool tL)) (P1 (P2 .bool tL)) af8 aGJ [aLi, amG, au7, ajK] Tryz.func214 (fun x => arJ x.1 x.2.1) fun _ y _ h => aB7 _ _ y h
def aE1 := okT 215 (P2 (P2 .bool tL) (P2 .bool tL)) (P1 (P2 .bool tL)) akL aEM [az4, az5] Tryz.func215 (fun x => auY x.1 x.2.1) fun _ y _ h => azO _ _ y h
end
set_option maxRecDepth 1000000
open Go Go.Vg Go.Proofs
noncomputable section
def aE0 := okT 150 (P2 (P2 .bool tL) (P2 .bool tL)) (P2 (P2 .bool tL) (P2 .bool tL)) aeK aEK [au6, amG, az5, ajL, aE1] Tryz.func150 (fun x => anS x.1 x.2.1) fun _ y _ h => azN _ _ y h
def aCm := okT 99 (P2 (P2 .bool tL) (P2 .bool tL)) (P1 (P2 (P2 .bool tL) (P2 .bool tL))) aiW aBZ [az4, az6, aE0] Tryz.func99 (fun x => alA x.1 x.2.1) fun _ y _ h => aw7 _ _ y h
def aEZ := okT 59 tB (P1 (P2 (P2 .bool tL) (P2 .bool tL))) akJ aEE [ajL, aCm] Tryz.func59 (fun x => auW x.1 x.2.1) fun _ y _ h => azF _ _ y h
def aHV := okT 163 (P1 tI) (P1 .str) am6 aGG [] Tryz.func163 (fun x => arG x.1) fun _ y _ h => aB4 _ y h
def aHW := okT 111 (P1 (P2 .bool tL)) (P1 .str) am7 aGI [aHV] Tryz.func111 (fun x => arI x.1) fun _ y _ h => aB6 _ y h
def aDI := okT 67 (P1 (P2 .bool tL)) (P2 .str tI) akK aKB [aHW] Tryz.func67 (fun x => aDB x.1) fun _ y _ h => aEL _ y h
def aLh := okT 58 (P1 (P2 (P2 .bool tL) (P2 .bool tL))) (P2 tF tI) aqH aKy [aDI] Tryz.func58 (fun x => aDy x.1) fun _ y _ h => aEF _ y h
def aOe := okT 37 tB (P2 tF tI) atP aN5 [aEZ, aLh] Tryz.func37 (fun x => aBY x.1 x.2.1) fun _ y _ h => aGD _ _ y h
def aLg := okT 32 tB (P1 tF) agX aKw [aOe] Tryz.func32 (fun x => aDx x.1 x.2.1) fun _ y _ h => aEB _ _ y h
def aCj := okT 11 (P2 (.sl (P3 .str tL (.arr 3 (.int .i64)))) (.sl (P3 .str tL (.arr 3 (.int .i64))))) (P2 (.pair tI (P4 (.arr 3 (.pair .str (.pair .str .unit))) tF tF tI)) tI) aiV aBU [aLg, arS] Tryz.func11 (fun x => aq3 x.1 x.2.1) fun _ y _ h => aw3 _ _ y h
def aOd := okT 12 (P2 (.sl (.arr 2 (.int .i64))) (.sl (.arr 2 (.int .i64)))) (P1 .bool) aoM aNP [] Tryz.func12 (fun x => aBK x.1 x.2.1) fun _ y _ h => aGk _ _ y h
def aEY := okT 22 (P3 (P2 (.int .u8) (.sl (.arr 7 (.int .i16)))) tI tI) (P1 (P3 .str tL (.arr 3 (.int .i64)))) ahQ aED [ajL, aDI] Tryz.func22 (fun x => ahD x.1 x.2.1 x.2.2.1) fun _ y _ h => azD _ _ _ y h
end
set_option maxRecDepth 1000000
open Go Go.Vg Go.Proofs
noncomputable section
def amF := okT 7 (P1 (P2 (.int .u8) (.sl (.arr 7 (.int .i16))))) (P1 (.sl (P3 .str tL (.arr 3 (.int .i64))))) adA aw6 [aEY] Tryz.func7 (fun x => ad7 x.1) fun _ y _ h => arA _ y h
def aCn := okT 5 (P1 (.pair (P2 (.int .u8) (.sl (.arr 7 (.int .i16)))) (P4 (.int .u8) (.sl (.arr 3 (.int .i8))) (.int .u8) (.int .u8)))) (P2 (.sl (P3 .str tL (.arr 3 (.int .i64)))) (.sl (P3 .str tL (.arr 3 (.int .i64))))) aiX aCz [amF] Tryz.func5 (fun x => afY x.1) fun _ y _ h => axG _ y h
def o_ProofDrifts := okT 3 (P2 (.pair (P2 (.int .u8) (.sl (.arr 7 (.int .i16)))) (P4 (.int .u8) (.sl (.arr 3 (.int .i8))) (.int .u8) (.int .u8))) (P2 (.int .u8) (.sl (.arr 7 (.int .i16))))) (P1 .bool) aiZ ayN [aE2, arS, aE3, aCj, aOd, amF, aHR, aCn] Tryz.func3 (fun x => anA x.1 x.2.1) fun _ y hw h => atQ _ _ (aF9 hw) y h
end
end Go.Vs
