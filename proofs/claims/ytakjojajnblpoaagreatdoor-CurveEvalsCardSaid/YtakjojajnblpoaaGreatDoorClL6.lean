/-
  Trees of what the functions compute, and their laws. Own work; no condition.
-/
import Derived.Test.YtakjojajnblpoaaGreatDoorClL5
import Derived.Test.YtakjojajnblpoaaGreatDoorProg
set_option linter.unusedVariables false
set_option linter.unusedSimpArgs false
namespace Go.Vs
open Go Go.Vg
theorem aOL {H v1 V P U Q : Int} (hP : 0 < P) (h1 : 0 < v1) (hV : v1 * P ≤ V) (hU : U < (H + 1) * P) (hQ : Q * V ≤ U) (hQ0 : 0 ≤ Q) : Q ≤ H / v1 := by
 rw [xM h1]
 have a1 : Q * (v1 * P) ≤ Q * V := zE hV hQ0
 have a2 : Q * v1 * P < (H + 1) * P := by rw [Int.mul_assoc]; omega
 have := yh a2 zc
 omega
theorem aRh {q r H v1 v2 V P U Q u2 B : Int} (hV0 : 0 ≤ V) (hP : 0 < P) (hinv : q * v1 + r = H) (hV : (v1 * B + v2) * P ≤ V) (hU : U < (H * B + u2 + 1) * P) (hQ : Q * V ≤ U) (hq : 0 ≤ q) (h : q * v2 > r * B + u2) : Q ≤ q - 1 := by
 have a1 : H * B + u2 + 1 ≤ q * (v1 * B + v2) := by
  have : q * (v1 * B + v2) = (q * v1 + r) * B - r * B + q * v2 := by grind
  rw [this, hinv]; omega
 have a2 : (H * B + u2 + 1) * P ≤ (q * (v1 * B + v2)) * P := zF a1 zc
 have a3 : q * ((v1 * B + v2) * P) ≤ q * V := zE hV hq
 rw [Int.mul_assoc] at a2
 have a4 : Q * V < q * V := zc
 have := yh a4 hV0
 omega
theorem aJb {q r H v1 v2 V V3 P U u2 B Q : Int} (hP : 0 < P) (hinv : q * v1 + r = H) (hVe : V = (v1 * B + v2) * P + V3) (hV3 : V3 < P) (hV30 : 0 ≤ V3) (hU : (H * B + u2) * P ≤ U) (hq : 0 ≤ q) (hqB : q < B) (hVB : B * P ≤ V) (hUQ : U < (Q + 1) * V) (h : q * v2 ≤ r * B + u2) : q ≤ Q + 1 := by
 have a1 : q * (v1 * B + v2) ≤ H * B + u2 := by
  have : q * (v1 * B + v2) = (q * v1 + r) * B - r * B + q * v2 := by grind
  rw [this, hinv]; omega
 have a2 : (q * (v1 * B + v2)) * P ≤ (H * B + u2) * P := zF a1 zc
 have a3 : q * V3 ≤ B * P := by
  have b1 : q * V3 ≤ q * P := zE zc hq
  have b2 : q * P ≤ B * P := zF zc zc
  omega
 have a4 : q * V = (q * (v1 * B + v2)) * P + q * V3 := by rw [hVe]; grind
 have a5 : q * V < (Q + 2) * V := by
  have : (Q + 2) * V = (Q + 1) * V + V := by grind
  omega
 have hVpos : 0 < V := by
  have : 0 < B * P := vo zc hP
  omega
 have := yh a5 zc
 omega
theorem aHz {u w : List Int} {j n : Nat} {Q Vv e U : Int} (hlen : w.length = u.length) (hjn : j + n < u.length) (hw : Dg 1000000000 w)
  (htk : w.take j = u.take j) (hdr : w.drop (j + n) = u.drop (j + n)) (hz : V 1000000000 (u.drop (j + n + 1)) = 0) (hU : U = V 1000000000 (u.drop j)) (hX0 : 0 ≤ U - Q * Vv) (hX1 : U - Q * Vv < 1000000000 ^ n)
  (hV : V 1000000000 w = V 1000000000 u - 1000000000 ^ j * (Q * Vv) + 1000000000 ^ (j + n) * e) :
  V 1000000000 (w.set (j + n) 0) = V 1000000000 u - 1000000000 ^ j * (Q * Vv) ∧ V 1000000000 ((w.set (j + n) 0).drop j) = U - Q * Vv ∧ e = u.getD (j + n) 0 := by
 have sw := acJ 1000000000 w j
 have su := acJ 1000000000 u j
 rw [htk] at sw
 have hPj : (0 : Int) < 1000000000 ^ j := yG zc
 have hPn : (0 : Int) < 1000000000 ^ n := yG zc
 have e1 : V 1000000000 (w.drop j) = U - Q * Vv + 1000000000 ^ n * e := by
  have : 1000000000 ^ j * V 1000000000 (w.drop j) = 1000000000 ^ j * (U - Q * Vv + 1000000000 ^ n * e) := by
   rw [wi] at hV
   rw [hU]
   have : (1000000000 : Int) ^ j * (V 1000000000 (u.drop j) - Q * Vv + 1000000000 ^ n * e) = 1000000000 ^ j * V 1000000000 (u.drop j) - 1000000000 ^ j * (Q * Vv) + 1000000000 ^ j * 1000000000 ^ n * e := by grind
   omega
  exact Int.eq_of_mul_eq_mul_left zc this
 have s2 := acJ 1000000000 (w.drop j) n
 rw [yb, hdr] at s2
 have s3 := aaU 1000000000 u (j + n)
 rw [hz, wu, vF] at s3
 rw [s3] at s2
 have l1 := adP zc (acZ hw j) n
 have l2 := aaT zc (acI (acZ hw j) n)
 have hget : w.getD (j + n) 0 = u.getD (j + n) 0 := by
  have h1 : (w.drop (j + n)).getD 0 0 = (u.drop (j + n)).getD 0 0 := by rw [hdr]
  simpa [yp, yX] using h1
 have he : e = u.getD (j + n) 0 := by
  have h1 : 1000000000 ^ n * (u.getD (j + n) 0 - e) = (U - Q * Vv) - V 1000000000 ((w.drop j).take n) := by
   rw [Int.mul_sub]; omega
  have h2 : u.getD (j + n) 0 - e < 1 := by
   have : 1000000000 ^ n * (u.getD (j + n) 0 - e) < 1000000000 ^ n * 1 := zc
   exact yR this zc
  have h3 : -1 < u.getD (j + n) 0 - e := by
   have : 1000000000 ^ n * (-1) < 1000000000 ^ n * (u.getD (j + n) 0 - e) := zc
   exact yR this zc
  omega
 refine ⟨?_, ?_, he⟩
 ·rw [azL _ zc, hget, hV, he, Int.mul_sub]
  omega
 ·have s4 : (w.set (j + n) 0).drop j = (w.drop j).set n 0 := by
   rw [List.drop_set, if_neg zc]; congr 1; omega
  rw [s4, azL _ (by rw [yA]; omega)]
  have : (w.drop j).getD n 0 = u.getD (j + n) 0 := by
   rw [← hget]; simp [yp, yX]
  rw [this, e1, he, Int.mul_sub]
  omega
theorem aSv {u w : List Int} {j n : Nat} {q Vv e U : Int} (hw : Dg 1000000000 w)
  (htk : w.take j = u.take j) (hdr : w.drop (j + n) = u.drop (j + n)) (hz : V 1000000000 (u.drop (j + n + 1)) = 0) (hU : U = V 1000000000 (u.drop j)) (hX0 : U - q * Vv < 0)
  (hV : V 1000000000 w = V 1000000000 u - 1000000000 ^ j * (q * Vv) + 1000000000 ^ (j + n) * e) : u.getD (j + n) 0 < e := by
 have sw := acJ 1000000000 w j
 have su := acJ 1000000000 u j
 rw [htk] at sw
 have hPj : (0 : Int) < 1000000000 ^ j := yG zc
 have hPn : (0 : Int) < 1000000000 ^ n := yG zc
 have e1 : V 1000000000 (w.drop j) = U - q * Vv + 1000000000 ^ n * e := by
  have : 1000000000 ^ j * V 1000000000 (w.drop j) = 1000000000 ^ j * (U - q * Vv + 1000000000 ^ n * e) := by
   rw [wi] at hV
   rw [hU]
   have : (1000000000 : Int) ^ j * (V 1000000000 (u.drop j) - q * Vv + 1000000000 ^ n * e) = 1000000000 ^ j * V 1000000000 (u.drop j) - 1000000000 ^ j * (q * Vv) + 1000000000 ^ j * 1000000000 ^ n * e := by grind
   omega
  exact Int.eq_of_mul_eq_mul_left zc this
 have s2 := acJ 1000000000 (w.drop j) n
 rw [yb, hdr] at s2
 have s3 := aaU 1000000000 u (j + n)
 rw [hz, wu, vF] at s3
 rw [s3] at s2
 have l2 := aaT zc (acI (acZ hw j) n)
 have : 1000000000 ^ n * u.getD (j + n) 0 < 1000000000 ^ n * e := zc
 exact yR this zc
theorem ayM (l : List Int) {k j : Nat} (h : j ≤ k) (x : Int) : (l.set (k) x).take j = l.take j := by
 rw [List.take_set_of_le h]
theorem aOs (m o : List Int) (y : Int × Unit) (y4 : List Int × Unit) (v ql u w0 : List Int) (j n : Nat) (q : Int) (i2 : Int × Int × Int × List Int × Unit) (hv : Dg 1000000000 v) (hn : v.length = n) (hN : w0.length ≤ 1000000000000) (hjn : j + n < w0.length) (hw : Dg 1000000000 w0) (hq : 1 ≤ q ∧ q < 1000000000) (hK : inb (j : Int) (↑(Int.toNat (w64 (w64 (len m - len v) + 1))) : Int)) :
  ∃ w' e, adG (fun i3 => (aiY m o y (v, ()) y4 ((j : Int), ql, u, ()) (q, ()) i2 i3).toO) (0, 0, w0, ()) = some (.inr (.inl ((j : Int) - 1, ql.set j (q - 1), w'.set (j + n) 0, ()))) ∧ w'.length = w0.length ∧ Dg 1000000000 w' ∧ w'.take j = w0.take j ∧ w'.drop (j + n) = w0.drop (j + n) ∧ V 1000000000 w' = V 1000000000 w0 + 1000000000 ^ j * V 1000000000 v - 1000000000 ^ (j + n) * e := by
 have wa : w64 (w64 ((j : Int) + len v) + 1) = ((j + n + 1 : Nat) : Int) := by rw [aaC, hn, aaA (x := (j : Int) + n) zc, aaA zc]; omega
 have wb : ((((j + n + 1 : Nat) : Int).toNat - (j : Int).toNat : Nat) : Int) = ((n + 1 : Nat) : Int) := zc
 refine Exists.elim (acT (R := fun i3 => (aiY m o y (v, ()) y4 ((j : Int), ql, u, ()) (q, ()) i2 i3).toO) (fun i : Int × Int × List Int × Unit => ∃ k : Nat, k ≤ n ∧ i.1 = (k : Int) ∧ 0 ≤ i.2.1 ∧ i.2.1 ≤ 1 ∧ i.2.2.1.length = w0.length ∧ Dg 1000000000 i.2.2.1 ∧ i.2.2.1.take j = w0.take j ∧ i.2.2.1.drop (j + k) = w0.drop (j + k) ∧ V 1000000000 i.2.2.1 = V 1000000000 w0 + 1000000000 ^ j * V 1000000000 (v.take k) - 1000000000 ^ (j + k) * i.2.1) (fun i => ((n : Int) - i.1).toNat)
  (fun r => ∃ w' e, r = Sum.inr (Sum.inl ((j : Int) - 1, ql.set j (q - 1), w'.set (j + n) 0, ())) ∧ w'.length = w0.length ∧ Dg 1000000000 w' ∧ w'.take j = w0.take j ∧ w'.drop (j + n) = w0.drop (j + n) ∧ V 1000000000 w' = V 1000000000 w0 + 1000000000 ^ j * V 1000000000 v - 1000000000 ^ (j + n) * e) ?step (0, 0, w0, ()) ⟨0, by omega, rfl, by simp, by simp, rfl, hw, rfl, rfl, by simp [V]⟩) ?fin
 case fin =>
  rintro a ⟨h1, w', e, rfl, h3⟩
  exact ⟨w', e, h1, h3⟩
 rintro ⟨i, c, w, u5⟩ ⟨k, g1, g2, g3, g4, g5, g6, g7, g8, g9⟩
 dsimp only at g2 g3 g4 g5 g6 g7 g8 g9
 subst g2
 have dv := aa3 zc hv k
 have dw := aa3 zc g6 (j + k)
 have ev := aa6 1000000000 v k
 simp only [aiY, aaM, wa, wb, zp, zu]
 rcases zr k n with hk | hk
 ·left
  have w1 : aeH (aeH (w.getD (j + k) 0 + v.getD k 0) + c) = w.getD (j + k) 0 + v.getD k 0 + c := by rw [aa0 (x := w.getD (j + k) 0 + v.getD k 0) zc, aa0 zc]
  have w5 : w64 ((k : Int) + 1) = ((k + 1 : Nat) : Int) := by rw [aaA (x := (k : Int) + 1) zc]; omega
  simp only [w1, w5]
  have fin : ∀ x c' : Int, 0 ≤ x ∧ x < 1000000000 → 0 ≤ c' ∧ c' ≤ 1 → x + 1000000000 * c' = w.getD (j + k) 0 + v.getD k 0 + c → ∃ k_1 : Nat, k_1 ≤ n ∧ ((k + 1 : Nat) : Int) = (k_1 : Int) ∧ 0 ≤ c' ∧ c' ≤ 1 ∧ (w.set (j + k) x).length = w0.length ∧ Dg 1000000000 (w.set (j + k) x) ∧ (w.set (j + k) x).take j = w0.take j ∧ (w.set (j + k) x).drop (j + k_1) = w0.drop (j + k_1) ∧ V 1000000000 (w.set (j + k) x) = V 1000000000 w0 + 1000000000 ^ j * V 1000000000 (v.take k_1) - 1000000000 ^ (j + k_1) * c' := by
   intro x c' hx hc he
   refine ⟨k + 1, by omega, rfl, hc.1, hc.2, by simp; omega, ajG g6 hx _, by rw [ayM _ zc, g7], ?_, ?_⟩
   ·rw [aiA _ zc, show j + (k + 1) = j + k + 1 by omega, ← yb (i := 1), g8, yb]
   ·rw [azL _ zc, g9, ev, show j + (k + 1) = j + k + 1 by omega, zY, wi]
    have : (1000000000 : Int) ^ j * 1000000000 ^ k * (x + 1000000000 * c') = 1000000000 ^ j * 1000000000 ^ k * (w.getD (j + k) 0 + v.getD k 0 + c) := by rw [he]
    grind
  by_cases cc : w.getD (j + k) 0 + v.getD k 0 + c ≥ 1000000000
  ·refine ⟨(((k + 1 : Nat) : Int), 1, w.set (j + k) (w.getD (j + k) 0 + v.getD k 0 + c - 1000000000), ()), ?_, fin _ 1 zc zc zc, by dsimp only; omega⟩
   refine uT sd (uN sd (uN ⟨by omega, by omega⟩ (uT (zo cc) (uN ⟨by omega, by omega⟩ ?_))))
   repeat refine za ?_
   rw [aa0 (x := w.getD (j + k) 0 + v.getD k 0 + c - 1000000000) zc]
   rfl
  ·refine ⟨(((k + 1 : Nat) : Int), 0, w.set (j + k) (w.getD (j + k) 0 + v.getD k 0 + c), ()), ?_, fin _ 0 zc zc zc, by dsimp only; omega⟩
   refine uT sd (uN sd (uN ⟨by omega, by omega⟩ (uF (zn cc) (uN ⟨by omega, by omega⟩ ?_))))
   repeat refine za ?_
   rfl
 ·right
  have hkn : k = n := zc
  subst hkn
  rw [abM _ zc] at g9
  refine ⟨_, ?_, w, c, rfl, g5, g6, g7, g8, g9⟩
  refine uF sd (uN ⟨by simp [len], by rw [aaC, hn]; omega⟩ (uN hK ?_))
  repeat refine za ?_
  have w6 : aeH (abU (q - 1)) = q - 1 := by rw [aaP (x := q - 1) zc, aa0 zc]
  rw [aaJ, w6, aaA (x := (j : Int) - 1) zc, aaC, hn, zp]
theorem atA {a b B : Int} (ha : 0 ≤ a ∧ a < B) (hb : 0 ≤ b ∧ b < B) : 0 ≤ a * b ∧ a * b ≤ (B - 1) * (B - 1) := by
 refine ⟨yi ha.1 hb.1, ?_⟩
 have h1 : a * b ≤ a * (B - 1) := zE zc ha.1
 have h2 : a * (B - 1) ≤ (B - 1) * (B - 1) := zF zc zc
 omega
theorem aOt (m o : List Int) (y : Int × Unit) (y4 : List Int × Unit) (v ql u : List Int) (j n : Nat) (q Q : Int) (hv : Dg 1000000000 v) (hn : v.length = n) (hN : u.length ≤ 1000000000000) (hjn : j + n < u.length) (hu : Dg 1000000000 u) (hq : 0 ≤ q ∧ q < 1000000000) (hK : inb (j : Int) (↑(Int.toNat (w64 (w64 (len m - len v) + 1))) : Int))
  (hz : V 1000000000 (u.drop (j + n + 1)) = 0) (hQ : q = Q ∨ q = Q + 1) (hX0 : 0 ≤ V 1000000000 (u.drop j) - Q * V 1000000000 v) (hX1 : V 1000000000 (u.drop j) - Q * V 1000000000 v < V 1000000000 v) (hQ0 : 0 ≤ Q) :
  ∃ u', adG (fun i2 => (ag5 m o y (v, ()) y4 ((j : Int), ql, u, ()) (q, ()) i2).toO) (0, 0, 0, u, ()) = some (.inl ((j : Int) - 1, ql.set j Q, u', ())) ∧ u'.length = u.length ∧ Dg 1000000000 u' ∧ V 1000000000 u' = V 1000000000 u - 1000000000 ^ j * (Q * V 1000000000 v) ∧ V 1000000000 (u'.drop j) = V 1000000000 (u.drop j) - Q * V 1000000000 v := by
 have wa : w64 (w64 ((j : Int) + len v) + 1) = ((j + n + 1 : Nat) : Int) := by rw [aaC, hn, aaA (x := (j : Int) + n) zc, aaA zc]; omega
 have wb : ((((j + n + 1 : Nat) : Int).toNat - (j : Int).toNat : Nat) : Int) = ((n + 1 : Nat) : Int) := zc
 have hVn : V 1000000000 v < 1000000000 ^ n := by have := aLR zc hv; rwa [hn] at this
 refine Exists.elim (acT (R := fun i2 => (ag5 m o y (v, ()) y4 ((j : Int), ql, u, ()) (q, ()) i2).toO) (fun i : Int × Int × Int × List Int × Unit => ∃ k : Nat, k ≤ n ∧ i.1 = (k : Int) ∧ 0 ≤ i.2.1 ∧ i.2.1 ≤ 1 ∧ 0 ≤ i.2.2.1 ∧ i.2.2.1 < 1000000000 ∧ i.2.2.2.1.length = u.length ∧ Dg 1000000000 i.2.2.2.1 ∧ i.2.2.2.1.take j = u.take j ∧ i.2.2.2.1.drop (j + k) = u.drop (j + k) ∧ V 1000000000 i.2.2.2.1 = V 1000000000 u - 1000000000 ^ j * (q * V 1000000000 (v.take k)) + 1000000000 ^ (j + k) * (i.2.1 + i.2.2.1)) (fun i => ((n : Int) - i.1).toNat)
  (fun r => ∃ u', r = Sum.inl ((j : Int) - 1, ql.set j Q, u', ()) ∧ u'.length = u.length ∧ Dg 1000000000 u' ∧ V 1000000000 u' = V 1000000000 u - 1000000000 ^ j * (Q * V 1000000000 v) ∧ V 1000000000 (u'.drop j) = V 1000000000 (u.drop j) - Q * V 1000000000 v) ?step (0, 0, 0, u, ()) ⟨0, by omega, rfl, by simp, by simp, by simp, by simp, rfl, hu, rfl, rfl, by simp [V]⟩) ?fin
 case fin =>
  rintro a ⟨h1, u', rfl, h3⟩
  exact ⟨u', h1, h3⟩
 rintro ⟨i, b, c, w, u5⟩ ⟨k, g1, g2, g3, g4, g5, g6, g7, g8, g9, g10, g11⟩
 dsimp only at g2 g3 g4 g5 g6 g7 g8 g9 g10 g11
 subst g2
 have dv := aa3 zc hv k
 have dw := aa3 zc g8 (j + k)
 have ev := aa6 1000000000 v k
 have hm := atA hq dv
 have hs : 0 ≤ c + q * v.getD k 0 := zc
 simp only [ag5, aaM, wa, wb, zp, zu]
 rcases zr k n with hk | hk
 ·left
  have wv : abU (v.getD k 0) = v.getD k 0 := aaP zc
  have wp : abU (c + abU (q * v.getD k 0)) = c + q * v.getD k 0 := by rw [aaP (x := q * v.getD k 0) zc, aaP zc]
  have em := yl (c + q * v.getD k 0) 1000000000
  have e2 : 0 ≤ (c + q * v.getD k 0) % 1000000000 ∧ (c + q * v.getD k 0) % 1000000000 < 1000000000 := zc
  have e3 : 0 ≤ (c + q * v.getD k 0) / 1000000000 ∧ (c + q * v.getD k 0) / 1000000000 < 1000000000 := zc
  have tm : Int.tmod (c + q * v.getD k 0) 1000000000 = (c + q * v.getD k 0) % 1000000000 := zz hs
  have td : Int.tdiv (c + q * v.getD k 0) 1000000000 = (c + q * v.getD k 0) / 1000000000 := zL hs
  have wr : w64 (w64 (w64 (w.getD (j + k) 0) - b) - w64 ((c + q * v.getD k 0) % 1000000000)) = w.getD (j + k) 0 - b - (c + q * v.getD k 0) % 1000000000 := by
   rw [aaA (x := w.getD (j + k) 0) zc, aaA (x := w.getD (j + k) 0 - b) zc, aaA (x := (c + q * v.getD k 0) % 1000000000) zc, aaA zc]
  have w5 : w64 ((k : Int) + 1) = ((k + 1 : Nat) : Int) := by rw [aaA (x := (k : Int) + 1) zc]; omega
  have wd : abU ((c + q * v.getD k 0) / 1000000000) = (c + q * v.getD k 0) / 1000000000 := aaP zc
  simp only [wv, wp, tm, td, wr, w5, wd]
  generalize (c + q * v.getD k 0) % 1000000000 = D at *
  generalize (c + q * v.getD k 0) / 1000000000 = C at *
  have fin : ∀ x b' : Int, 0 ≤ x ∧ x < 1000000000 → 0 ≤ b' ∧ b' ≤ 1 → x = w.getD (j + k) 0 - b - D + 1000000000 * b' → ∃ k_1 : Nat, k_1 ≤ n ∧ ((k + 1 : Nat) : Int) = (k_1 : Int) ∧ 0 ≤ b' ∧ b' ≤ 1 ∧ 0 ≤ C ∧ C < 1000000000 ∧ (w.set (j + k) x).length = u.length ∧ Dg 1000000000 (w.set (j + k) x) ∧ (w.set (j + k) x).take j = u.take j ∧ (w.set (j + k) x).drop (j + k_1) = u.drop (j + k_1) ∧ V 1000000000 (w.set (j + k) x) = V 1000000000 u - 1000000000 ^ j * (q * V 1000000000 (v.take k_1)) + 1000000000 ^ (j + k_1) * (b' + C) := by
   intro x b' hx hb he
   refine ⟨k + 1, by omega, rfl, hb.1, hb.2, e3.1, e3.2, by simp; omega, ajG g8 hx _, by rw [ayM _ zc, g9], ?_, ?_⟩
   ·rw [aiA _ zc, show j + (k + 1) = j + k + 1 by omega, ← yb (i := 1), g10, yb]
   ·rw [azL _ zc, g11, ev, show j + (k + 1) = j + k + 1 by omega, zY, wi, he]
    have : (1000000000 : Int) ^ j * 1000000000 ^ k * (D + 1000000000 * C) = 1000000000 ^ j * 1000000000 ^ k * (c + q * v.getD k 0) := by rw [em]
    grind
  by_cases cc : w.getD (j + k) 0 - b - D < 0
  ·refine ⟨(((k + 1 : Nat) : Int), 1, C, w.set (j + k) (w.getD (j + k) 0 - b - D + 1000000000), ()), ?_, fin _ 1 zc zc zc, by dsimp only; omega⟩
   refine uT sd (uN sd (uN ⟨by omega, by omega⟩ (uV (uV (uT (zo cc) (uN ⟨by omega, by omega⟩ ?_))))))
   repeat refine za ?_
   rw [aaA (x := w.getD (j + k) 0 - b - D + 1000000000) zc, aa0 zc]
   rfl
  ·refine ⟨(((k + 1 : Nat) : Int), 0, C, w.set (j + k) (w.getD (j + k) 0 - b - D), ()), ?_, fin _ 0 zc zc zc, by dsimp only; omega⟩
   refine uT sd (uN sd (uN ⟨by omega, by omega⟩ (uV (uV (uF (zn cc) (uN ⟨by omega, by omega⟩ ?_))))))
   repeat refine za ?_
   rw [aa0 (x := w.getD (j + k) 0 - b - D) zc]
   rfl
 ·right
  have hkn : k = n := zc
  subst hkn
  rw [abM _ zc] at g11
  have hun := aa3 zc hu (j + k)
  have hget : w.getD (j + k) 0 = u.getD (j + k) 0 := by
   have h1 : (w.drop (j + k)).getD 0 0 = (u.drop (j + k)).getD 0 0 := by rw [g10]
   simpa [yp, yX] using h1
  have wl : len v = (k : Int) := by rw [aaC, hn]
  have wt : w64 (w64 (u.getD (j + k) 0) - b) = u.getD (j + k) 0 - b := by rw [aaA (x := u.getD (j + k) 0) zc, aaA zc]
  have wc : w64 c = c := aaA zc
  simp only [wl, zp, hget, wt, wc]
  by_cases cb : u.getD (j + k) 0 - b < c
  ·-- one too great
   have hq1 : q = Q + 1 := by
    rcases hQ with h | h
    ·subst h
     obtain ⟨-, -, he⟩ := aHz (Q := q) g7 hjn g8 g9 g10 hz rfl hX0 zc g11
     omega
    ·exact h
   obtain ⟨w', e, r1, r2, r3, r4, r5, r6⟩ := aOs m o y y4 v ql u w j k q ((k : Int), b, c, w, ()) hv hn zc zc g8 zc hK
   obtain ⟨f1, f2, -⟩ := aHz (u := u) (w := w') (Q := Q) (Vv := V 1000000000 v) (e := b + c - e) (by rw [r2, g7]) hjn r3 (by rw [r4, g9]) (by rw [r5, g10]) hz rfl hX0 zc (by
    rw [r6, g11, hq1]
    grind)
   refine ⟨_, ?_, w'.set (j + k) 0, rfl, by simp; omega, ajG r3 zc _, f1, f2⟩
   refine uF sd (uN ⟨by omega, by omega⟩ (uT (zo cb) ?_))
   refine uO (0, 0, w, ()) (by repeat refine za ?_; rfl) ?_
   rw [r1, hq1, Int.add_sub_cancel]
  ·have hq1 : q = Q := by
    rcases hQ with h | h
    ·exact h
    ·exfalso
     have := aSv (q := q) g8 g9 g10 hz rfl (by rw [h, wT]; omega) g11
     omega
   subst hq1
   obtain ⟨f1, f2, -⟩ := aHz (Q := q) g7 hjn g8 g9 g10 hz rfl hX0 zc g11
   refine ⟨_, ?_, w.set (j + k) 0, rfl, by simp; omega, ajG g8 zc _, f1, f2⟩
   refine uF sd (uN ⟨by omega, by omega⟩ (uF (zn cb) (uN ⟨by omega, by omega⟩ (uN (by rw [wl] at hK; exact hK) ?_))))
   repeat refine za ?_
   rw [aaJ, aa0 (x := q) zc, aaA (x := (j : Int) - 1) zc]
theorem as5 {N : Nat} {s : List Int} (h : s.length ≤ N) : over (List.replicate N 0) 0 s = s ++ List.replicate (N - s.length) 0 := by
 unfold over
 simp
theorem aTG {N : Nat} {s : List Int} (h : s.length ≤ N) : V 1000000000 (over (List.replicate N 0) 0 s) = V 1000000000 s := by
 rw [as5 h, aeK, at7]; omega
theorem aOu (m o : List Int) (y : Int × Unit) (y4 : List Int × Unit) (v ql u : List Int) (j n : Nat) (U Q : Int) (hv : Dg 1000000000 v) (hn : v.length = n + 2) (hN : u.length ≤ 1000000000000) (hjn : j + n + 2 < u.length) (hu : Dg 1000000000 u) (hz : V 1000000000 (u.drop (j + n + 2 + 1)) = 0) (hU : U = V 1000000000 (u.drop j)) (hUB : U < V 1000000000 v * 1000000000) (hQ1 : Q * V 1000000000 v ≤ U) (hQ2 : U < (Q + 1) * V 1000000000 v) (hQ0 : 0 ≤ Q) (htop : 1 ≤ v.getD (n + 1) 0) :
  ∃ q, (q = Q ∨ q = Q + 1) ∧ 0 ≤ q ∧ q < 1000000000 ∧ adG (fun i1 => (ag6 m o y (v, ()) y4 ((j : Int), ql, u, ()) i1).toO) ((u.getD (j + n + 2) 0 * 1000000000 + u.getD (j + n + 1) 0) % v.getD (n + 1) 0, (u.getD (j + n + 2) 0 * 1000000000 + u.getD (j + n + 1) 0) / v.getD (n + 1) 0, ()) = some (.inl (q, ())) := by
 have wb1 : w64 (len v - 1) = ((n + 1 : Nat) : Int) := by rw [aaC, hn, aaA zc]; omega
 have wb2 : w64 (len v - 2) = ((n : Nat) : Int) := by rw [aaC, hn, aaA zc]; omega
 have wa : w64 (w64 ((j : Int) + len v) + 1) = ((j + n + 2 + 1 : Nat) : Int) := by rw [aaC, hn, aaA (x := (j : Int) + ((n + 2 : Nat) : Int)) zc, aaA zc]; omega
 have wb : ((((j + n + 2 + 1 : Nat) : Int).toNat - (j : Int).toNat : Nat) : Int) = ((n + 3 : Nat) : Int) := zc
 have dv1 := aa3 zc hv (n + 1)
 have dv2 := aa3 zc hv n
 have du0 := aa3 zc hu (j + n + 2)
 have du1 := aa3 zc hu (j + n + 1)
 have du2 := aa3 zc hu (j + n)
 -- the divisor
 have hP : (0 : Int) < 1000000000 ^ n := yG zc
 have hP1 : (0 : Int) < 1000000000 ^ (n + 1) := yG zc
 have s1 := acJ 1000000000 v n
 have s2 := aaU 1000000000 v n
 have s3 := aaU 1000000000 v (n + 1)
 rw [adB (k := n + 1 + 1) _ zc, wu, vF] at s3
 rw [s3] at s2
 have s4 := adP zc hv n
 have s5 := aaT zc (acI hv n)
 have s6 := acJ 1000000000 v (n + 1)
 rw [s3] at s6
 have s7 := aaT zc (acI hv (n + 1))
 -- the window
 have t1 := acJ 1000000000 (u.drop j) n
 have t2 : V 1000000000 ((u.drop j).drop n) = (u.getD (j + n + 2) 0 * 1000000000 + u.getD (j + n + 1) 0) * 1000000000 + u.getD (j + n) 0 := by
  rw [yb]
  have a1 := aaU 1000000000 u (j + n)
  have a2 := aaU 1000000000 u (j + n + 1)
  have a3 := aaU 1000000000 u (j + n + 1 + 1)
  rw [show j + n + 1 + 1 + 1 = j + n + 2 + 1 by omega, hz] at a3
  rw [a1, a2, a3]
  show _ + 1000000000 * (_ + 1000000000 * (u.getD (j + n + 2) 0 + 1000000000 * 0)) = _
  omega
 have t3 := adP zc (acZ hu j) n
 have t4 := aaT zc (acI (acZ hu j) n)
 rw [← hU, t2] at t1
 generalize hH : u.getD (j + n + 2) 0 * 1000000000 + u.getD (j + n + 1) 0 = H at *
 have hH0 : 0 ≤ H ∧ H < 1000000000000000000 := zc
 generalize hv1 : v.getD (n + 1) 0 = v1 at *
 generalize hv2 : v.getD n 0 = v2 at *
 generalize hu2 : u.getD (j + n) 0 = u2 at *
 generalize V 1000000000 (v.take n) = V3 at *
 generalize V 1000000000 ((u.drop j).take n) = U3 at *
 generalize V 1000000000 (v.take (n + 1)) = V4 at *
 have hVe : V 1000000000 v = (v1 * 1000000000 + v2) * 1000000000 ^ n + V3 := by rw [s1, s2]; grind
 have hVv : v1 * 1000000000 ^ (n + 1) ≤ V 1000000000 v := by
  have : (1000000000 : Int) ^ (n + 1) * v1 = v1 * 1000000000 ^ (n + 1) := yJ _ _
  omega
 have hVB : 1000000000 * 1000000000 ^ n ≤ V 1000000000 v := by
  have a1 : 1 * 1000000000 ^ (n + 1) ≤ v1 * 1000000000 ^ (n + 1) := zF htop zc
  have a2 : (1000000000 : Int) ^ (n + 1) = 1000000000 * 1000000000 ^ n := by rw [zY, yJ]
  omega
 have hUlo : (H * 1000000000 + u2) * 1000000000 ^ n ≤ U := by
  have : (1000000000 : Int) ^ n * (H * 1000000000 + u2) = (H * 1000000000 + u2) * 1000000000 ^ n := yJ _ _
  omega
 have hUhi : U < (H * 1000000000 + u2 + 1) * 1000000000 ^ n := by
  have : (H * 1000000000 + u2 + 1) * 1000000000 ^ n = 1000000000 ^ n * (H * 1000000000 + u2) + 1000000000 ^ n := by grind
  omega
 have hUhi1 : U < (H + 1) * 1000000000 ^ (n + 1) := by
  have a1 : (H * 1000000000 + u2 + 1) * 1000000000 ^ n ≤ ((H + 1) * 1000000000) * 1000000000 ^ n := zF zc zc
  have a2 : ((H + 1) * 1000000000) * 1000000000 ^ n = (H + 1) * 1000000000 ^ (n + 1) := by rw [zY]; grind
  omega
 have hVpos : 0 < V 1000000000 v := by have := vo (show (0 : Int) < 1000000000 by omega) hP; omega
 have hQB : Q < 1000000000 := by
  have : Q * V 1000000000 v < 1000000000 * V 1000000000 v := zc
  exact yh this zc
 have hstart := aOL hP1 zc hVv hUhi1 hQ1 hQ0
 have hdm := yl H v1
 have hr0 := yO H (show v1 ≠ 0 by omega)
 have hr1 := yB H (show 0 < v1 by omega)
 refine Exists.elim (acT (R := fun i1 => (ag6 m o y (v, ()) y4 ((j : Int), ql, u, ()) i1).toO) (fun i : Int × Int × Unit => 0 ≤ i.1 ∧ i.1 < 1000000000 ∧ Q ≤ i.2.1 ∧ i.2.1 * v1 + i.1 = H) (fun i => i.2.1.toNat) (fun r => ∃ q, (q = Q ∨ q = Q + 1) ∧ 0 ≤ q ∧ q < 1000000000 ∧ r = Sum.inl (q, ())) ?step (H % v1, H / v1, ()) ⟨hr0, by dsimp only; omega, hstart, by dsimp only; rw [yJ]; omega⟩) ?fin
 case fin =>
  rintro a ⟨h1, q, h2, h3, h4, rfl⟩
  exact ⟨q, h2, h3, h4, h1⟩
 rintro ⟨r, q, u5⟩ ⟨g1, g2, g3, g4⟩
 dsimp only at g1 g2 g3 g4
 have hqH : q ≤ H := by
  have : q * 1 ≤ q * v1 := zE htop zc
  omega
 have down : Q ≤ q - 1 → ((r + v1 ≥ 1000000000 → ∃ q', (q' = Q ∨ q' = Q + 1) ∧ 0 ≤ q' ∧ q' < 1000000000 ∧ q' = q - 1)) := by
  intro hdn hr
  have hqB : q - 1 < 1000000000 := by
   have a1 : (q - 1) * v1 = H - (r + v1) := by rw [Int.sub_mul]; omega
   have a2 : H < (v1 + 1) * 1000000000 := by
    have b1 : H * 1000000000 ^ (n + 1) ≤ U := by
     have a2 : (H * 1000000000) * 1000000000 ^ n = H * 1000000000 ^ (n + 1) := by rw [zY]; grind
     have a3 : (H * 1000000000) * 1000000000 ^ n ≤ (H * 1000000000 + u2) * 1000000000 ^ n := zF zc zc
     omega
    have b2 : V 1000000000 v < (v1 + 1) * 1000000000 ^ (n + 1) := by
     have a2 : (v1 + 1) * 1000000000 ^ (n + 1) = (v1 * 1000000000 + 1000000000) * 1000000000 ^ n := by rw [zY]; grind
     have a3 : (v1 * 1000000000 + v2 + 1) * 1000000000 ^ n ≤ (v1 * 1000000000 + 1000000000) * 1000000000 ^ n := zF zc zc
     have a4 : (v1 * 1000000000 + v2 + 1) * 1000000000 ^ n = (v1 * 1000000000 + v2) * 1000000000 ^ n + 1000000000 ^ n := by grind
     omega
    have b3 : H * 1000000000 ^ (n + 1) < ((v1 + 1) * 1000000000) * 1000000000 ^ (n + 1) := by
     have : ((v1 + 1) * 1000000000) * 1000000000 ^ (n + 1) = ((v1 + 1) * 1000000000 ^ (n + 1)) * 1000000000 := by grind
     omega
    exact yh b3 zc
   have a3 : (q - 1) * v1 < 1000000000 * v1 := by
    have : (v1 + 1) * 1000000000 = 1000000000 * v1 + 1000000000 := by grind
    omega
   exact yh a3 zc
  have hm := atA (a := q - 1) (b := v2) (B := 1000000000) ⟨by omega, hqB⟩ dv2
  have hmB : 1000000000 * 1000000000 ≤ (r + v1) * 1000000000 := zc
  have := aJb (q := q - 1) (r := r + v1) hP (by rw [Int.sub_mul]; omega) hVe s4 s5 hUlo zc hqB hVB hQ2 zc
  exact ⟨q - 1, by omega, by omega, hqB, rfl⟩
 have wv1 : abU v1 = v1 := aaP zc
 have wr : abU (r + v1) = r + v1 := aaP zc
 have hgi1 : gi v ((n + 1 : Nat) : Int) 0 = v1 := by rw [aaM, hv1]
 have hgi2 : gi v ((n : Nat) : Int) 0 = v2 := by rw [aaM, hv2]
 simp only [ag6, ah8, wb1, wb2, hgi1, hgi2, wv1, wr, wa, wb, zp, zu, hu2]
 have stepdn : Q ≤ q - 1 → 1 ≤ q → ((r + v1 ≥ 1000000000 → ∃ q', ((q' = Q ∨ q' = Q + 1) ∧ 0 ≤ q' ∧ q' < 1000000000) ∧ abU (q - 1) = q') ∧ (¬ r + v1 ≥ 1000000000 → (0 ≤ r + v1 ∧ r + v1 < 1000000000 ∧ Q ≤ q - 1 ∧ (q - 1) * v1 + (r + v1) = H) ∧ abU (q - 1) = q - 1)) := by
  intro h1 h2
  have wq : abU (q - 1) = q - 1 := aaP zc
  refine ⟨fun h => ?_, fun h => ⟨⟨by omega, by omega, h1, by rw [Int.sub_mul]; omega⟩, wq⟩⟩
  obtain ⟨q', e1, e2, e3, e4⟩ := down h1 h
  exact ⟨q', ⟨e1, e2, e3⟩, by rw [wq, e4]⟩
 by_cases c1 : q ≥ 1000000000
 ·obtain ⟨d1, d2⟩ := stepdn zc zc
  by_cases c2 : r + v1 ≥ 1000000000
  ·right
   obtain ⟨q', e1, e2⟩ := d1 c2
   refine ⟨.inl (q', ()), ?_, q', e1.1, e1.2.1, e1.2.2, rfl⟩
   refine uT (zo c1) (uT (zo c2) ?_)
   repeat refine za ?_
   rw [aaJ, e2]
  ·left
   obtain ⟨e1, e2⟩ := d2 c2
   refine ⟨(r + v1, q - 1, ()), ?_, e1, by dsimp only; omega⟩
   refine uT (zo c1) (uF (zn c2) ?_)
   repeat refine za ?_
   rw [aaJ, e2]
 ·have hm := atA (a := q) (b := v2) (B := 1000000000) ⟨by omega, by omega⟩ dv2
  have wm : abU (q * abU v2) = q * v2 := by rw [aaP (x := v2) zc, aaP zc]
  have wn : abU (abU (r * 1000000000) + abU u2) = r * 1000000000 + u2 := by rw [aaP (x := r * 1000000000) zc, aaP (x := u2) zc, aaP zc]
  simp only [wm, wn]
  by_cases c3 : q * v2 > r * 1000000000 + u2
  ·have hdn := aRh (q := q) (r := r) (xo hVpos) hP g4 zc hUhi hQ1 zc c3
   obtain ⟨d1, d2⟩ := stepdn hdn zc
   by_cases c2 : r + v1 ≥ 1000000000
   ·right
    obtain ⟨q', e1, e2⟩ := d1 c2
    refine ⟨.inl (q', ()), ?_, q', e1.1, e1.2.1, e1.2.2, rfl⟩
    refine uF (zn c1) (uN ⟨by omega, by rw [aaC, hn]; omega⟩ (uN ⟨by omega, by omega⟩ (uT (zo c3) (uT (zo c2) ?_))))
    repeat refine za ?_
    rw [aaJ, e2]
   ·left
    obtain ⟨e1, e2⟩ := d2 c2
    refine ⟨(r + v1, q - 1, ()), ?_, e1, by dsimp only; omega⟩
    refine uF (zn c1) (uN ⟨by omega, by rw [aaC, hn]; omega⟩ (uN ⟨by omega, by omega⟩ (uT (zo c3) (uF (zn c2) ?_))))
    repeat refine za ?_
    rw [aaJ, e2]
  ·right
   have hdone := aJb (q := q) (r := r) hP g4 hVe s4 s5 hUlo zc zc hVB hQ2 zc
   refine ⟨.inl (q, ()), ?_, q, by omega, by omega, by omega, rfl⟩
   refine uF (zn c1) (uN ⟨by omega, by rw [aaC, hn]; omega⟩ (uN ⟨by omega, by omega⟩ (uF (zn c3) ?_)))
   repeat refine za ?_
   rfl
theorem aME {b s t L : Nat} (hs : s * (t + 1) ≤ 1000000000) (hs1 : 1 ≤ s) (h1 : 1000000000 ^ L * t ≤ b) (h2 : b < 1000000000 ^ L * (t + 1)) (ht : 1 ≤ t) : (mag (b * s)).length = L + 1 := by
 have a1 : b * s < 1000000000 ^ (L + 1) := by
  have c1 : b * s < (1000000000 ^ L * (t + 1)) * s := Nat.mul_lt_mul_of_pos_right h2 zc
  have c2 : (1000000000 ^ L * (t + 1)) * s = 1000000000 ^ L * (s * (t + 1)) := by rw [wx, yK (t + 1)]
  have c3 : 1000000000 ^ L * (s * (t + 1)) ≤ 1000000000 ^ L * 1000000000 := yy _ hs
  rw [yz]; omega
 have a2 := mag_length_le_iff.2 a1
 have a3 : 1000000000 ^ L ≤ b * s := by
  have c1 : 1000000000 ^ L * 1 ≤ 1000000000 ^ L * t := yy _ ht
  have c2 : b * 1 ≤ b * s := yy _ hs1
  omega
 rcases zr L (mag (b * s)).length with h | h
 ·omega
 ·have := mag_length_le_iff.1 h; omega
theorem aOv (m o : List Int) (y : Int × Unit) (y4 : List Int × Unit) (v q u : List Int) (j n : Nat) (qq : Int) (X : (Int × List Int × List Int × Unit) ⊕ (List Int × List Int × Unit)) (hvd : Dg 1000000000 v) (g7 : Dg 1000000000 u) (lv : v.length = n + 2) (g6 : u.length = m.length + 1) (hN : m.length ≤ 1000000000000) (hj : j + n + 2 < u.length) (hvtop : 1 ≤ v.getD (n + 1) 0)
  (p4 : adG (fun i1 => (ag6 m o y (v, ()) y4 ((j : Int), q, u, ()) i1).toO) ((u.getD (j + n + 2) 0 * 1000000000 + u.getD (j + n + 1) 0) % v.getD (n + 1) 0, (u.getD (j + n + 2) 0 * 1000000000 + u.getD (j + n + 1) 0) / v.getD (n + 1) 0, ()) = some (.inl (qq, ())))
  (r1 : adG (fun i1 => (ag5 m o y (v, ()) y4 ((j : Int), q, u, ()) (qq, ()) i1).toO) (0, 0, 0, u, ()) = some X) : (aiZ m o y (v, ()) y4 ((j : Int), q, u, ())).toO = some X := by
 have wlv : len v = ((n + 2 : Nat) : Int) := by rw [aaC, lv]
 have wa : w64 (w64 ((j : Int) + len v) + 1) = ((j + n + 2 + 1 : Nat) : Int) := by rw [wlv, aaA (x := (j : Int) + ((n + 2 : Nat) : Int)) zc, aaA zc]; omega
 have wb : ((((j + n + 2 + 1 : Nat) : Int).toNat - (j : Int).toNat : Nat) : Int) = ((n + 3 : Nat) : Int) := zc
 have wb1 : w64 (len v - 1) = ((n + 1 : Nat) : Int) := by rw [wlv, aaA zc]; omega
 have w2 : w64 (len m + 1) = ((m.length + 1 : Nat) : Int) := by rw [aaC, aaA zc]; omega
 have dv1 := aa3 zc hvd (n + 1)
 have du0 := aa3 zc g7 (j + n + 2)
 have du1 := aa3 zc g7 (j + n + 1)
 have hgi1 : abU (gi v ((n + 1 : Nat) : Int) 0) = v.getD (n + 1) 0 := by rw [aaM, aaP zc]
 have wH : abU (abU (abU (u.getD (j + (n + 2)) 0) * 1000000000) + abU (u.getD (j + (n + 1)) 0)) = u.getD (j + n + 2) 0 * 1000000000 + u.getD (j + n + 1) 0 := by
  rw [show j + (n + 2) = j + n + 2 by omega, show j + (n + 1) = j + n + 1 by omega, aaP (x := u.getD (j + n + 2) 0) zc, aaP (x := u.getD (j + n + 2) 0 * 1000000000) zc, aaP (x := u.getD (j + n + 1) 0) zc, aaP zc]
 have hH0 : 0 ≤ u.getD (j + n + 2) 0 * 1000000000 + u.getD (j + n + 1) 0 := zc
 have tm := zz (b := v.getD (n + 1) 0) hH0
 have td := zL (b := v.getD (n + 1) 0) hH0
 have hdle : (u.getD (j + n + 2) 0 * 1000000000 + u.getD (j + n + 1) 0) / v.getD (n + 1) 0 ≤ u.getD (j + n + 2) 0 * 1000000000 + u.getD (j + n + 1) 0 := Int.ediv_le_self _ hH0
 have hdge : 0 ≤ (u.getD (j + n + 2) 0 * 1000000000 + u.getD (j + n + 1) 0) / v.getD (n + 1) 0 := xD hH0 zc
 have wq : abU ((u.getD (j + n + 2) 0 * 1000000000 + u.getD (j + n + 1) 0) / v.getD (n + 1) 0) = (u.getD (j + n + 2) 0 * 1000000000 + u.getD (j + n + 1) 0) / v.getD (n + 1) 0 := aaP zc
 simp only [aiZ, wa, wb, wb1, hgi1, w2, zp, zu]
 have wlt : (len v).toNat = n + 2 := by rw [wlv]; omega
 simp only [wlt, wH, tm, td, wq]
 refine uT sd (uN ⟨by omega, by omega⟩ (uN ⟨by omega, by omega⟩ (uN ⟨by omega, by omega⟩ (uN ⟨by omega, by omega⟩ (uN ⟨by omega, by omega⟩ (uN zc (uN zc ?_)))))))
 refine uL (qq, ()) ?_ ?_
 ·refine uO ((u.getD (j + n + 2) 0 * 1000000000 + u.getD (j + n + 1) 0) % v.getD (n + 1) 0, (u.getD (j + n + 2) 0 * 1000000000 + u.getD (j + n + 1) 0) / v.getD (n + 1) 0, ()) ?_ p4
  repeat refine za ?_
  rfl
 ·unfold au4
  refine uO (0, 0, 0, u, ()) (by repeat refine za ?_; rfl) ?_
  exact r1
set_option maxHeartbeats 1000000 in
theorem aq0 (m o : List Int) (y) (h : abI (m, o, ()) = some y) : (ak8 m o).toO = some y := by
 obtain ⟨⟨a, b⟩, hp, hx, rfl⟩ := aaD h
 obtain ⟨rfl, hx2⟩ := Prod.mk.inj hx; obtain ⟨rfl, -⟩ := Prod.mk.inj hx2; dsimp only
 obtain ⟨la, lb, hb0⟩ := hp
 simp only at la lb hb0
 clear h hx hx2
 unfold ak8
 have hcmp : aeB (mag a, mag b, ()) = some (avA a b, ()) := aaG (enc := fun p : Nat × Nat => (mag p.1, mag p.2, ())) (a, b) ⟨by dsimp only; omega, by dsimp only; omega⟩ (fun b hb => adW hb)
 refine uC _ hcmp ?_
 by_cases hab : a < b
 ·refine uT (zo (by unfold avA; rw [if_pos zc]; show (-1 : Int) < 0; omega)) ?_
  rw [xb hab, yE hab, mag_zero]; rfl
 refine uF (zn (by unfold avA; rw [if_neg zc]; split <;> decide)) ?_
 have hbl : 1 ≤ (mag b).length := by
  rcases zD (mag b).length with h5 | h5
  ·exact absurd (mag_nil_iff.1 (zW.1 h5)) hb0
  ·exact h5
 have hshort : ∀ x d : Nat, (mag x).length ≤ 1000000000000 → 0 < d → d < 4294967296 → akK (mag x, (d : Int), ()) = some (mag (x / d), ((x % d : Nat) : Int), ()) := by
  intro x d h1 h2 h3
  refine aaG (enc := fun p : Nat × Nat => (mag p.1, (p.2 : Int), ())) (x, d) ⟨h1, h2, h3⟩ (fun b hb => ?_)
  obtain ⟨e1, e2⟩ := Prod.mk.inj hb
  obtain ⟨e2, -⟩ := Prod.mk.inj e2
  exact Prod.ext (ad7 e1) (Int.ofNat.inj e2)
 by_cases h1 : (mag b).length = 1
 ·refine uT sd (uN ⟨by simp [asT], by exact sn⟩ ?_)
  have hb1 : b < 1000000000 := by have := mag_length_le_iff.1 (vD h1); simpa using this
  have hg : gi (mag b) 0 0 = (b : Int) := by rw [aqV hb0 hb1]; rfl
  rw [hg]
  refine uC _ (hshort a b zc zc zc) ?_
  have hm := yU a (show 0 < b by omega)
  generalize a % b = r at hm ⊢
  refine uC (mag r, ()) ?_ rfl
  dsimp only
  rw [aaP (x := (r : Int)) zc]
  unfold abT
  rw [if_pos zk]
  simp
 refine uF sd ?_
 obtain ⟨n, hnl⟩ : ∃ n, (mag b).length = n + 2 := ⟨(mag b).length - 2, by omega⟩
 have hml : n + 2 ≤ (mag a).length := by rw [← hnl]; exact abX zc
 obtain ⟨t, ht, t1, t2, t3, t4⟩ := aHj hb0
 have w1 : w64 (len (mag b) - 1) = ((n + 1 : Nat) : Int) := by rw [aaC, hnl, aaA zc]; omega
 rw [hnl, show n + 2 - 1 = n + 1 by omega] at ht t3 t4
 have hg : gi (mag b) ((n + 1 : Nat) : Int) 0 = (t : Int) := by rw [aaM, ht]
 have wt : aeH ((t : Int) + 1) = ((t + 1 : Nat) : Int) := by rw [aa0 zc]; omega
 obtain ⟨s, hs⟩ : ∃ s, s = 1000000000 / (t + 1) := ⟨_, rfl⟩
 have hs1 : 1 ≤ s := by rw [hs]; exact (wM zc).2 zc
 have hs2 : s * (t + 1) ≤ 1000000000 := by rw [hs]; exact Nat.div_mul_le_self _ _
 have hs3 : s < 1000000000 := by
  have : s * 2 ≤ s * (t + 1) := yy _ zc
  omega
 have ws : aeH (Int.tdiv 1000000000 ((t + 1 : Nat) : Int)) = (s : Int) := by
  have : Int.tdiv 1000000000 ((t + 1 : Nat) : Int) = (s : Int) := by
   rw [zL zc, hs]; rfl
  rw [this, aa0 zc]
 simp only [w1, hg, wt, ws]
 refine uN sd (uN zc ?_)
 have hms : mag s = [(s : Int)] := aqV zc hs3
 have lv : (mag (b * s)).length = n + 2 := aME hs2 hs1 t3 t4 t1
 have htimes : ∀ x : Nat, (mag x).length ≤ 1000000000000 → acM (mag x, [(s : Int)], ()) = some (mag (x * s), ()) := by
  intro x hx
  rw [← hms]
  exact aaG (enc := fun p : Nat × Nat => (mag p.1, mag p.2, ())) (x, s) ⟨hx, by rw [hms]; simp⟩ (fun b hb => adW hb)
 refine uC _ (htimes b zc) ?_
 have w2 : w64 (len (mag a) + 1) = (((mag a).length + 1 : Nat) : Int) := by rw [aaC, aaA zc]; omega
 obtain ⟨K, hK⟩ : ∃ K, (mag a).length = K + n + 2 := ⟨(mag a).length - (n + 2), by omega⟩
 have w3 : w64 (len (mag a) - len (mag (b * s))) = (K : Int) := by rw [aaC, aaC, lv, hK, aaA zc]; omega
 have w4 : w64 ((K : Int) + 1) = ((K + 1 : Nat) : Int) := by rw [aaA zc]; omega
 simp only [w2, w3, w4]
 refine uN zc ?_
 refine uC _ (htimes a zc) ?_
 refine uN zc ?_
 have las : (mag (a * s)).length ≤ (mag a).length + 1 := by
  have := agQ a s
  rw [hms] at this; simpa using this
 have htk : List.take (mag a).length.succ (mag (a * s)) = mag (a * s) := zx las
 -- the start
 have hu0d : Dg 1000000000 (over (List.replicate ((mag a).length + 1) 0) 0 (mag (a * s))) := by
  rw [as5 las]; exact ae1 (ahD _) (agV zc _)
 have hu0V : V 1000000000 (over (List.replicate ((mag a).length + 1) 0) 0 (mag (a * s))) = ((a * s : Nat) : Int) := by rw [aTG las, am3]
 have hu0l : (over (List.replicate ((mag a).length + 1) 0) 0 (mag (a * s))).length = (mag a).length + 1 := by rw [as5 las]; simp; omega
 refine uO ((K : Int), List.replicate (K + 1) 0, over (List.replicate ((mag a).length + 1) 0) 0 (mag (a * s)), ()) ?_ ?_
 ·repeat refine za ?_
  simp only [zp, w4]
  rw [show List.take ((mag a).length + 1) (mag (a * s)) = mag (a * s) from htk]
  rfl
 generalize hu0 : over (List.replicate ((mag a).length + 1) 0) 0 (mag (a * s)) = u0 at *
 have hvd := ahD (b * s)
 have hvV := am3 (b * s)
 have hvpos : 0 < b * s := Nat.mul_pos zc zc
 have hvtop : 1 ≤ (mag (b * s)).getD (n + 1) 0 := by
  obtain ⟨t', e1, e2, -⟩ := aHj (n := b * s) zc
  rw [lv, show n + 2 - 1 = n + 1 by omega] at e1
  omega
 generalize hv : mag (b * s) = v at *
 have hdrop0 : V 1000000000 (u0.drop (K + 1)) < V 1000000000 v := by
  have e1 := acJ 1000000000 u0 (K + 1)
  have e2 := aaT zc (acI hu0d (K + 1))
  have e3 := aaT zc (acZ hu0d (K + 1))
  rw [hu0V] at e1
  have a1 : a < 1000000000 ^ (K + 1) * b := by
   have c1 := mag_length_le_iff.1 (vD hK)
   have c2 : 1000000000 ^ (n + 1) ≤ b := by
    have : 1000000000 ^ (n + 1) * 1 ≤ 1000000000 ^ (n + 1) * t := yy _ t1
    omega
   have c3 : 1000000000 ^ (K + 1) * 1000000000 ^ (n + 1) ≤ 1000000000 ^ (K + 1) * b := yy _ c2
   rw [← xA, show K + 1 + (n + 1) = K + n + 2 by omega] at c3
   omega
  have a2 : a * s < (1000000000 ^ (K + 1) * b) * s := Nat.mul_lt_mul_of_pos_right a1 zc
  have a3 : ((a * s : Nat) : Int) < (((1000000000 ^ (K + 1) * b) * s : Nat) : Int) := Int.ofNat_lt.2 a2
  have a4 : ((((1000000000 ^ (K + 1) * b) * s : Nat)) : Int) = 1000000000 ^ (K + 1) * V 1000000000 v := by
   rw [hvV, wx, yd, xV]; rfl
  rw [a4] at a3
  have a5 : 1000000000 ^ (K + 1) * V 1000000000 (u0.drop (K + 1)) < 1000000000 ^ (K + 1) * V 1000000000 v := zc
  exact yR a5 (xo (yG zc))
 refine aaL (fun i : Int × List Int × List Int × Unit => ∃ k : Nat, k ≤ K + 1 ∧ i.1 = (k : Int) - 1 ∧ i.2.1.length = K + 1 ∧ Dg 1000000000 i.2.1 ∧ (∀ p, p < k → i.2.1.getD p 0 = 0) ∧ i.2.2.1.length = (mag a).length + 1 ∧ Dg 1000000000 i.2.2.1 ∧ V 1000000000 (i.2.2.1.drop k) < V 1000000000 v ∧ ((a * s : Nat) : Int) = V 1000000000 i.2.1 * V 1000000000 v + V 1000000000 i.2.2.1) (fun i => (i.1 + 1).toNat) (fun _ => (mag (a / b), mag (a % b), ())) ?_ _ ⟨K + 1, zq _, by dsimp only; omega, by simp, agV zc _, fun p _ => by simp [yp, List.getElem?_replicate]; split <;> rfl, hu0l, hu0d, hdrop0, by rw [at7, hu0V]; omega⟩
 rintro ⟨i, q, u, u6⟩ ⟨k, g1, g2, g3, g4, g5, g6, g7, g8, g9⟩
 dsimp only at g2 g3 g4 g5 g6 g7 g8 g9
 subst g2
 cases k with
 | zero =>
  right
  rw [yN] at g8
  obtain ⟨x, hx⟩ := zv (aaT zc g4)
  obtain ⟨r, hr⟩ := zv (aaT zc g7)
  rw [hx, hr, hvV] at g9
  rw [hr, hvV] at g8
  have h8 : a * s = x * (b * s) + r := by
   have : ((a * s : Nat) : Int) = ((x * (b * s) + r : Nat) : Int) := by rw [g9]; simp
   exact Int.ofNat.inj this
  have h9 : x = a / b := by
   have : a * s / (b * s) = x := by rw [h8, xc, wK _ _ hvpos, xb zc, zu]
   rw [← this, Nat.mul_div_mul_right _ _ zc]
  have h10 : r = (a % b) * s := by
   have : a * s % (b * s) = r := by rw [h8, xc, xX, yE zc]
   rw [← this, Nat.mul_mod_mul_right]
  have hrl : (mag r).length ≤ n + 2 := by rw [← lv, ← hv]; exact abX zc
  have hVtake : V 1000000000 (u.take (n + 2)) = r := by
   have e1 := acJ 1000000000 u (n + 2)
   have e2 := aaT zc (acI g7 (n + 2))
   have e3 := aaT zc (acZ g7 (n + 2))
   have e4 : V 1000000000 u < 1000000000 ^ (n + 2) := by
    have := aLR zc hvd
    rw [lv] at this
    omega
   have e5 : V 1000000000 (u.drop (n + 2)) < 1 := by
    have : 1000000000 ^ (n + 2) * V 1000000000 (u.drop (n + 2)) < 1000000000 ^ (n + 2) * 1 := zc
    exact yR this (xo (yG zc))
   have e6 : V 1000000000 (u.drop (n + 2)) = 0 := zc
   rw [e6, wu] at e1
   omega
  have wlv : len v = ((n + 2 : Nat) : Int) := by rw [aaC, lv]
  simp only [aiZ, w1, hg, wt, ws, w2, w3, w4, wlv, zp]
  have wkk : w64 (w64 (len (mag a) - ((n + 2 : Nat) : Int)) + 1) = ((K + 1 : Nat) : Int) := by rw [← wlv, w3, w4]
  simp only [wkk, zp]
  refine uF sd (uN ⟨by omega, by omega⟩ ?_)
  have htr : ∀ (l : List Int) (z : Nat), Dg 1000000000 l → l.length ≤ 2000000000000 → V 1000000000 l = z → acU (l, ()) = some (mag z, ()) := by
   intro l z h1 h2 h3
   unfold acU
   rw [if_pos ⟨h1, h2⟩]
   simp only [h3, zp]
  refine uC _ (htr _ r (acI g7 _) (by rw [zK]; omega) hVtake) ?_
  refine uC _ (hshort r s zc zc zc) ?_
  have htq : List.take (K + 1) q = q := zx zc
  rw [htq]
  refine uC _ (htr q x g4 zc hx) ?_
  rw [aaJ, h9, h10, wC _ zc]
 | succ j =>
  left
  have e6 : ((j + 1 : Nat) : Int) - 1 = (j : Int) := zc
  rw [e6]
  have wlv : len v = ((n + 2 : Nat) : Int) := by rw [aaC, lv]
  have wa : w64 (w64 ((j : Int) + len v) + 1) = ((j + n + 2 + 1 : Nat) : Int) := by rw [wlv, aaA (x := (j : Int) + ((n + 2 : Nat) : Int)) zc, aaA zc]; omega
  have wb : ((((j + n + 2 + 1 : Nat) : Int).toNat - (j : Int).toNat : Nat) : Int) = ((n + 3 : Nat) : Int) := zc
  have wb1 : w64 (len v - 1) = ((n + 1 : Nat) : Int) := by rw [wlv, aaA zc]; omega
  have hvpos' : 0 < V 1000000000 v := by rw [hvV]; omega
  have du := aa3 zc g7 j
  have eU := aaU 1000000000 u j
  have hU0 := aaT zc (acZ g7 j)
  have hUB : V 1000000000 (u.drop j) < V 1000000000 v * 1000000000 := zc
  have hvlt : V 1000000000 v < 1000000000 ^ (n + 2) := by have := aLR zc hvd; rwa [lv] at this
  have hz : V 1000000000 (u.drop (j + n + 2 + 1)) = 0 := by
   have e1 := acJ 1000000000 (u.drop (j + 1)) (n + 2)
   rw [yb, show j + 1 + (n + 2) = j + n + 2 + 1 by omega] at e1
   have e2 := aaT zc (acI (acZ g7 (j + 1)) (n + 2))
   have e3 := aaT zc (acZ g7 (j + n + 2 + 1))
   have e5 : V 1000000000 (u.drop (j + n + 2 + 1)) < 1 := by
    have : 1000000000 ^ (n + 2) * V 1000000000 (u.drop (j + n + 2 + 1)) < 1000000000 ^ (n + 2) * 1 := zc
    exact yR this (xo (yG zc))
   omega
  obtain ⟨Q, hQ⟩ : ∃ Q, Q = V 1000000000 (u.drop j) / V 1000000000 v := ⟨_, rfl⟩
  have hdm := yl (V 1000000000 (u.drop j)) (V 1000000000 v)
  have hr0 := yO (V 1000000000 (u.drop j)) (show V 1000000000 v ≠ 0 by omega)
  have hr1 := yB (V 1000000000 (u.drop j)) hvpos'
  have hQ0 : 0 ≤ Q := by rw [hQ]; exact xD hU0 zc
  rw [← hQ, yJ] at hdm
  have hQB : Q < 1000000000 := by
   have : Q * V 1000000000 v < 1000000000 * V 1000000000 v := zc
   exact yh this zc
  obtain ⟨qq, p1, p2, p3, p4⟩ := aOu (mag a) (mag b) (avA a b, ()) (mag (a * s), ()) v q u j n (V 1000000000 (u.drop j)) Q hvd lv zc zc g7 hz rfl hUB zc (by rw [wT]; omega) hQ0 hvtop
  obtain ⟨u', r1, r2, r3, r4, r5⟩ := aOt (mag a) (mag b) (avA a b, ()) (mag (a * s), ()) v q u j (n + 2) qq Q hvd lv zc zc g7 ⟨p2, p3⟩ (by rw [w3, w4]; exact ⟨by omega, by omega⟩) hz p1 zc zc hQ0
  have k1 : j ≤ K + 1 := Nat.le_of_succ_le g1
  have k3 : (q.set j Q).length = K + 1 := by rw [yW]; exact g3
  have k4 := ajG g4 ⟨hQ0, hQB⟩ j
  have k6 : u'.length = (mag a).length + 1 := by rw [r2]; exact g6
  have k8 : V 1000000000 (u'.drop j) < V 1000000000 v := by rw [r5]; omega
  have k9 : ((j : Int) - 1 + 1).toNat < ((j : Int) + 1).toNat := zc
  refine ⟨((j : Int) - 1, q.set j Q, u', ()), ?_, ⟨j, k1, rfl, k3, k4, ?_, k6, r3, k8, ?_⟩, k9, ze⟩
  ·exact aOv (mag a) (mag b) (avA a b, ()) (mag (a * s), ()) v q u j n qq _ hvd g7 lv g6 zc zc hvtop p4 r1
  ·intro p hp
   dsimp only
   rw [apL _ zc]
   exact g5 p zc
  ·dsimp only
   rw [azL _ zc, g5 j zc, r4, g9]
   grind
theorem aJC (n o : SgT) (y) (h : azM (n, o, ()) = some y) : (al4 n o).toO = some y := by
 obtain ⟨⟨a, b⟩, hp, hx, rfl⟩ := aaD h
 obtain ⟨rfl, hx2⟩ := Prod.mk.inj hx; obtain ⟨rfl, -⟩ := Prod.mk.inj hx2; dsimp only
 obtain ⟨l1, l2⟩ := hp
 simp only at l1 l2
 unfold al4
 dsimp only
 refine uC _ (aDw (aaF l2 zc)) ?_
 refine uC (sg (a + -b), ()) (aRy l1 (by rw [xH]; exact l2)) ?_
 rw [← Int.sub_eq_add_neg]; rfl
theorem aR8 {a b : Int} : a * b = 0 ∨ (!(decide (a < 0) == decide (b < 0))) = decide (a * b < 0) := by
 rcases xj a 0 with ha | ha | ha
 ·rcases xj b 0 with hb | hb | hb
  ·right
   have := we ha hb
   rw [zo ha, zo hb, zn zc]; rfl
  ·left; rw [hb, wu]
  ·right
   have := xY ha hb
   rw [zo ha, zn zc, zo this]; rfl
 ·left; rw [ha, Int.zero_mul]
 ·rcases xj b 0 with hb | hb | hb
  ·right
   have := xZ ha hb
   rw [zn zc, zo hb, zo this]; rfl
  ·left; rw [hb, wu]
  ·right
   have := vo ha hb
   rw [zn zc, zn zc, zn zc]; rfl
theorem az9 (n o : SgT) (y) (h : ai5 (n, o, ()) = some y) : (al3 n o).toO = some y := by
 obtain ⟨⟨a, b⟩, hp, hx, rfl⟩ := aaD h
 obtain ⟨rfl, hx2⟩ := Prod.mk.inj hx; obtain ⟨rfl, -⟩ := Prod.mk.inj hx2; dsimp only
 obtain ⟨l1, l2⟩ := hp
 simp only at l1 l2
 unfold al3
 dsimp only
 refine uC _ (auE (aaF l1 zc) (aaF l2 zc)) ?_
 exact uC (sg (a * b), ()) (aBO (by rw [yD]) aR8) rfl
def ayH (l : List Int) (j : Nat) : Bool := (List.range j).any (fun i => decide (l.getD (i + 1) 0 < l.getD i 0))
def asN (l : List Int) (j : Nat) : Bool := (List.range j).any (fun i => decide (l.getD (i + 1) 0 > l.getD i 0))
theorem aFm (l : List Int) (j : Nat) : ayH l (j + 1) = (ayH l j || decide (l.getD (j + 1) 0 < l.getD j 0)) := by
 unfold ayH; rw [List.range_succ, List.any_append]; simp
theorem aD1 (l : List Int) (j : Nat) : asN l (j + 1) = (asN l j || decide (l.getD (j + 1) 0 > l.getD j 0)) := by
 unfold asN; rw [List.range_succ, List.any_append]; simp
theorem aJW {c : CvT} (h : abW c) : c.2.1.length ≤ 17 ∧ (c.1 = 3 → 1 ≤ c.2.2.1.length ∧ c.2.2.1.length ≤ 4) := by
 rcases h with ⟨h1, h2, h3⟩ | ⟨h1, h2, h3⟩ | ⟨h1, h2, h3⟩
 ·rw [h2]; exact ⟨by simp, fun h => by omega⟩
 ·exact ⟨h2.2.1, fun h => by omega⟩
 ·rw [h2]; exact ⟨by simp, fun _ => ⟨h3.1, h3.2.1⟩⟩
theorem aH2 (c : CvT) (y) (h : anA (c, ()) = some y) : (ay7 c).toO = some y := by
 injection h with h
 subst h
 obtain ⟨kind, tab, l, u0⟩ := c
 unfold ay7
 dsimp only
 refine uC _ (az4 (kind, tab, l, ())) ?_
 by_cases hr : abW (kind, tab, l, ())
 case neg =>
  have hr' : ¬ abW (kind, tab, l, u0) := hr
  rw [if_neg hr']
  rw [if_neg hr]
  exact uT rfl rfl
 have hr' : abW (kind, tab, l, u0) := hr
 rw [if_pos hr']
 rw [if_pos hr]
 obtain ⟨hl1, hl2⟩ := aJW hr
 dsimp only at hl1 hl2
 refine uF rfl (uO (1, false, false, ()) rfl ?_)
 refine aaL (fun i : Int × Bool × Bool × Unit => ∃ j : Nat, j ≤ tab.length - 1 ∧ i.1 = (j : Int) + 1 ∧ i.2.1 = ayH tab j ∧ i.2.2.1 = asN tab j) (fun i => ((tab.length : Int) - i.1).toNat) (fun _ => (aMr (kind, tab, l, u0), 0, ())) ?_ _ ⟨0, by omega, rfl, rfl, rfl⟩
 rintro ⟨i, dn, up, u⟩ ⟨j, h1, h2, h3, h4⟩
 dsimp only at h2 h3 h4
 subst h2
 simp only [aBH]
 have hw1 : w64 ((j : Int) + 1 + 1) = (((j + 1 : Nat) : Int)) + 1 := by rw [aaA zc]; omega
 have hw2 : w64 ((j : Int) + 1 - 1) = (j : Int) := by rw [aaA zc]; omega
 have hj1 : (j : Int) + 1 = ((j + 1 : Nat) : Int) := rfl
 rcases zr (j + 1) tab.length with hk | hk
 ·left
  refine ⟨((((j + 1 : Nat) : Int)) + 1, ayH tab (j + 1), asN tab (j + 1), ()), ?_, ⟨j + 1, by omega, rfl, rfl, rfl⟩, by dsimp only; omega, ze⟩
  refine uT sd ?_
  rw [hw1, hw2, hj1, aFm, aD1, ← h3, ← h4]
  simp only [aaM]
  cases up
  ·refine uF rfl (uN ⟨by exact sn, by exact sn⟩ (uN ⟨by exact sn, by exact sn⟩ ?_))
   cases dn
   ·exact uF rfl (uN ⟨by exact sn, by exact sn⟩ (uN ⟨by exact sn, by exact sn⟩ rfl))
   ·exact uT rfl rfl
  ·refine uT rfl ?_
   cases dn
   ·exact uF rfl (uN ⟨by exact sn, by exact sn⟩ (uN ⟨by exact sn, by exact sn⟩ rfl))
   ·exact uT rfl rfl
 ·right
  refine uF sd ?_
  have hj : j = tab.length - 1 := zc
  subst hj
  have h3' : dn = aSI tab := h3
  have h4' : up = asN tab (tab.length - 1) := h4
  unfold aMr
  dsimp only
  by_cases k3 : kind = 3
  ·obtain ⟨g1, g2⟩ := hl2 k3
   rw [if_pos k3]
   subst k3
   refine uT rfl (uN ⟨by exact sn, by exact sn⟩ ?_)
   have hg : gi l 0 zs = l.getD 0 zs := aaM l 0 zs
   rw [hg]
   by_cases g3 : l.length > 1
   ·have e1 : (!decide (len l > 1)) = false := by rw [zo (by rw [aaC]; omega)]; rfl
    rw [if_pos g3, e1]
    by_cases g4 : (l.getD 0 zs).2.1 < 0
    ·exact uT (zo g4) (uF rfl rfl)
    ·exact uF (zn g4) (uF rfl (uF rfl rfl))
   ·have e1 : (!decide (len l > 1)) = true := by rw [zn (by rw [aaC]; omega)]; rfl
    rw [if_neg g3, e1]
    by_cases g4 : (l.getD 0 zs).2.1 < 0
    ·rw [if_pos g4]; exact uT (zo g4) (uT rfl rfl)
    ·rw [if_neg g4]; exact uF (zn g4) (uT rfl rfl)
  ·rw [if_neg k3]
   have h5 : up = aSa tab := h4'
   refine uF (beq_eq_false_iff_ne.2 k3) ?_
   rw [h3', h5]
   cases aSI tab
   ·exact uT rfl rfl
   ·refine uF rfl ?_
    cases aSa tab
    ·exact uT rfl rfl
    ·exact uF rfl rfl
set_option maxRecDepth 100000
open Go Go.Vg Go.Proofs
noncomputable section
def aGA : LTab := []
def apA (n : Int) (low : Int) (high : Int) : TT ux :=
 .ite (decide (n ≥ low))
 (.ok ((decide (n ≤ high), ())))
 (.ok ((false, ())))
def aGE : LTab := [(126, 26, 2048, ⟨0, (Int) × Unit, .dat (.s 5) ud <| .nil, [0, 1], [], 0⟩)]
def auM (a : Int) (b : Int) (i : (Int) × Unit) : TT tJ :=
 .ite (decide (i.1 ≤ a))
 (.ite (decide (i.1 ≤ b))
 (.need (i.1 ≠ 0) <| .ite (Int.tmod a i.1 == 0)
 (.need (i.1 ≠ 0) <| .ite (Int.tmod b i.1 == 0)
 (.ok (.inr ((true, ()))))
 (.tt <| .lt (w64 (i.1 + 1) : Int) fun z => .vL (vO z a b) <| .tr <| .ok (.inl ((z, ())))))
 (.tt <| .lt (w64 (i.1 + 1) : Int) fun z1 => .vL (vO z1 a b) <| .tr <| .ok (.inl ((z1, ())))))
 (.ok (.inr ((false, ())))))
 (.ok (.inr ((false, ()))))
def apB (a : Int) (b : Int) : TT ux :=
 .loop 0 (.tt <| .vL (vO (2 : Int) a b) <| .tr <| .ok ((2, ()))) (auM a b)
def aD6 : LTab := []
def amC (s : Int × Int × Int × Int × Int × Int × Unit) : TT ux :=
 .call (acF (s.2.1, -100000000, 100000000, ())) Dd1 fun y =>
 .ite (y.1)
 (.call (acF (s.2.2.1, -100000000, 100000000, ())) Dd1 fun y1 =>
 .ite (y1.1)
 (.call (acF (s.2.2.2.2.2.1, -100000000, 100000000, ())) Dd1 fun y2 =>
 .ite (y2.1)
 (.call (acF (s.2.2.2.1, 1, 36, ())) Dd1 fun y3 =>
 .ite (y3.1)
 (.call (acF (s.2.2.2.2.1, 1, 12, ())) Dd1 fun y4 =>
 .ite (y4.1)
 (.call (abH (s.2.2.2.1, s.2.2.2.2.1, ())) Dd1 fun y5 =>
 .ok ((!y5.1, ())))
 (.ok ((false, ()))))
 (.ok ((false, ()))))
 (.ok ((false, ()))))
 (.ok ((false, ()))))
 (.ok ((false, ())))
def aJY : LTab := [(49, 3442, 9216, ⟨0, (Int) × Unit, .dat (.s 3) ud <| .nil, [8, 1], [0], 0⟩), (49, 27626, 12288, ⟨1, (Int) × (Int) × Unit, .dat (.s 5) ud <| .dat (.s 4) ud <| .nil, [1], [0], 0⟩)]
def aw1 (c : Int × List Int × List uc × Unit) (i : (Int) × Unit) : TT tJ :=
 .ite (decide (i.1 < len c.2.1))
 (.need (inb i.1 (len c.2.1)) <| .call (acF (gi c.2.1 i.1 0, 0, 65535, ())) Dd1 fun y =>
 .ite (!y.1)
 (.ok (.inr ((false, ()))))
 (.tt <| .lt (w64 (i.1 + 1) : Int) fun z => .vL (vS z c.1 <| ui ∧ True) <| .vL (vK (vN 42 c.1 c.2.1 c.2.2.1) True) <| .ok (.inl ((z, ())))))
 (.call (acF (len c.2.1, 2, 17, ())) Dd1 fun y1 =>
 .ite (y1.1)
 (.ok (.inr ((len c.2.2.1 == 0, ()))))
 (.ok (.inr ((false, ())))))
def aw0 (c : Int × List Int × List uc × Unit) (i1 : (Int) × (Int) × Unit) : TT (uz ⊕ ux) :=
 .ite (decide (i1.1 < len c.2.2.1))
 (.need (inb i1.1 (len c.2.2.1)) <| .call (ai7 (((gi c.2.2.1 i1.1 (0, 0, 0, 0, 0, 0, ())).1, (gi c.2.2.1 i1.1 (0, 0, 0, 0, 0, 0, ())).2.1, (gi c.2.2.1 i1.1 (0, 0, 0, 0, 0, 0, ())).2.2.1, (gi c.2.2.1 i1.1 (0, 0, 0, 0, 0, 0, ())).2.2.2.1, (gi c.2.2.1 i1.1 (0, 0, 0, 0, 0, 0, ())).2.2.2.2.1, (gi c.2.2.1 i1.1 (0, 0, 0, 0, 0, 0, ())).2.2.2.2.2.1, ()), ())) Dd1 fun y2 =>
 .ite (!y2.1)
 (.ok (.inr ((false, ()))))
 (.ite (decide ((gi c.2.2.1 i1.1 (0, 0, 0, 0, 0, 0, ())).1 ≤ i1.2.1))
 (.ok (.inr ((false, ()))))
 (.tt <| .lt (w64 (i1.1 + 1) : Int) fun z1 => .lt ((gi c.2.2.1 i1.1 (0, 0, 0, 0, 0, 0, ())).1 : Int) fun z2 => .vL (vS z2 z1 <| ui ∧ True) <| .vL (vK (vN 42 c.1 c.2.1 c.2.2.1) True) <| .ok (.inl ((z1, z2, ()))))))
 (.call (acF (len c.2.2.1, 1, 4, ())) Dd1 fun y3 =>
 .ite (y3.1)
 (.ite (i1.2.1 == 1000000)
 (.ok (.inr ((len c.2.1 == 0, ()))))
 (.ok (.inr ((false, ())))))
 (.ok (.inr ((false, ())))))
def asQ (c : Int × List Int × List uc × Unit) : TT ux :=
 .ite (c.1 == 1)
 (.ite (len c.2.1 == 0)
 (.ok ((len c.2.2.1 == 0, ())))
 (.ok ((false, ()))))
 (.ite (c.1 == 2)
 (.loop 0 (.tt <| .vL (vS (0 : Int) c.1 <| ui ∧ True) <| .vL (vK (vN 42 c.1 c.2.1 c.2.2.1) True) <| .ok ((0, ()))) (aw1 c))
 (.ite (c.1 == 3)
 (.loop 1 (.tt <| .vL (vS (0 : Int) (0 : Int) <| ui ∧ True) <| .vL (vK (vN 42 c.1 c.2.1 c.2.2.1) True) <| .ok ((0, 0, ()))) (aw0 c))
 (.ok ((false, ())))))
def aSc : LTab := []
def aMU (n : Int) (d : Int) : TT tP :=
 .call (ap0 (n, d, ())) adS fun y =>
 .ok (((y.1.1, y.1.2.1, ()), ()))
def aEa : LTab := []
def amH (x : List UInt8 × List UInt8 × Unit) : TT tP :=
 .call (adE (0, 1, ())) adL fun y =>
 .call (adE (1, 1, ())) adL fun y1 =>
 .call (aoF ((x.1, x.2.1, ()), y.1, y1.1, ())) adS fun y2 =>
 .ok (((y2.1.1, y2.1.2.1, ()), ()))
def aMW : LTab := []
def awX (a : List UInt8 × List UInt8 × Unit) (b : List UInt8 × List UInt8 × Unit) : TT ux :=
 .call (arS ((a.1, a.2.1, ()), (b.1, b.2.1, ()), ())) aDK fun y =>
 .ok ((decide (y.1 < 0), ()))
end
theorem aCi (n a b : Int) (y) (h : acF (n, a, b, ()) = some y) : (apA n a b).toO = some y := by
 injection h with h
 subst h
 unfold apA
 dsimp only
 by_cases c : a ≤ n
 ·refine uT (zo c) ?_
  rw [aaJ]
  by_cases d : n ≤ b
  ·rw [zo d, zo (show inR n a b from ⟨c, d⟩)]
  ·rw [zn d, zn (fun h : inR n a b => d h.2)]
 ·refine uF (zn c) ?_
  rw [aaJ, zn (fun h : inR n a b => c h.1)]
theorem adK (n a b : Int) : acF (n, a, b, ()) = some (decide (inR n a b), ()) := rfl
theorem aCl (a b : Int) (y) (h : abH (a, b, ()) = some y) : (apB a b).toO = some y := by
 unfold abH at h
 split at h
 case isFalse => cases h
 case isTrue hp =>
 injection h with h
 subst h
 obtain ⟨⟨a1, a2⟩, b1, b2⟩ := hp
 dsimp only at a1 a2 b1 b2 ⊢
 obtain ⟨m, rfl⟩ := zv (show 0 ≤ a by omega)
 obtain ⟨n, rfl⟩ := zv (show 0 ≤ b by omega)
 unfold apB
 refine uO (2, ()) rfl ?_
 refine aaL (fun i : Int × Unit => ∃ k : Nat, 2 ≤ k ∧ k ≤ 50 ∧ i.1 = (k : Int) ∧ ∀ j, 2 ≤ j → j < k → ¬ (j ∣ m ∧ j ∣ n)) (fun i => ((60 : Int) - i.1).toNat) (fun _ => (!decide (Nat.gcd (m : Int).natAbs (n : Int).natAbs = 1), ())) ?_ _ ⟨2, by omega, by omega, rfl, fun j h1 h2 => by omega⟩
 rintro ⟨i, u⟩ ⟨k, h1, h1', h2, h3⟩
 dsimp only at h2
 subst h2
 simp only [auM, zQ]
 have hstop : ¬ (k ≤ m ∧ k ≤ n) → (!decide (Nat.gcd m n = 1)) = false := by
  intro hk
  refine (fun hg : Nat.gcd m n = 1 => by rw [zo hg]; rfl) ?_
  have g1 : 0 < Nat.gcd m n := Nat.gcd_pos_of_pos_left _ zc
  have g2 := xI m n
  have g3 := xE m n
  have g4 := Nat.le_of_dvd zc g2
  have g5 := Nat.le_of_dvd zc g3
  rcases zr 1 (Nat.gcd m n) with g6 | g6
  ·exact absurd ⟨g2, g3⟩ (h3 _ zc zc)
  ·omega
 have hdiv : ∀ z : Nat, ((Int.tmod (z : Int) (k : Int)) == 0) = decide (k ∣ z) := by
  intro z
  rw [← Int.ofNat_tmod]
  by_cases c : k ∣ z
  ·rw [zo c, Nat.mod_eq_zero_of_dvd c]; rfl
  ·rw [zn c, beq_eq_false_iff_ne]
   intro h
   exact c (Nat.dvd_of_mod_eq_zero zc)
 by_cases c1 : k ≤ m
 ·by_cases c2 : k ≤ n
  ·by_cases d1 : k ∣ m
   ·by_cases d2 : k ∣ n
    ·right
     rw [zn (fun h : Nat.gcd m n = 1 => by have := Nat.dvd_gcd d1 d2; rw [h] at this; have := Nat.le_of_dvd zc this; omega)]
     exact uT sd (uT sd (uN zc (uT (by rw [hdiv]; exact zo d1) (uN zc (uT (by rw [hdiv]; exact zo d2) rfl)))))
    ·left
     refine ⟨(((k + 1 : Nat) : Int), ()), ?_, ⟨k + 1, by omega, by omega, rfl, fun j j1 j2 => ?_⟩, by dsimp only; omega, ze⟩
     ·refine uT sd (uT sd (uN zc (uT (by rw [hdiv]; exact zo d1) (uN zc (uF (by rw [hdiv]; exact zn d2) ?_)))))
      rw [aaA (x := (k : Int) + 1) zc]; rfl
     ·rcases zr j k with hj | hj
      ·exact h3 j j1 hj
      ·obtain rfl : j = k := zc
       exact fun h => d2 h.2
   ·left
    refine ⟨(((k + 1 : Nat) : Int), ()), ?_, ⟨k + 1, by omega, by omega, rfl, fun j j1 j2 => ?_⟩, by dsimp only; omega, ze⟩
    ·refine uT sd (uT sd (uN zc (uF (by rw [hdiv]; exact zn d1) ?_)))
     rw [aaA (x := (k : Int) + 1) zc]; rfl
    ·rcases zr j k with hj | hj
     ·exact h3 j j1 hj
     ·obtain rfl : j = k := zc
      exact fun h => d1 h.1
  ·right
   rw [hstop (fun h => c2 h.2)]
   exact uT sd (uF sd rfl)
 ·right
  rw [hstop (fun h => c1 h.1)]
  exact uF sd rfl
theorem aAf (s : ad0) (y) (h : ai7 (s, ()) = some y) : (amC s).toO = some y := by
 injection h with h
 subst h
 obtain ⟨till, mul, add, num, den, off, u⟩ := s
 unfold amC
 dsimp only
 refine uC _ (adK _ _ _) ?_
 by_cases c1 : inR mul (-100000000) 100000000
 case neg => rw [zn (fun h : ad6 (till, mul, add, num, den, off, u) => c1 h.1)]; exact uF (zn c1) rfl
 refine uT (zo c1) (uC _ (adK _ _ _) ?_)
 by_cases c2 : inR add (-100000000) 100000000
 case neg => rw [zn (fun h : ad6 (till, mul, add, num, den, off, u) => c2 h.2.1)]; exact uF (zn c2) rfl
 refine uT (zo c2) (uC _ (adK _ _ _) ?_)
 by_cases c3 : inR off (-100000000) 100000000
 case neg => rw [zn (fun h : ad6 (till, mul, add, num, den, off, u) => c3 h.2.2.1)]; exact uF (zn c3) rfl
 refine uT (zo c3) (uC _ (adK _ _ _) ?_)
 by_cases c4 : inR num 1 36
 case neg => rw [zn (fun h : ad6 (till, mul, add, num, den, off, u) => c4 h.2.2.2.1)]; exact uF (zn c4) rfl
 refine uT (zo c4) (uC _ (adK _ _ _) ?_)
 by_cases c5 : inR den 1 12
 case neg => rw [zn (fun h : ad6 (till, mul, add, num, den, off, u) => c5 h.2.2.2.2.1)]; exact uF (zn c5) rfl
 refine uT (zo c5) (uC (!decide (Nat.gcd num.natAbs den.natAbs = 1), ()) (by unfold abH; rw [if_pos ⟨c4, c5⟩]) ?_)
 rw [aaJ]
 by_cases c6 : Nat.gcd num.natAbs den.natAbs = 1
 ·rw [zo (show ad6 (till, mul, add, num, den, off, u) from ⟨c1, c2, c3, c4, c5, c6⟩), zo c6]; rfl
 ·rw [zn (fun h : ad6 (till, mul, add, num, den, off, u) => c6 h.2.2.2.2.2), zn c6]; rfl
theorem aLV {c : CvT} (h : shC c) : ahO (c, ()) = some (decide (abW c), ()) := by unfold ahO; rw [if_pos h]
theorem aMV (n d : Int) (y) (h : adE (n, d, ()) = some y) : (aMU n d).toO = some y := by
 unfold adE ab0 at h
 split at h
 ·rename_i hp
  exact uC (ofQ n d) (by unfold ap0 alZ; rw [if_pos hp]) h
 ·cases h
theorem ap1 {n : Int} {d : Nat} (hn : abA n) (hd : d ≠ 0) (h2 : d ≤ 9223372036854775807) : adE (n, (d : Int), ()) = some (fx (mkRat n d), ()) := af2 hn hd h2
def aGx : Int → List ad0 → Prop
 | last, [] => last = 1000000
 | last, s :: r => (ad6 s ∧ last < s.1) ∧ aGx s.1 r
theorem aIw : ∀ (l : List ad0) (last : Int), aGx last l → last ≤ 1000000
 | [], _, h => by have : _ = _ := h; omega
 | _ :: r, _, h => by have := aIw r _ h.2; have := h.1.2; omega
theorem al8 : ∀ (l : List ad0) (last : Int), aGx last l ↔ agZ last l
 | [], _ => Iff.rfl
 | s :: r, last => by
  constructor
  ·intro h
   have := aIw r _ h.2
   exact ⟨⟨h.1.1, by have := h.1.2; omega, this⟩, (al8 r _).1 h.2⟩
  ·intro h
   exact ⟨⟨h.1.1, by have := h.1.2.1; omega⟩, (al8 r _).2 h.2⟩
theorem aJT {last : Int} {s : ad0} {r : List ad0} : aGx last (s :: r) ↔ (ad6 s ∧ last < s.1) ∧ aGx s.1 r := Iff.rfl
theorem aD8 (c : CvT) (y) (h : ahO (c, ()) = some y) : (asQ c).toO = some y := by
 unfold ahO at h
 split at h
 case isFalse => cases h
 case isTrue hp =>
 injection h with h
 subst h
 obtain ⟨kind, tab, l, u0⟩ := c
 obtain ⟨hs1, hs2⟩ := hp
 dsimp only at hs1 hs2
 unfold asQ
 dsimp only
 by_cases k1 : kind = 1
 ·subst k1
  have hd : decide (abW (1, tab, l, u0)) = decide (tab = [] ∧ l = []) := decide_eq_decide.2 ⟨fun h => by
   rcases h with h | h | h
   ·exact h.2
   ·exact absurd h.1 (by decide : ¬ (1 : Int) = 2)
   ·exact absurd h.1 (by decide : ¬ (1 : Int) = 3), fun h => Or.inl ⟨rfl, h⟩⟩
  rw [hd]
  refine uT rfl ?_
  simp only [ak4]
  by_cases a1 : tab = []
  ·refine uT (zo a1) ?_
   rw [aaJ]
   by_cases a2 : l = []
   ·rw [zo a2, zo (show tab = [] ∧ l = [] from ⟨a1, a2⟩)]
   ·rw [zn a2, zn (fun h : tab = [] ∧ l = [] => a2 h.2)]
  ·refine uF (zn a1) ?_
   rw [aaJ, zn (fun h : tab = [] ∧ l = [] => a1 h.1)]
 refine uF (beq_eq_false_iff_ne.2 k1) ?_
 by_cases k2 : kind = 2
 ·subst k2
  have hd : decide (abW (2, tab, l, u0)) = decide (adM tab ∧ l = []) := decide_eq_decide.2 ⟨fun h => by
   rcases h with h | h | h
   ·exact absurd h.1 (by decide : ¬ (2 : Int) = 1)
   ·exact h.2
   ·exact absurd h.1 (by decide : ¬ (2 : Int) = 3), fun h => Or.inr (Or.inl ⟨rfl, h⟩)⟩
  rw [hd]
  refine uT rfl (uO (0, ()) rfl ?_)
  refine aaL (fun i : Int × Unit => ∃ k : Nat, k ≤ tab.length ∧ i = ((k : Int), ()) ∧ ∀ v ∈ tab.take k, inR v 0 65535) (fun i => ((tab.length : Int) - i.1).toNat) (fun _ => (decide (adM tab ∧ l = []), ())) ?_ _ ⟨0, by omega, rfl, by simp⟩
  rintro i ⟨k, h3, rfl, h4⟩
  simp only [aw1, aaM]
  rcases zr k tab.length with hk | hk
  ·have e : tab.getD k 0 = tab[k] := by simp [hk]
   rw [e]
   by_cases c : inR tab[k] 0 65535
   ·left
    refine ⟨(((k + 1 : Nat) : Int), ()), ?_, ⟨k + 1, by omega, rfl, ?_⟩, by simp only; omega, ze⟩
    ·refine uT sd (uN sd (uC _ (adK _ _ _) (uF (by rw [zo c]; rfl) ?_)))
     rw [aaA (x := (k : Int) + 1) zc]
     rfl
    ·intro v hv
     rw [zX hk] at hv
     rcases zJ.1 hv with hv | hv
     ·exact h4 v hv
     ·rw [zZ.1 hv]; exact c
   ·right
    rw [zn (fun h : adM tab ∧ l = [] => c (h.1.2.2 _ (yf hk)))]
    exact uT sd (uN sd (uC _ (adK _ _ _) (uT (by rw [zn c]; rfl) rfl)))
  ·right
   rw [zx hk] at h4
   refine uF sd (uC _ (adK _ _ _) ?_)
   by_cases c1 : inR (len tab) 2 17
   ·refine uT (zo c1) ?_
    rw [aaJ, ak4]
    have ht : adM tab := ⟨by have := c1.1; rw [aaC] at this; omega, by have := c1.2; rw [aaC] at this; omega, h4⟩
    by_cases c2 : l = []
    ·rw [zo c2, zo (show adM tab ∧ l = [] from ⟨ht, c2⟩)]
    ·rw [zn c2, zn (fun h : adM tab ∧ l = [] => c2 h.2)]
   ·refine uF (zn c1) ?_
    rw [aaJ, zn (fun h : adM tab ∧ l = [] => c1 ⟨by have := h.1.1; rw [aaC]; omega, by have := h.1.2.1; rw [aaC]; omega⟩)]
 refine uF (beq_eq_false_iff_ne.2 k2) ?_
 by_cases k3 : kind = 3
 ·subst k3
  have hd : decide (abW (3, tab, l, u0)) = decide (tab = [] ∧ ab9 l) := decide_eq_decide.2 ⟨fun h => by
   rcases h with h | h | h
   ·exact absurd h.1 (by decide : ¬ (3 : Int) = 1)
   ·exact absurd h.1 (by decide : ¬ (3 : Int) = 2)
   ·exact h.2, fun h => Or.inr (Or.inr ⟨rfl, h⟩)⟩
  rw [hd]
  refine uT rfl (uO (0, 0, ()) rfl ?_)
  refine aaL (fun i : Int × Int × Unit => ∃ k : Nat, k ≤ l.length ∧ i.1 = (k : Int) ∧ (aGx 0 l ↔ aGx i.2.1 (l.drop k))) (fun i => ((l.length : Int) - i.1).toNat) (fun _ => (decide (tab = [] ∧ ab9 l), ())) ?_ _ ⟨0, by omega, rfl, Iff.rfl⟩
  rintro ⟨i, last, u⟩ ⟨k, h3, h4, h6⟩
  dsimp only at h4 h6
  subst h4
  simp only [aw0, aaM]
  rcases zr k l.length with hk | hk
  ·have e : l.getD k zs = l[k] := by simp [hk]
   rw [yu hk, aJT] at h6
   have hv : ai7 (((l.getD k zs).1, (l.getD k zs).2.1, (l.getD k zs).2.2.1, (l.getD k zs).2.2.2.1, (l.getD k zs).2.2.2.2.1, (l.getD k zs).2.2.2.2.2.1, ()), ()) = some (decide (ad6 l[k]), ()) := by
    rw [← e]; rfl
   by_cases c : ad6 l[k]
   ·by_cases c2 : last < l[k].1
    ·left
     refine ⟨(((k + 1 : Nat) : Int), l[k].1, ()), ?_, ⟨k + 1, by omega, rfl, ⟨fun h => (h6.1 h).2, fun h => h6.2 ⟨⟨c, c2⟩, h⟩⟩⟩, by dsimp only; omega, ze⟩
     refine uT sd (uN sd (uC _ hv (uF (by rw [zo c]; rfl) (uF (zn (by rw [e]; omega)) ?_))))
     rw [aaA (x := (k : Int) + 1) zc, e]
     rfl
    ·right
     rw [zn (fun h : tab = [] ∧ ab9 l => c2 (h6.1 ((al8 _ _).2 h.2.2.2)).1.2)]
     exact uT sd (uN sd (uC _ hv (uF (by rw [zo c]; rfl) (uT (zo (by rw [e]; omega)) rfl))))
   ·right
    rw [zn (fun h : tab = [] ∧ ab9 l => c (h6.1 ((al8 _ _).2 h.2.2.2)).1.1)]
    exact uT sd (uN sd (uC _ hv (uT (by rw [zn c]; rfl) rfl)))
  ·right
   have hkl : k = l.length := zc
   subst hkl
   rw [List.drop_length] at h6
   have h7 : agZ 0 l ↔ last = 1000000 := by rw [← al8]; exact h6
   refine uF sd (uC _ (adK _ _ _) ?_)
   by_cases c1 : inR (len l) 1 4
   ·refine uT (zo c1) ?_
    by_cases c2 : last = 1000000
    ·refine uT (yF.2 c2) ?_
     have hs : ab9 l := ⟨by have := c1.1; rw [aaC] at this; omega, by have := c1.2; rw [aaC] at this; omega, h7.2 c2⟩
     rw [aaJ, ak4]
     by_cases c3 : tab = []
     ·rw [zo c3, zo (show tab = [] ∧ ab9 l from ⟨c3, hs⟩)]
     ·rw [zn c3, zn (fun h : tab = [] ∧ ab9 l => c3 h.1)]
    ·refine uF (beq_eq_false_iff_ne.2 c2) ?_
     rw [aaJ, zn (fun h : tab = [] ∧ ab9 l => c2 (h7.1 h.2.2.2))]
   ·refine uF (zn c1) ?_
    rw [aaJ, zn (fun h : tab = [] ∧ ab9 l => c1 ⟨by have := h.2.1; rw [aaC]; omega, by have := h.2.2.1; rw [aaC]; omega⟩)]
 ·refine uF (beq_eq_false_iff_ne.2 k3) ?_
  rw [aaJ, zn (fun h : abW (kind, tab, l, u0) => by
   rcases h with h | h | h
   ·exact k1 h.1
   ·exact k2 h.1
   ·exact k3 h.1)]
theorem aAh (x : FxT) (y) (h : ag8 (x, ()) = some y) : (amH x).toO = some y := by
 unfold ag8 ab7 at h
 obtain ⟨q, hp, hx, rfl⟩ := aaD h
 obtain ⟨rfl, -⟩ := Prod.mk.inj hx
 have i0 : abA 0 := ⟨by omega, by omega⟩
 have i1 : abA 1 := ⟨by omega, by omega⟩
 have e0 : mkRat 0 1 = (0 : Rat) := by rw [acS]; rfl
 have e1 : mkRat 1 1 = (1 : Rat) := by rw [acS]; rfl
 unfold amH
 refine uC _ (ap1 (d := 1) i0 zc zc) (uC _ (ap1 (d := 1) i1 zc zc) ?_)
 exact uC _ (aLZ hp (aa7 i0) (aa7 i1) (by rw [e0, e1]; decide)) (by rw [e0, e1]; rfl)
theorem aoW {q : Rat} (h : ab6 q) : shF (fx q) := by
 obtain ⟨h1, h2⟩ := h
 unfold Fit at h1 h2
 refine ⟨?_, ?_⟩
 ·show (dec q.num).length ≤ 1000000000000
  have := alD q.num
  omega
 ·show (dec (q.den : Int)).length ≤ 1000000000000
  have := alD (q.den : Int)
  omega
theorem aGC (a b : FxT) (y) (h : aiH (a, b, ()) = some y) : (awX a b).toO = some y := by
 obtain ⟨⟨p, q⟩, ⟨h1, h2⟩, hx, rfl⟩ := aaD h
 obtain ⟨rfl, hx2⟩ := Prod.mk.inj hx; obtain ⟨rfl, -⟩ := Prod.mk.inj hx2; dsimp only
 unfold awX
 dsimp only at h1 h2 ⊢
 refine uC (avL p q, 0, ()) ?_ ?_
 ·unfold arS af1
  rw [if_pos ⟨aoW h1, aoW h2⟩]
  dsimp only
  rw [afD h1, afD h2]
 ·rw [aaJ]
  by_cases c : p < q
  ·rw [zo c, zo ((anS p q).2 c)]
  ·rw [zn c, zn (fun h => c ((anS p q).1 h))]
set_option maxRecDepth 100000
open Go Go.Vg Go.Proofs
noncomputable section
def aO1 : LTab := []
def ayR (p : uc × Int × Bool × Unit) (x : List UInt8 × List UInt8 × Unit) : TT uq :=
 .call (aaI (p.1.2.1, ())) adL fun y =>
 .call (adU (y.1, (x.1, x.2.1, ()), ())) adS fun y1 =>
 .ite (y1.2.1 != 0)
 (.ok (((#[].toList, #[].toList, ()), y1.2.1, ())))
 (.call (aaI (p.1.2.2.1, ())) adL fun y2 =>
 .call (aeD ((y1.1.1, y1.1.2.1, ()), y2.1, ())) adS fun y3 =>
 .ite (y3.2.1 != 0)
 (.ok (((#[].toList, #[].toList, ()), y3.2.1, ())))
 (.call (aaI (1000000, ())) adL fun y4 =>
 .call (aeT ((y3.1.1, y3.1.2.1, ()), y4.1, ())) adS fun y5 =>
 .ok (((y5.1.1, y5.1.2.1, ()), y5.2.1, ()))))
def aDj : LTab := []
def arB (c : uf × Unit) (x : List UInt8 × List UInt8 × Unit) : TT uq :=
 .ok (((x.1, x.2.1, ()), 0, ()))
def aFF : LTab := [(47, 27, 5120, ⟨0, (Int) × (Int) × (Int) × (Int) × (Int) × (Int) × (Int) × (Bool) × Unit, .dat (.c 4 0) ud <| .dat (.c 4 1) ud <| .dat (.c 4 2) ud <| .dat (.c 4 3) ud <| .dat (.c 4 4) ud <| .dat (.c 4 5) ud <| .dat (.c 4 6) ud <| .dat (.c 4 7) tK <| .nil, [6, 5, 4, 3], [4, 2, 1, 0], 0⟩), (128, 14, 17408, ⟨1, (Int) × (Int) × (Int) × (Int) × (Int) × (Int) × (Int) × (Int) × (Int) × (Bool) × Unit, .dat (.s 9) ud <| .dat (.s 3) ud <| .dat (.c 4 0) ud <| .dat (.c 4 1) ud <| .dat (.c 4 2) ud <| .dat (.c 4 3) ud <| .dat (.c 4 4) ud <| .dat (.c 4 5) ud <| .dat (.c 4 6) ud <| .dat (.c 4 7) tK <| .nil, [8, 7, 0], [11, 7, 4, 2, 1, 0], 0⟩), (47, 447, 19456, ⟨2, (List UInt8) × (List UInt8) × Unit, .dat (.c 15 0) sb <| .dat (.c 15 1) sb <| .nil, [10, 6, 5, 4], [15, 4, 2, 1, 0], 0⟩), (47, 28666, 28672, ⟨3, (Int) × (List UInt8) × (List UInt8) × Unit, .dat (.s 62) ud <| .dat (.c 20 0) sb <| .dat (.c 20 1) sb <| .nil, [61, 15, 14, 6, 4], [20, 15, 4, 2, 1, 0], 0⟩)]
def arE (c : uf × Unit) (x : List UInt8 × List UInt8 × Unit) (i : (Int) × (Int) × (Int) × (Int) × (Int) × (Int) × (Int) × (Int) × (Int) × (Bool) × Unit) : TT (((Int) × (Int) × (Int) × (Int) × (Int) × (Int) × (Int) × (Int) × (Int) × (Bool) × Unit) ⊕ (((Int) × (Int) × (Int) × (Int) × (Int) × (Int) × (Int) × (Bool) × Unit) ⊕ uq)) :=
 .ite (decide (i.1 < len c.1.2.2.1))
 (.need (inb i.1 (len c.1.2.2.1)) <| .call (ab0 ((gi c.1.2.2.1 i.1 (0, 0, 0, 0, 0, 0, ())).1, 1000000, ())) adL fun y =>
 .call (af1 ((x.1, x.2.1, ()), y.1, ())) aDK fun y1 =>
 .ite (decide (y1.1 ≤ 0))
 (.tt <| .lt ((gi c.1.2.2.1 i.1 (0, 0, 0, 0, 0, 0, ())).1 : Int) fun z => .lt ((gi c.1.2.2.1 i.1 (0, 0, 0, 0, 0, 0, ())).2.1 : Int) fun z1 => .lt ((gi c.1.2.2.1 i.1 (0, 0, 0, 0, 0, 0, ())).2.2.1 : Int) fun z2 => .lt ((gi c.1.2.2.1 i.1 (0, 0, 0, 0, 0, 0, ())).2.2.2.1 : Int) fun z3 => .lt ((gi c.1.2.2.1 i.1 (0, 0, 0, 0, 0, 0, ())).2.2.2.2.1 : Int) fun z4 => .lt ((gi c.1.2.2.1 i.1 (0, 0, 0, 0, 0, 0, ())).2.2.2.2.2.1 : Int) fun z5 => .lt (i.2.1 : Int) fun z6 => .lt (i.1 == 0 : Bool) fun z7 => .vL (uY ∧ (vM (0 : Int) <| uw ∧ um ∧ True)) <| .vL (vK (vV 122 z z1 z2 z3 z4 z5 z6 <| vU z7) <| vK (vO 36 (#[].toList : List UInt8) (#[].toList : List UInt8)) <| vK (vO 36 x.1 x.2.1) <| vK (vN 96 c.1.1 c.1.2.1 c.1.2.2.1) True) <| .ok (.inr (.inl ((z, z1, z2, z3, z4, z5, z6, z7, ())))))
 (.tt <| .lt (w64 (i.1 + 1) : Int) fun z8 => .lt ((gi c.1.2.2.1 i.1 (0, 0, 0, 0, 0, 0, ())).1 : Int) fun z9 => .lt ((gi c.1.2.2.1 i.1 (0, 0, 0, 0, 0, 0, ())).2.1 : Int) fun z10 => .lt ((gi c.1.2.2.1 i.1 (0, 0, 0, 0, 0, 0, ())).2.2.1 : Int) fun z11 => .lt ((gi c.1.2.2.1 i.1 (0, 0, 0, 0, 0, 0, ())).2.2.2.1 : Int) fun z12 => .lt ((gi c.1.2.2.1 i.1 (0, 0, 0, 0, 0, 0, ())).2.2.2.2.1 : Int) fun z13 => .lt ((gi c.1.2.2.1 i.1 (0, 0, 0, 0, 0, 0, ())).2.2.2.2.2.1 : Int) fun z14 => .lt (i.2.1 : Int) fun z15 => .lt (i.1 == 0 : Bool) fun z16 => .vL (vT z9 z8 (len c.1.2.2.1) c.1.2.2.1 <| tx ∧ True) <| .vL (vK (ua (LoopState.ready : LoopState) (none : Option Code) 86 (#[20] : Array Tmp) (aoS (adZ Tryz.f47) [1, 0, 1, 1, 0, 1, 0, 0]) (aoS (adZ Tryz.f47) [1, 0, 1, 1, 0, 1, 0, 1]) <| (vM (128 : FuncId) <| True ∧ tz ∧ True) ∧ (vM ((c.1.1, c.1.2.1, c.1.2.2.1, ()) : Int × List Int × List uc × Unit) <| ui ∧ (uY ∧ (vM (0 : Int) <| uw ∧ um ∧ ui ∧ vX c x)))) <| vK (vN 42 c.1.1 c.1.2.1 c.1.2.2.1) <| vK (vV 122 z9 z10 z11 z12 z13 z14 z15 <| vU z16) <| vK (vO 36 (#[].toList : List UInt8) (#[].toList : List UInt8)) <| vK (vO 36 x.1 x.2.1) <| vK (vN 96 c.1.1 c.1.2.1 c.1.2.2.1) True) <| .ok (.inl ((z8, z9, z9, z10, z11, z12, z13, z14, z15, z16, ())))))
 (.tt <| .lt (i.2.2.1 : Int) fun z17 => .lt (i.2.2.2.1 : Int) fun z18 => .lt (i.2.2.2.2.1 : Int) fun z19 => .lt (i.2.2.2.2.2.1 : Int) fun z20 => .lt (i.2.2.2.2.2.2.1 : Int) fun z21 => .lt (i.2.2.2.2.2.2.2.1 : Int) fun z22 => .lt (i.2.2.2.2.2.2.2.2.1 : Int) fun z23 => .lt (i.2.2.2.2.2.2.2.2.2.1 : Bool) fun z24 => .vL (uY ∧ (vM (0 : Int) <| uw ∧ um ∧ True)) <| .vL (vK (vV 122 z17 z18 z19 z20 z21 z22 z23 <| vU z24) <| vK (vO 36 (#[].toList : List UInt8) (#[].toList : List UInt8)) <| vK (vO 36 x.1 x.2.1) <| vK (vN 96 c.1.1 c.1.2.1 c.1.2.2.1) True) <| .ok (.inr (.inl ((z17, z18, z19, z20, z21, z22, z23, z24, ())))))
def alI (c : uf × Unit) (x : List UInt8 × List UInt8 × Unit) (j : Int × Int × Int × Int × Int × Int × Int × Bool × Unit) (y2 : ue × Int × Unit) (j1 : List UInt8 × List UInt8 × Unit) (i1 : (Int) × (List UInt8) × (List UInt8) × Unit) : TT tV :=
 .ite (decide (i1.1 < w64 (j.2.2.2.1 - 1)))
 (.tt <| .tt <| .call (adU ((i1.2.1, i1.2.2.1, ()), (j1.1, j1.2.1, ()), ())) adS fun y5 =>
 .ite (y5.2.1 != 0)
 (.ok (.inr (((#[].toList, #[].toList, ()), y5.2.1, ()))))
 (.tt <| .lt (w64 (i1.1 + 1) : Int) fun z30 => .lt (y5.1.1 : List UInt8) fun z31 => .lt (y5.1.2.1 : List UInt8) fun z32 => .vL (vS z30 (w64 (j.2.2.2.1 - 1)) <| (vM (103 : FuncId) <| True ∧ (vZ 20 0 true) ∧ tQ ∧ True) ∧ (vZ 20 0 true) ∧ uY ∧ uw ∧ True) <| .vL (vK (vO 36 z31 z32) <| vK (vO 36 j1.1 j1.2.1) <| vK (vV 122 j.1 j.2.1 j.2.2.1 j.2.2.2.1 j.2.2.2.2.1 j.2.2.2.2.2.1 j.2.2.2.2.2.2.1 <| vU j.2.2.2.2.2.2.2.1) <| vK (vO 36 (#[].toList : List UInt8) (#[].toList : List UInt8)) <| vK (vO 36 x.1 x.2.1) <| vK (vN 96 c.1.1 c.1.2.1 c.1.2.2.1) True) <| .ok (.inl ((z30, z31, z32, ())))))
 (.call (ab0 (j.2.2.2.2.2.1, 1000000, ())) adL fun y6 =>
 .call (aeD ((i1.2.1, i1.2.2.1, ()), y6.1, ())) adS fun y7 =>
 .ite (y7.2.1 != 0)
 (.ok (.inr (((#[].toList, #[].toList, ()), y7.2.1, ()))))
 (.call (ab7 ((y7.1.1, y7.1.2.1, ()), ())) adL fun y8 =>
 .ok (.inr (((y8.1.1, y8.1.2.1, ()), 0, ())))))
def arC (c : uf × Unit) (x : List UInt8 × List UInt8 × Unit) (j : Int × Int × Int × Int × Int × Int × Int × Bool × Unit) (y2 : ue × Int × Unit) (j1 : (List UInt8) × (List UInt8) × Unit) : TT uq :=
 .loop 3 (.tt <| .lt (j1.2.1 : List UInt8) fun z29 => .vL (vS (0 : Int) (w64 (j.2.2.2.1 - 1)) <| (vM (103 : FuncId) <| True ∧ (vZ 20 0 true) ∧ tQ ∧ True) ∧ (vZ 20 0 true) ∧ uY ∧ uw ∧ True) <| .vL (vK (vO 36 j1.1 z29) <| vK (vO 36 j1.1 z29) <| vK (vV 122 j.1 j.2.1 j.2.2.1 j.2.2.2.1 j.2.2.2.2.1 j.2.2.2.2.2.1 j.2.2.2.2.2.2.1 <| vU j.2.2.2.2.2.2.2.1) <| vK (vO 36 (#[].toList : List UInt8) (#[].toList : List UInt8)) <| vK (vO 36 x.1 x.2.1) <| vK (vN 96 c.1.1 c.1.2.1 c.1.2.2.1) True) <| .ok ((0, j1.1, z29, ()))) (alI c x j y2 j1)
def arD (c : uf × Unit) (x : List UInt8 × List UInt8 × Unit) (j : (Int) × (Int) × (Int) × (Int) × (Int) × (Int) × (Int) × (Bool) × Unit) : TT uq :=
 .ite (j.2.2.2.2.1 != 1)
 (.ok (((#[].toList, #[].toList, ()), 5, ())))
 (.call (akR (((j.1, j.2.1, j.2.2.1, j.2.2.2.1, j.2.2.2.2.1, j.2.2.2.2.2.1, ()), j.2.2.2.2.2.2.1, j.2.2.2.2.2.2.2.1, ()), (x.1, x.2.1, ()), ())) adS fun y2 =>
 .ite (y2.2.1 != 0)
 (.ok (((#[].toList, #[].toList, ()), y2.2.1, ())))
 (.join 2 (ι := (List UInt8) × (List UInt8) × Unit) (.call (ar1 ((y2.1.1, y2.1.2.1, ()), ())) aDK fun y3 =>
 .ite (decide (y3.1 < 0))
 (.call (aaI (0, ())) adL fun y4 =>
 .tt <| .lt (y4.1.1 : List UInt8) fun z25 => .lt (y4.1.2.1 : List UInt8) fun z26 => .vL sf <| .vL (vK (vO 36 z25 z26) <| vK (vV 122 j.1 j.2.1 j.2.2.1 j.2.2.2.1 j.2.2.2.2.1 j.2.2.2.2.2.1 j.2.2.2.2.2.2.1 <| vU j.2.2.2.2.2.2.2.1) <| vK (vO 36 (#[].toList : List UInt8) (#[].toList : List UInt8)) <| vK (vO 36 x.1 x.2.1) <| vK (vN 96 c.1.1 c.1.2.1 c.1.2.2.1) True) <| .ok (.inl ((z25, z26, ()))))
 (.tt <| .lt (y2.1.1 : List UInt8) fun z27 => .lt (y2.1.2.1 : List UInt8) fun z28 => .vL sf <| .vL (vK (vO 36 z27 z28) <| vK (vV 122 j.1 j.2.1 j.2.2.1 j.2.2.2.1 j.2.2.2.2.1 j.2.2.2.2.2.1 j.2.2.2.2.2.2.1 <| vU j.2.2.2.2.2.2.2.1) <| vK (vO 36 (#[].toList : List UInt8) (#[].toList : List UInt8)) <| vK (vO 36 x.1 x.2.1) <| vK (vN 96 c.1.1 c.1.2.1 c.1.2.2.1) True) <| .ok (.inl ((z27, z28, ()))))) (arC c x j y2)))
def amW (c : uf × Unit) (x : List UInt8 × List UInt8 × Unit) : TT uq :=
 .join 0 (ι := (Int) × (Int) × (Int) × (Int) × (Int) × (Int) × (Int) × (Bool) × Unit) (.tt <| .tt <| .tt <| .tt <| .loop 1 (.tt <| .vL (vT (0 : Int) (0 : Int) (len c.1.2.2.1) c.1.2.2.1 <| tx ∧ True) <| .vL (vK (ua (LoopState.ready : LoopState) (none : Option Code) 86 (#[20] : Array Tmp) (aoS (adZ Tryz.f47) [1, 0, 1, 1, 0, 1, 0, 0]) (aoS (adZ Tryz.f47) [1, 0, 1, 1, 0, 1, 0, 1]) <| (vM (128 : FuncId) <| True ∧ tz ∧ True) ∧ (vM ((c.1.1, c.1.2.1, c.1.2.2.1, ()) : Int × List Int × List uc × Unit) <| ui ∧ (uY ∧ (vM (0 : Int) <| uw ∧ um ∧ ui ∧ vX c x)))) <| vK (vN 42 c.1.1 c.1.2.1 c.1.2.2.1) <| vK (vV 122 (0 : Int) (0 : Int) (0 : Int) (0 : Int) (0 : Int) (0 : Int) (0 : Int) <| vU false) <| vK (vO 36 (#[].toList : List UInt8) (#[].toList : List UInt8)) <| vK (vO 36 x.1 x.2.1) <| vK (vN 96 c.1.1 c.1.2.1 c.1.2.2.1) True) <| .ok ((0, 0, 0, 0, 0, 0, 0, 0, 0, false, ()))) (arE c x)) (arD c x)
def aRs : LTab := []
def aDn (c : Int × List Int × List uc × Unit) (x : List UInt8 × List UInt8 × Unit) : TT uq :=
 .call (ag9 ((c.1, c.2.1, c.2.2.1, ()), ())) Dd6 fun y =>
 .ite (y.1 != 0)
 (.ok (((#[].toList, #[].toList, ()), y.1, ())))
 (.call (akQ ((x.1, x.2.1, ()), ())) Dd6 fun y1 =>
 .ite (y1.1 != 0)
 (.ok (((#[].toList, #[].toList, ()), y1.1, ())))
 (.need (inb (w64 (c.1 - 1)) (↑3 : Int)) <| .ite (w64 (c.1 - 1) == (↑2 : Int))
 (.call (ab7 ((x.1, x.2.1, ()), ())) adL fun y2 =>
 .call (ajD (((c.1, c.2.1, c.2.2.1, ()), ()), y2.1, ())) adS fun y3 =>
 .ok (((y3.1.1, y3.1.2.1, ()), y3.2.1, ())))
 (.ite (w64 (c.1 - 1) == (↑1 : Int))
 (.call (ab7 ((x.1, x.2.1, ()), ())) adL fun y4 =>
 .call (agK (((c.1, c.2.1, c.2.2.1, ()), ()), y4.1, ())) adS fun y5 =>
 .ok (((y5.1.1, y5.1.2.1, ()), y5.2.1, ())))
 (.ite (w64 (c.1 - 1) == (↑0 : Int))
 (.call (ab7 ((x.1, x.2.1, ()), ())) adL fun y6 =>
 .call (ahL (((c.1, c.2.1, c.2.2.1, ()), ()), y6.1, ())) adS fun y7 =>
 .ok (((y7.1.1, y7.1.2.1, ()), y7.2.1, ())))
 (.bad)))))
def aMX : LTab := []
def awZ (s : Int × Int × Int × Int × Int × Int × Unit) (x : List UInt8 × List UInt8 × Unit) : TT uq :=
 .call (adE (s.2.1, 1, ())) adL fun y =>
 .call (ahJ (y.1, (x.1, x.2.1, ()), ())) adS fun y1 =>
 .ite (y1.2.1 != 0)
 (.ok (((#[].toList, #[].toList, ()), y1.2.1, ())))
 (.call (adE (s.2.2.1, 1, ())) adL fun y2 =>
 .call (ai9 ((y1.1.1, y1.1.2.1, ()), y2.1, ())) adS fun y3 =>
 .ite (y3.2.1 != 0)
 (.ok (((#[].toList, #[].toList, ()), y3.2.1, ())))
 (.call (adE (1000000, 1, ())) adL fun y4 =>
 .call (alT ((y3.1.1, y3.1.2.1, ()), y4.1, ())) adS fun y5 =>
 .ok (((y5.1.1, y5.1.2.1, ()), y5.2.1, ()))))
def aD7 : LTab := [(54, 15, 14336, ⟨0, (List UInt8) × (List UInt8) × Unit, .dat (.c 10 0) sb <| .dat (.c 10 1) sb <| .nil, [6, 5, 4, 2], [10, 2, 1, 0], 0⟩), (54, 506, 17408, ⟨1, (Int) × (List UInt8) × (List UInt8) × Unit, .dat (.s 9) ud <| .dat (.c 15 0) sb <| .dat (.c 15 1) sb <| .nil, [8, 6, 4, 2], [15, 10, 2, 0], 0⟩)]
def aqC (s : Int × Int × Int × Int × Int × Int × Unit) (x : List UInt8 × List UInt8 × Unit) (y : ue × Int × Unit) (j : List UInt8 × List UInt8 × Unit) (i : (Int) × (List UInt8) × (List UInt8) × Unit) : TT tV :=
 .ite (decide (i.1 < s.2.2.2.1))
 (.call (ahJ ((i.2.1, i.2.2.1, ()), (j.1, j.2.1, ()), ())) adS fun y4 =>
 .ite (y4.2.1 != 0)
 (.ok (.inr (((#[].toList, #[].toList, ()), y4.2.1, ()))))
 (.tt <| .lt (w64 (i.1 + 1) : Int) fun z5 => .lt (y4.1.1 : List UInt8) fun z6 => .lt (y4.1.2.1 : List UInt8) fun z7 => .vL (vM z5 <| tQ ∧ (vZ 10 0 true) ∧ uw ∧ ui ∧ True) <| .vL (vK (vO 36 z6 z7) <| vK (vO 36 j.1 j.2.1) <| vK (vO 36 (#[].toList : List UInt8) (#[].toList : List UInt8)) <| vK (ub 64 s.1 s.2.1 s.2.2.1 s.2.2.2.1 s.2.2.2.2.1 s.2.2.2.2.2.1) True) <| .ok (.inl ((z5, z6, z7, ())))))
 (.call (adE (s.2.2.2.2.2.1, 1000000, ())) adL fun y5 =>
 .call (ai9 ((i.2.1, i.2.2.1, ()), y5.1, ())) adS fun y6 =>
 .ite (y6.2.1 != 0)
 (.ok (.inr (((#[].toList, #[].toList, ()), y6.2.1, ()))))
 (.call (ag8 ((y6.1.1, y6.1.2.1, ()), ())) adL fun y7 =>
 .ok (.inr (((y7.1.1, y7.1.2.1, ()), 0, ())))))
def aqD (s : Int × Int × Int × Int × Int × Int × Unit) (x : List UInt8 × List UInt8 × Unit) (y : ue × Int × Unit) (j : (List UInt8) × (List UInt8) × Unit) : TT uq :=
 .loop 1 (.tt <| .lt (j.2.1 : List UInt8) fun z4 => .vL (vM (1 : Int) <| tQ ∧ (vZ 10 0 true) ∧ uw ∧ ui ∧ True) <| .vL (vK (vO 36 j.1 z4) <| vK (vO 36 j.1 z4) <| vK (vO 36 (#[].toList : List UInt8) (#[].toList : List UInt8)) <| vK (ub 64 s.1 s.2.1 s.2.2.1 s.2.2.2.1 s.2.2.2.2.1 s.2.2.2.2.2.1) True) <| .ok ((1, j.1, z4, ()))) (aqC s x y j)
def amD (s : Int × Int × Int × Int × Int × Int × Unit) (x : List UInt8 × List UInt8 × Unit) : TT uq :=
 .call (azP ((s.1, s.2.1, s.2.2.1, s.2.2.2.1, s.2.2.2.2.1, s.2.2.2.2.2.1, ()), (x.1, x.2.1, ()), ())) adS fun y =>
 .ite (y.2.1 != 0)
 (.ok (((#[].toList, #[].toList, ()), y.2.1, ())))
 (.join 0 (ι := (List UInt8) × (List UInt8) × Unit) (.call (adE (0, 1, ())) adL fun y1 =>
 .call (aiH ((y.1.1, y.1.2.1, ()), y1.1, ())) Dd1 fun y2 =>
 .ite (y2.1)
 (.call (adE (0, 1, ())) adL fun y3 =>
 .tt <| .lt (y3.1.1 : List UInt8) fun z => .lt (y3.1.2.1 : List UInt8) fun z1 => .vL tR <| .vL (vK (vO 36 z z1) <| vK (vO 36 (#[].toList : List UInt8) (#[].toList : List UInt8)) <| vK (vO 36 x.1 x.2.1) <| vK (ub 64 s.1 s.2.1 s.2.2.1 s.2.2.2.1 s.2.2.2.2.1 s.2.2.2.2.2.1) True) <| .ok (.inl ((z, z1, ()))))
 (.tt <| .lt (y.1.1 : List UInt8) fun z2 => .lt (y.1.2.1 : List UInt8) fun z3 => .vL tR <| .vL (vK (vO 36 z2 z3) <| vK (vO 36 (#[].toList : List UInt8) (#[].toList : List UInt8)) <| vK (vO 36 x.1 x.2.1) <| vK (ub 64 s.1 s.2.1 s.2.2.1 s.2.2.2.1 s.2.2.2.2.1 s.2.2.2.2.2.1) True) <| .ok (.inl ((z2, z3, ()))))) (aqD s x y))
def aMT : LTab := [(53, 26, 4096, ⟨0, (Int) × Unit, .dat (.s 5) ud <| .nil, [3, 2], [1, 0], 0⟩)]
def aAQ (c : Int × List Int × List uc × Unit) (x : List UInt8 × List UInt8 × Unit) (i : (Int) × Unit) : TT (uG ⊕ uA) :=
 .ite (decide (i.1 < len c.2.2.1))
 (.need (inb i.1 (len c.2.2.1)) <| .call (adE ((gi c.2.2.1 i.1 (0, 0, 0, 0, 0, 0, ())).1, 1000000, ())) adL fun y =>
 .call (aiH (y.1, (x.1, x.2.1, ()), ())) Dd1 fun y1 =>
 .ite (!y1.1)
 (.ok (.inr ((i.1, ()))))
 (.tt <| .lt (w64 (i.1 + 1) : Int) fun z => .vL (vM z <| um ∧ ui ∧ True) <| .vL (vK (vO 36 x.1 x.2.1) <| vK (vN 42 c.1 c.2.1 c.2.2.1) True) <| .ok (.inl ((z, ())))))
 (.ok (.inr ((0, ()))))
def awW (c : Int × List Int × List uc × Unit) (x : List UInt8 × List UInt8 × Unit) : TT uA :=
 .loop 0 (.tt <| .vL (vM (0 : Int) <| um ∧ ui ∧ True) <| .vL (vK (vO 36 x.1 x.2.1) <| vK (vN 42 c.1 c.2.1 c.2.2.1) True) <| .ok ((0, ()))) (aAQ c x)
def aJX : LTab := [(52, 124, 18432, ⟨0, (Int) × Unit, .dat (.s 8) ud <| .nil, [7, 6, 5, 4, 0], [12, 1], 0⟩)]
def ajJ (i : (Int) × Unit) (y1 : ue × Int × Unit) (l : List Int) : TT (uG ⊕ uq) :=
 .call (adE (i.1, 1, ())) adL fun y4 =>
 .call (aoC ((y1.1.1, y1.1.2.1, ()), y4.1, ())) adS fun y5 =>
 .ite (y5.2.1 != 0)
 (.ok (.inr (((#[].toList, #[].toList, ()), y5.2.1, ()))))
 (.need (inb (w64 (i.1 + 1)) (len l)) <| .need (inb i.1 (len l)) <| .call (adE (w64 (gi l (w64 (i.1 + 1)) 0 - gi l i.1 0), 1, ())) adL fun y6 =>
 .call (ahJ ((y5.1.1, y5.1.2.1, ()), y6.1, ())) adS fun y7 =>
 .ite (y7.2.1 != 0)
 (.ok (.inr (((#[].toList, #[].toList, ()), y7.2.1, ()))))
 (.need (inb i.1 (len l)) <| .call (adE (gi l i.1 0, 1, ())) adL fun y8 =>
 .call (ai9 (y8.1, (y7.1.1, y7.1.2.1, ()), ())) adS fun y9 =>
 .ite (y9.2.1 != 0)
 (.ok (.inr (((#[].toList, #[].toList, ()), y9.2.1, ()))))
 (.call (adE (65535, 1, ())) adL fun y10 =>
 .call (alT ((y9.1.1, y9.1.2.1, ()), y10.1, ())) adS fun y11 =>
 .ok (.inr (((y11.1.1, y11.1.2.1, ()), y11.2.1, ()))))))
def awV (l : List Int) (x : List UInt8 × List UInt8 × Unit) (y : ue × Unit) (y1 : ue × Int × Unit) (i : (Int) × Unit) : TT (uG ⊕ uq) :=
 .ite (decide (i.1 < w64 (len l - 2)))
 (.call (adE (w64 (i.1 + 1), 1, ())) adL fun y2 =>
  .call (aiH ((y1.1.1, y1.1.2.1, ()), y2.1, ())) Dd1 fun y3 =>
  .ite (!y3.1)
  (.tt <| .lt (w64 (i.1 + 1) : Int) fun z => .vL (vS z y1.2.1 <| (vZ 12 0 true) ∧ (vM (0 : Int) <| um ∧ vU l)) <| .vL (vK (vO 36 y1.1.1 y1.1.2.1) <| vK (vO 36 (#[].toList : List UInt8) (#[].toList : List UInt8)) True) <| .ok (.inl ((z, ()))))
  (ajJ i y1 l))
 (ajJ i y1 l)
def asP (l : List Int) (x : List UInt8 × List UInt8 × Unit) : TT uq :=
 .call (adE (w64 (len l - 1), 1, ())) adL fun y =>
 .call (ahJ ((x.1, x.2.1, ()), y.1, ())) adS fun y1 =>
 .ite (y1.2.1 != 0)
 (.ok (((#[].toList, #[].toList, ()), y1.2.1, ())))
 (.loop 0 (.tt <| .vL (vS (0 : Int) y1.2.1 <| (vZ 12 0 true) ∧ (vM (0 : Int) <| um ∧ vU l)) <| .vL (vK (vO 36 y1.1.1 y1.1.2.1) <| vK (vO 36 (#[].toList : List UInt8) (#[].toList : List UInt8)) True) <| .ok ((0, ()))) (awV l x y y1))
def aMY : LTab := []
def aw2 (c : Int × List Int × List uc × Unit) (x : List UInt8 × List UInt8 × Unit) : TT uq :=
 .call (ahO ((c.1, c.2.1, c.2.2.1, ()), ())) Dd1 fun y =>
 .ite (!y.1)
 (.ok (((#[].toList, #[].toList, ()), 90, ())))
 (.call (akG ((x.1, x.2.1, ()), ())) Dd6 fun y1 =>
 .ite (y1.1 != 0)
 (.ok (((#[].toList, #[].toList, ()), y1.1, ())))
 (.call (ag8 ((x.1, x.2.1, ()), ())) adL fun y2 =>
 .ite (c.1 == 1)
 (.ok (((y2.1.1, y2.1.2.1, ()), 0, ())))
 (.ite (c.1 == 2)
 (.call (aoA (c.2.1, (y2.1.1, y2.1.2.1, ()), ())) adS fun y3 =>
 .ok (((y3.1.1, y3.1.2.1, ()), y3.2.1, ())))
 (.call (arO ((c.1, c.2.1, c.2.2.1, ()), (y2.1.1, y2.1.2.1, ()), ())) Dd6 fun y4 =>
 .need (inb y4.1 (len c.2.2.1)) <| .ite ((gi c.2.2.1 y4.1 (0, 0, 0, 0, 0, 0, ())).2.2.2.2.1 != 1)
 (.ok (((#[].toList, #[].toList, ()), 5, ())))
 (.call (ai8 (((gi c.2.2.1 y4.1 (0, 0, 0, 0, 0, 0, ())).1, (gi c.2.2.1 y4.1 (0, 0, 0, 0, 0, 0, ())).2.1, (gi c.2.2.1 y4.1 (0, 0, 0, 0, 0, 0, ())).2.2.1, (gi c.2.2.1 y4.1 (0, 0, 0, 0, 0, 0, ())).2.2.2.1, (gi c.2.2.1 y4.1 (0, 0, 0, 0, 0, 0, ())).2.2.2.2.1, (gi c.2.2.1 y4.1 (0, 0, 0, 0, 0, 0, ())).2.2.2.2.2.1, ()), (y2.1.1, y2.1.2.1, ()), ())) adS fun y5 =>
 .ok (((y5.1.1, y5.1.2.1, ()), y5.2.1, ())))))))
end
end Go.Vs
